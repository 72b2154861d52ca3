/- A pack of texts: DefSg4 LawEnd InfLaid DefLaid DeflateSignsProof. -/
import Derived.Below
import Derived.ChangeOld
import Derived.LaidMore
import Derived.Lib.LaidTab
import Derived.Lib.LaidU8
import Derived.OpenShut
import Derived.ProofKit
import Derived.SevenTiedAt
import Derived.ShutString
import Derived.Stop.Joined
import Derived.Stop.LaidErr
import Derived.Test.YtloijdbkikccgaaDoorCards
import Derived.Test.YtloijdbkikccgaaDoorRows
import Derived.Test.YtloijdbkikccgaaDoorTie
import Derived.WalkKit
import Derived.Test.YtloijdbkikccgaaDoorPk01
import Derived.Test.YtloijdbkikccgaaDoorPk14
import Derived.Test.YtloijdbkikccgaaDoorPk26
import Derived.Test.YtloijdbkikccgaaDoorPk28
import Derived.Test.YtloijdbkikccgaaDoorPk29
import Derived.Test.YtloijdbkikccgaaDoorPk30
import Derived.Test.YtloijdbkikccgaaDoorPk31
import Derived.Test.YtloijdbkikccgaaDoorPk32
import Derived.Test.YtloijdbkikccgaaDoorPk33
import Derived.Test.YtloijdbkikccgaaDoorPk34
import Derived.Test.YtloijdbkikccgaaDoorPk35
import Derived.Test.YtloijdbkikccgaaDoorPk36
import Derived.Test.YtloijdbkikccgaaDoorPk37
namespace Go.Proofs.YtloijdbkikccgaaDoor
set_option linter.unusedVariables false
set_option linter.unusedSimpArgs false
open Go.RowKit
theorem dsigns_law (n m:Int) {W:World} (hD:∃DL DF dl df,DTabs DL DF dl df W) :
  Calls Tryd.prog 5 #[.int .i64 n,.int .i64 m] W fun e w'=>e=.returned (.bool true)/\Sp W [Same W] w':=by
 obtain⟨DL,DF,dl,df,hD⟩:=hD
 have h9:Ent [Same W] (DTabs DL DF dl df):=Ent.of_same 0 rfl fun _ hs=>hD.heap hs
 rcases Int.lt_trichotomy n m with h | rfl | h
 ·by_cases h1:n<1
  ·exact dsigns_lta n m h h1 DL DF dl df (Sp.start W) h9
  ·by_cases h2:n<3
   ·exact dsigns_ltb n m h (by omega) h2 DL DF dl df (Sp.start W) h9
   ·by_cases h3:n<=258
    ·exact dsigns_ltc n m h (by omega) h3 DL DF dl df (Sp.start W) h9
    ·by_cases h4:n<=32768
     ·exact dsigns_ltd n m h (by omega) h4 DL DF dl df (Sp.start W) h9
     ·exact dsigns_lte n m h (by omega) DL DF dl df (Sp.start W) h9
 ·exact dsigns_eq n DL DF dl df (Sp.start W) h9
 ·by_cases h1:n<1
  ·exact dsigns_gta n m h h1 DL DF dl df (Sp.start W) h9
  ·by_cases h2:n<3
   ·exact dsigns_gtb n m h (by omega) h2 DL DF dl df (Sp.start W) h9
   ·by_cases h3:n<=258
    ·exact dsigns_gtc n m h (by omega) h3 DL DF dl df (Sp.start W) h9
    ·by_cases h4:n<=32768
     ·exact dsigns_gtd n m h (by omega) h4 DL DF dl df (Sp.start W) h9
     ·exact dsigns_gte n m h (by omega) DL DF dl df (Sp.start W) h9
theorem law_end {P:Program} {f:FuncId} {args:Array Value} {w:World} (h:Calls P f args w fun e w'=>e=.returned (.bool true)/\Sp w [Same w] w') :
  Calls P f args w fun e w'=>e=.returned (.bool true)/\Below w.heap.size w w':=h.mono fun _ _ k=>⟨k.1,k.2.below 0 rfl⟩
open Go.ChangeShapes Go.WideShapes Go.ChangeAt Go.RowKit Go.Lib
def pairData (l:List (Nat × Nat)):DataW Unit:=.slice (l.map fun x=>.agg [.lit (.int .i64 (x.1:Int)),.lit (.int .i64 (x.2:Int))]) []
theorem pairs_of_reads {P:Program} {w:World} {name:String} {g:Nat} {t e:TypeId} {f0 f1:Field} {l:List (Nat × Nat)} (hn:P.globalNamed name=some g) (hy:(P.globals[g]?).map (·.type)=some t)
  (ht:P.underlying t=some (.slice e)) (he:P.underlying e=some (.struct #[f0,f1])) (hc:P.cellsOf e=2) (h0:P.underlying f0.type=some (.int .i64)) (h1:P.underlying f1.type=some (.int .i64))
  (hf0:f0.offset=0/\P.cellsOf f0.type=1) (hf1:f1.offset=1/\P.cellsOf f1.type=1) (hl:0<l.length) (h:VarReads P w name (pairData l)) :
  ∃A c,w.cell? ⟨g,0,none⟩=some (.slice A l.length c)/\Rd w A (cellsP l):=by
 obtain⟨g',t',cs,fuel,p,hg,hty,hvar,hd⟩:=h
 obtain rfl:=Option.some.inj (hn.symm.trans hg)
 obtain rfl:=Option.some.inj (hy.symm.trans hty)
 rcases DataW.trod_slice ht hd with ⟨_,hx⟩ | ⟨a,len,cap,el,rs,m,rfl,hcs,hx,_,hlc,_,hel,helem,hsp,_⟩
 ·cases hx
 have e0:=congrArg Prod.fst hx
 simp only [pairData,DataW.slice.injEq] at e0
 obtain⟨eE,eR⟩:=e0
 have hlen:len=l.length:=by
  have:=congrArg List.length eE
  simp at this
  omega
 have hcell:∀i,i<l.length->w.cell? (a.add (i * 2))=some (.int .i64 ((l.getD i (0,0)).1:Nat))/\w.cell? (a.add (i * 2+1))=some (.int .i64 ((l.getD i (0,0)).2:Nat)):=by
  intro i hi
  have h9:=helem i (by omega)
  rw [hc] at h9
  obtain⟨b,hb⟩:∃b,el[i]?=some b:=⟨el[i]'(by omega),List.getElem?_eq_getElem (by omega)⟩
  rw [hb] at h9
  obtain⟨ce,hce,hte⟩:=Option.bind_eq_some_iff.1 h9
  obtain⟨xs,n,_,hbx,hcl,hlen2,hf⟩:=DataW.trod_struct he hte
  have hb1:b.1=.agg [.lit (.int .i64 ((l.getD i (0,0)).1:Nat)),.lit (.int .i64 ((l.getD i (0,0)).2:Nat))]:=by
   have:=congrArg (·[i]?) eE
   simp [hb,hi,List.getD] at this
   have e2:l.getD i (0,0)=l[i]:=by simp [List.getD,List.getElem?_eq_getElem hi]
   rw [e2]
   exact this.symm
  rw [hc] at hcl
  obtain⟨_,_,hat⟩:=World.cells?_some hce
  match ce,hcl,xs,hlen2 with
  | [c0,c1],_,[y0,y1],_ =>
   have g0:=hf 0 f0 rfl
   have g1:=hf 1 f1 rfl
   rw [hf0.1,hf0.2] at g0
   rw [hf1.1,hf1.2] at g1
   replace g0:DataW.trod _ P w 0 (fun _=>true) false n f0.type [c0]=some y0:=g0
   replace g1:DataW.trod _ P w 0 (fun _=>true) false n f1.type [c1]=some y1:=g1
   obtain⟨z0,q0,d0,_⟩:=DataW.trod_int h0 g0
   obtain⟨z1,q1,d1,_⟩:=DataW.trod_int h1 g1
   rw [hbx] at hb1
   simp only [List.map_cons,List.map_nil,DataW.agg.injEq,List.cons.injEq,and_true] at hb1
   obtain⟨k0,k1⟩:=hb1
   rw [d0] at k0
   rw [d1] at k1
   simp only [DataW.lit.injEq,Lit.int.injEq,true_and] at k0 k1
   replace q0:c0=.int .i64 z0:=by simpa using q0
   replace q1:c1=.int .i64 z1:=by simpa using q1
   have a0:=hat 0 (by simp)
   have a1:=hat 1 (by simp)
   rw [Go.Addr.add_add] at a0 a1
   refine⟨?_,?_⟩
   ·rw [<- k0,<- q0]; simpa using a0
   ·rw [<- k1,<- q1]; simpa using a1
 obtain⟨R,o,sR⟩:=a
 refine⟨some ⟨R,o,sR⟩,cap,?_,fun _=>⟨_,rfl,fun j u hj=>?_⟩⟩
 ·rw [World.var?_cell hg hvar 0,<- Array.getElem?_toList,hcs,hlen]
  rfl
 ·have hj2:j<l.length * 2:=by
   have:=(List.getElem?_eq_some_iff.1 hj).1
   rwa [cellsP_len] at this
  have hg2:=cellsP_get l (j / 2) (by omega)
  have hc2:=hcell (j / 2) (by omega)
  by_cases hpar:j % 2=0
  ·have e:j / 2 * 2=j:=by omega
   rw [e] at hg2 hc2
   rw [hc2.1,<- hg2.1,hj]
  ·have e:j / 2 * 2+1=j:=by omega
   rw [e] at hg2 hc2
   rw [hc2.2,<- hg2.2,hj]
def ordZ:List Int:=PI.orderT.map fun n:Nat=>(n:Int)
open Go.ChangeShapes Go.WideShapes Go.ChangeAt Go.RowKit Go.Lib
theorem tab_of_reads {P:Program} {w:World} {name:String} {k:IntKind} {zs:List Int} {g:Nat} {t e:TypeId} {n:Nat}
  (hg:P.globalNamed name=some g) (hy:(P.globals[g]?).map (·.type)=some t) (ht:P.underlying t=some (.array n e)) (he:P.underlying e=some (.int k)) (hce:P.cellsOf e=1) (hct:P.cellsOf t=n)
  (h:VarReads P w name (Lib.tabData k zs)):Lib.TabIs P w name k zs:=by
 obtain⟨g',t',cs,fuel,p,hg',hty,hvar,hd⟩:=h
 obtain rfl:=Option.some.inj (hg.symm.trans hg')
 obtain rfl:=Option.some.inj (hy.symm.trans hty)
 have h1:=Lib.cells_of_tab ht he hce hct hd
 unfold Lib.TabIs
 rw [hvar,<- h1]
theorem gDOrd : Tryd.prog.globalNamed "portolan/deflate.order" = some 2 := by kernel_rfl
theorem tDOrd:(Tryd.prog.globals[2]?).map (·.type)=some 102:=by kernel_rfl
theorem gDLen : Tryd.prog.globalNamed "portolan/deflate.longs" = some 0 := by kernel_rfl
theorem tDLen:(Tryd.prog.globals[0]?).map (·.type)=some 89:=by kernel_rfl
theorem gDAwy : Tryd.prog.globalNamed "portolan/deflate.fars" = some 1 := by kernel_rfl
theorem tDAwy:(Tryd.prog.globals[1]?).map (·.type)=some 89:=by kernel_rfl
theorem dtabs_of_reads {W : World} (ho : VarReads Tryd.prog W "portolan/deflate.order" (Lib.tabData .i64 ordZ)) (hl : VarReads Tryd.prog W "portolan/deflate.longs" (pairData PD.longT)) (ha : VarReads Tryd.prog W "portolan/deflate.fars" (pairData PI.awayT)) : ∃ DL DF dl df, DTabs DL DF dl df W := by
 have hT:=tab_of_reads (k:=.i64) (zs:=ordZ) gDOrd tDOrd Tryd.underlying102 Tryd.underlying3 (by kernel_rfl) (by kernel_rfl) ho
 obtain⟨TL,cl,e1,e2⟩:=pairs_of_reads gDLen tDLen Tryd.underlying89 Tryd.underlying86 (by kernel_rfl) Tryd.underlying3 Tryd.underlying3 ⟨rfl,by kernel_rfl⟩ ⟨rfl,by kernel_rfl⟩ (by decide) hl
 obtain⟨TA,ca,e3,e4⟩:=pairs_of_reads gDAwy tDAwy Tryd.underlying89 Tryd.underlying86 (by kernel_rfl) Tryd.underlying3 Tryd.underlying3 ⟨rfl,by kernel_rfl⟩ ⟨rfl,by kernel_rfl⟩ (by decide) ha
 refine⟨TL,TA,cl,ca,e1,e2,e3,e4,fun i hi=>?_⟩
 have:=hT.cell gDOrd i (by simpa [ordZ,PI.orderT] using hi)
 rw [this]
 have:∀i,i<19->ordZ.getD i 0=((PI.orderT.getD i 0:Nat):Int):=by decide
 rw [this i hi]
theorem laid3 {W : World} (h : laidMetH Tryd.prog [("portolan/deflate.order", Rows.laid_portolan_deflate_order), ("portolan/deflate.longs", Rows.laid_portolan_deflate_longs), ("portolan/deflate.fars", Rows.laid_portolan_deflate_fars)] W) : ∃ DL DF dl df, DTabs DL DF dl df W := by
 rw [MakeChecks.laidMetH_plain _ _ _ (by kernel_rfl)] at h
 have h0 : VarReads Tryd.prog W "portolan/deflate.order" (Lib.tabData .i64 ordZ) := laidMet.reads h (by simp only [List.mem_cons]; exact .inl rfl)
 have h1 : VarReads Tryd.prog W "portolan/deflate.longs" (pairData PD.longT) := laidMet.reads h (by simp only [List.mem_cons]; exact .inr (.inl rfl))
 have h2 : VarReads Tryd.prog W "portolan/deflate.fars" (pairData PI.awayT) := laidMet.reads h (by simp only [List.mem_cons]; exact .inr (.inr (.inl rfl)))
 exact dtabs_of_reads h0 h1 h2
end Go.Proofs.YtloijdbkikccgaaDoor

namespace Go.Proofs.YtloijdbkikccgaaDoor.deflateSigns
open Go.ChangeShapes Go.WideShapes Go.ChangeAt Go.RowKit Go.WideMaps Go.WideElems
open Go.ChangeMaps (open_string shut_string)
set_option linter.unusedVariables false

theorem own:ownKnob Tryd.prog.godebug=none:=by kernel_rfl
theorem laidOut:laidOutB Tryd.prog=true:=by kernel_rfl
def laidL : List (String × DataW Unit) := [("portolan/deflate.order", Rows.laid_portolan_deflate_order), ("portolan/deflate.longs", Rows.laid_portolan_deflate_longs), ("portolan/deflate.fars", Rows.laid_portolan_deflate_fars)]
theorem door_met (os:Os) (args:Array Value):laidMetH Tryd.prog laidL ((World.doorLaid Tryd.prog 4000 os).forCall (fun _ _=>0) ⟨#[],args,[]⟩).memory :=
 laidMetH_of_parts3 (fuel:=10) (laidMet_of_run' 10 (by kernel_rfl) (by kernel_rfl)) (by kernel_rfl) (by kernel_rfl)
set_option maxRecDepth 100000 in
set_option maxHeartbeats 1000000 in
theorem lifted (os:Os) (started:os.Started) (H:Type) (enc:TypeId × Value->H) :
  ReturnsInHanded {} Tryd.checked os 5 .any (fun w args=>(Rows.deflateSignsSpec.pre enc Tryd.prog Tryd.f5 [] false w args/\laidMetH Tryd.prog laidL w)/\sizedMet enc Tryd.prog Tryd.f5 (OpenSpec.ofChange Rows.deflateSignsSpec) false w args)
   (Rows.deflateSignsSpec.post enc Tryd.prog Tryd.f5 false true false false):=by
 refine returnsInHanded_of_change_and (C:=Tryd.checked) (X:=fun w _=>laidMetH Tryd.prog laidL w) (fun _ _ _ hh h=>h.of_heap hh) own started (by kernel_rfl) Tryd.func5
  (ChangeSpec.witness_shaped (enc:=enc) (C:=Tryd.checked) (os:=os) (X:=fun w _=>laidMetH Tryd.prog laidL w) false (World.doorLaid Tryd.prog 4000 os) #[.int .i64 0,.int .i64 0] 8 rfl (World.shaped_of_RefB (by kernel_rfl) (by kernel_rfl)) (by kernel_rfl) (by kernel_rfl) (by kernel_rfl) (door_met os _)) ?_
 intro W base args ds gs before hval0 hW _ _ hL _
 have hval:∀(j:Nat) t v,Tryd.f5.params[j]?=some t->args[j]?=some v->Value.okWide Tryd.prog W .any base t v:=hval0
 have hW':=hW
 obtain⟨p,q,hA0,hV,rfl,hfz,hnd⟩:=hW
 have hA:DataW.TrodAll enc Tryd.prog W 0 (fun _=>true) true Tryd.f5.params.toList args.toList ds p:=hA0
 rw [Tryd.params5] at hA hval
 obtain⟨v0,vs0,d0,ds0,p0,q0,hargs,rfl,rfl,h0,r0⟩:=trodAll_cons hA
 obtain⟨v1,vs1,d1,ds1,p1,q1,rfl,rfl,rfl,h1,r1⟩:=trodAll_cons r0
 obtain⟨rfl,rfl,rfl⟩:=trodAll_nil r1
 obtain rfl:args=#[v0,v1]:=by cases args; simp_all
 obtain⟨rfl,rfl⟩:=trodVars_none hV
 obtain⟨x0,rfl,rfl,rfl,wx0⟩:=open_int Tryd.underlying3 (hval 0 3 v0 rfl rfl) h0
 have bx0:=bounds_i64 wx0
 obtain⟨x1,rfl,rfl,rfl,wx1⟩:=open_int Tryd.underlying3 (hval 1 3 v1 rfl rfl) h1
 have bx1:=bounds_i64 wx1
 clear hA0 hval0
 refine(law_end (dsigns_law x0 x1 (laid3 hL))).mono fun e W' ⟨he,bel⟩=>?_
 subst he
 exact⟨_,rfl,_,_,_,[],_,[],hW',trodAll_mk1 (shut_bool Tryd.underlying4 _),(trodAll_cons_mk (shut_int Tryd.underlying3 wx0) (trodAll_cons_mk (shut_int Tryd.underlying3 wx1) trodAll_mk0)),rfl,bel.frame _,fun h=>by cases h⟩

theorem over:Rows.deflateSignsRow.holds Tryd.pinned (OpenSpec.ofChange Rows.deflateSignsSpec) :=
 OpenClaim.holds_of_wide 5 Tryd.f5 rfl rfl rfl rfl rfl rfl rfl ⟨rfl,rfl,rfl,rfl,rfl⟩ rfl rfl rfl rfl rfl (by kernel_rfl) Tryd.func5 (by kernel_rfl)
  (of_decide_eq_true (by kernel_rfl)) (by unfold Func.isWrapper; first | (rw [if_pos (by decide +kernel)]; kernel_rfl) | (rw [if_neg (by decide +kernel)]; exact⟨rfl,rfl⟩))
  (fun os started H enc _=>lifted os started H enc)
theorem row_proved:Rows.DeflateSignsSaid:=over
theorem proved:Rows.DeflateSignsCardSaid :=
  Claim7.holds_tied_plain_at .later [] [.widerDeep, .widerDeep, .widerDeep] true (true, "955181fd022f233822cdebfd449e0f4a7fccb7a58148b24261a915bcd7dd2d10") true
    row_proved (fun _ h=>by cases h) (by kernel_rfl) (fun _ h=>by cases h) deflateSigns_row_tie rfl ⟨rfl,rfl⟩ (by kernel_rfl) rfl
    (fun f fn hf hfn=>by
      obtain rfl : f = 5 := Option.some.inj ((show Tryd.prog.funcNamed "portolan/portolanlaw07.DeflateSigns" = some 5 by kernel_rfl).symm.trans hf) |>.symm
      obtain rfl:fn=Tryd.f5:=(Option.some.inj (Tryd.func5.symm.trans hfn)).symm
      exact⟨by kernel_rfl,fun j t ht=>by
        rw [Tryd.params5] at ht
        have hm:t ∈ [3,3]:=by simpa using Array.mem_of_getElem? ht
        have hall:([3,3].all fun u=>!Tryd.prog.wantsStandIn u)=true:=by kernel_rfl
        exact(show Tryd.prog.wantsStandIn t=false by simpa using List.all_eq_true.1 hall t hm)⟩)
    (by kernel_rfl)
#print axioms proved
end Go.Proofs.YtloijdbkikccgaaDoor.deflateSigns

