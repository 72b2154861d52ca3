/- A pack. -/
import Derived.LaidMore
import Derived.Lib.LaidU8
import Derived.ShutString
import Derived.Stop.LaidErr
import Derived.Test.YteajimobgkempaaDoorCards
import Derived.Test.YteajimobgkempaaDoorTie
import Derived.Test.YteajimobgkempaaDoorPk40
set_option linter.all false
set_option maxRecDepth 100000
set_option maxHeartbeats 8000000
namespace Go.Proofs.YteajimobgkempaaDoor
open Go.ChangeShapes Go.WideShapes Go.ChangeAt Go.RowKit Go.Lib
def pairData (l:List (Nat × Nat)):DataW Unit:=.slice (l.map fun x=>.agg [.lit (.int .i64 x.1),.lit (.int .i64 x.2)]) []
theorem Z0 {P:Program} {w:World} {name:String} {g:Nat} {t e:TypeId} {f0 f1:Field} {l:List (Nat × Nat)} (hn:P.globalNamed name=some g) (hy:(P.globals[g]?).map (·.type)=some t)
  (ht:P.underlying t=some (.slice e)) (he:P.underlying e=some (.struct #[f0,f1])) (hc:P.cellsOf e=2) (h0:P.underlying f0.type=some (.int .i64)) (h1:P.underlying f1.type=some (.int .i64))
  (hf0:f0.offset=0/\P.cellsOf f0.type=1) (hf1:f1.offset=1/\P.cellsOf f1.type=1) (hl:0<l.length) (h:VarReads P w name (pairData l)) :
  ∃A c,w.cell? ⟨g,0,none⟩=some (.slice A l.length c)/\Rd w A (cellsP l):=by
 obtain⟨g',t',cs,L,p,M,C,s,X⟩:=h;obtain rfl:=Option.some.inj (hn.symm.trans M);obtain rfl:=Option.some.inj (hy.symm.trans C);rcases DataW.trod_slice ht X with ⟨_,hx⟩ | ⟨a,len,cap,el,rs,m,rfl,hcs,hx,_,hlc,_,hel,helem,hsp,_⟩
 ·cases hx
 have N:=congrArg Prod.fst hx;simp only [pairData,DataW.slice.injEq] at N;obtain⟨O,eR⟩:=N;have v:len=l.length:=by
  have:=congrArg List.length O;simp at this;omega
 have k:∀i,i<l.length->w.cell? (a.add (i * 2))=some (.int .i64 ((l.getD i (0,0)).1:Nat))/\w.cell? (a.add (i * 2+1))=some (.int .i64 ((l.getD i (0,0)).2:Nat)):=by
  intro i Q;have D:=helem i (by omega);rw [hc] at D;obtain⟨b,S⟩:∃b,el[i]?=some b:=⟨el[i]'(by omega),List.getElem?_eq_getElem (by omega)⟩;rw [S] at D;obtain⟨Y,E,F⟩:=Option.bind_eq_some_iff.1 D;obtain⟨Z,n,_,G,x,q,T⟩:=DataW.trod_struct he F;have r:b.1=.agg [.lit (.int .i64 ((l.getD i (0,0)).1:Nat)),.lit (.int .i64 ((l.getD i (0,0)).2:Nat))]:=by
   have:=congrArg (·[i]?) O;simp [S,Q,List.getD] at this;have e2:l.getD i (0,0)=l[i]:=by simp [List.getD,List.getElem?_eq_getElem Q]
   rw [e2];exact this.symm
  rw [hc] at x;obtain⟨_,_,y⟩:=World.cells?_some E
  match Y,x,Z,q with
  | [c0,c1],_,[y0,y1],_ =>
   have z:=T 0 f0 rfl;have B:=T 1 f1 rfl;rw [hf0.1,hf0.2] at z;rw [hf1.1,hf1.2] at B;replace z:DataW.trod _ P w 0 (fun _=>true) false n f0.type [c0]=some y0:=z;replace B:DataW.trod _ P w 0 (fun _=>true) false n f1.type [c1]=some y1:=B;obtain⟨z0,H,d0,_⟩:=DataW.trod_int h0 z;obtain⟨z1,I,d1,_⟩:=DataW.trod_int h1 B;rw [G] at r;simp only [List.map_cons,List.map_nil,DataW.agg.injEq,List.cons.injEq,and_true] at r;obtain⟨J,K⟩:=r;rw [d0] at J;rw [d1] at K;simp only [DataW.lit.injEq,Lit.int.injEq,true_and] at J K;replace H:c0=.int .i64 z0:=by simpa using H
   replace I:c1=.int .i64 z1:=by simpa using I
   have U:=y 0 (by simp);have V:=y 1 (by simp);rw [Go.Addr.add_add] at U V;refine⟨?_,?_⟩
   ·rw [<- J,<- H]; simpa using U
   ·rw [<- K,<- I]; simpa using V
 obtain⟨R,o,sR⟩:=a;refine⟨some ⟨R,o,sR⟩,cap,?_,fun _=>⟨_,rfl,fun j u hj=>?_⟩⟩
 ·rw [World.var?_cell M s 0,<- Array.getElem?_toList,hcs,v];rfl
 ·have a2:j<l.length * 2:=by
   have:=(List.getElem?_eq_some_iff.1 hj).1
   rwa [YN] at this
  have d:=Yg l (j / 2) (by omega);have f:=k (j / 2) (by omega);by_cases W:j % 2=0
  ·have e:j / 2 * 2=j:=by omega
   rw [e] at d f;rw [f.1,<- d.1,hj]
  ·have e:j / 2 * 2+1=j:=by omega
   rw [e] at d f;rw [f.2,<- d.2,hj]
def ordZ:List Int:=PI.orderT.map fun n:Nat=>(n:Int)
open Go.ChangeShapes Go.WideShapes Go.ChangeAt Go.RowKit Go.Lib
theorem Xq {P:Program} {w:World} {name:String} {k:IntKind} {zs:List Int} {g:Nat} {t e:TypeId} {n:Nat}
  (hg:P.globalNamed name=some g) (hy:(P.globals[g]?).map (·.type)=some t) (ht:P.underlying t=some (.array n e)) (he:P.underlying e=some (.int k)) (hce:P.cellsOf e=1) (hct:P.cellsOf t=n)
  (h:VarReads P w name (Lib.tabData k zs)):Lib.TabIs P w name k zs:=by
 obtain⟨j,l,m,d,p,b,c,a,f⟩:=h;obtain rfl:=Option.some.inj (hg.symm.trans b);obtain rfl:=Option.some.inj (hy.symm.trans c);have i:=Lib.cells_of_tab ht he hce hct f;unfold Lib.TabIs;rw [a,<- i]
theorem gDOrd : Tryd.prog.globalNamed "portolan/deflate.order" = some 1 := by kernel_rfl
theorem tDOrd:(Tryd.prog.globals[1]?).map (·.type)=some 87:=by kernel_rfl
theorem gDLen : Tryd.prog.globalNamed "portolan/deflate.longs" = some 0 := by kernel_rfl
theorem tDLen:(Tryd.prog.globals[0]?).map (·.type)=some 132:=by kernel_rfl
theorem gDAwy : Tryd.prog.globalNamed "portolan/deflate.fars" = some 4 := by kernel_rfl
theorem tDAwy:(Tryd.prog.globals[4]?).map (·.type)=some 132:=by kernel_rfl
theorem YI {W : World} (ho : VarReads Tryd.prog W "portolan/deflate.order" (Lib.tabData .i64 ordZ)) (hl : VarReads Tryd.prog W "portolan/deflate.longs" (pairData PD.longT)) (ha : VarReads Tryd.prog W "portolan/deflate.fars" (pairData PI.awayT)) : ∃ DL DF dl df, DTabs DL DF dl df W := by
 have hT:=Xq (k:=.i64) (zs:=ordZ) gDOrd tDOrd Tryd.underlying87 Tryd.underlying3 (by kernel_rfl) (by kernel_rfl) ho;obtain⟨TL,cl,e1,e2⟩:=Z0 gDLen tDLen Tryd.underlying132 Tryd.underlying129 (by kernel_rfl) Tryd.underlying3 Tryd.underlying3 ⟨rfl,by kernel_rfl⟩ ⟨rfl,by kernel_rfl⟩ (by decide) hl;obtain⟨TA,ca,e3,e4⟩:=Z0 gDAwy tDAwy Tryd.underlying132 Tryd.underlying129 (by kernel_rfl) Tryd.underlying3 Tryd.underlying3 ⟨rfl,by kernel_rfl⟩ ⟨rfl,by kernel_rfl⟩ (by decide) ha;refine⟨TL,TA,cl,ca,e1,e2,e3,e4,fun i hi=>?_⟩;have:=hT.cell gDOrd i (by simpa [ordZ,PI.orderT] using hi);rw [this];have:∀i,i<19->ordZ.getD i 0=((PI.orderT.getD i 0:Nat):Int):=by decide
 rw [this i hi]
theorem laid3 {W : World} (h : laidMetH Tryd.prog [("portolan/deflate.order", Rows.laid_portolan_deflate_order), ("portolan/deflate.longs", Rows.laid_portolan_deflate_longs), ("portolan/deflate.fars", Rows.laid_portolan_deflate_fars)] W) : ∃ DL DF dl df, DTabs DL DF dl df W := by
 rw [MakeChecks.laidMetH_plain _ _ _ (by kernel_rfl)] at h;have h0 : VarReads Tryd.prog W "portolan/deflate.order" (Lib.tabData .i64 ordZ) := laidMet.reads h (by simp only [List.mem_cons]; exact .inl rfl)
 have h1 : VarReads Tryd.prog W "portolan/deflate.longs" (pairData PD.longT) := laidMet.reads h (by simp only [List.mem_cons]; exact .inr (.inl rfl))
 have h2 : VarReads Tryd.prog W "portolan/deflate.fars" (pairData PI.awayT) := laidMet.reads h (by simp only [List.mem_cons]; exact .inr (.inr (.inl rfl)))
 exact YI h0 h1 h2
end Go.Proofs.YteajimobgkempaaDoor

namespace Go.Proofs.YteajimobgkempaaDoor.deflateBytes
open Go.ChangeShapes Go.WideShapes Go.ChangeAt Go.RowKit Go.WideMaps Go.WideElems
open Go.ChangeMaps (open_string shut_string)

theorem own:ownKnob Tryd.prog.godebug=none:=by kernel_rfl
theorem laidOut:laidOutB Tryd.prog=true:=by kernel_rfl
def laidL : List (String × DataW Unit) := [("portolan/deflate.order", Rows.laid_portolan_deflate_order), ("portolan/deflate.longs", Rows.laid_portolan_deflate_longs), ("portolan/deflate.fars", Rows.laid_portolan_deflate_fars)]
theorem door_met (os:Os) (args:Array Value):laidMetH Tryd.prog laidL ((World.doorLaid Tryd.prog 4000 os).forCall (fun _ _=>0) ⟨#[],args,[]⟩).memory :=
 laidMetH_of_parts3 (fuel:=10) (laidMet_of_run' 10 (by kernel_rfl) (by kernel_rfl)) (by kernel_rfl) (by kernel_rfl)
theorem lifted (os:Os) (started:os.Started) (H:Type) (enc:TypeId × Value->H) :
  ReturnsInHanded {} Tryd.checked os 4 .any (fun w args=>(Rows.deflateBytesSpec.pre enc Tryd.prog Tryd.f4 [] false w args/\laidMetH Tryd.prog laidL w)/\sizedMet enc Tryd.prog Tryd.f4 (OpenSpec.ofChange Rows.deflateBytesSpec) false w args)
   (Rows.deflateBytesSpec.post enc Tryd.prog Tryd.f4 false true false false):=by
 refine returnsInHanded_of_change_and (C:=Tryd.checked) (X:=fun w _=>laidMetH Tryd.prog laidL w) (fun _ _ _ hh h=>h.of_heap hh) own started (by kernel_rfl) Tryd.func4
  (ChangeSpec.witness_shaped (enc:=enc) (C:=Tryd.checked) (os:=os) (X:=fun w _=>laidMetH Tryd.prog laidL w) false (World.doorLaid Tryd.prog 4000 os) #[.slice none 0 0] 8 rfl (World.shaped_of_RefB (by kernel_rfl) (by kernel_rfl)) (by kernel_rfl) (by kernel_rfl) (by kernel_rfl) (door_met os _)) ?_
 intro W base args E S i a s _ _ F _;have b:∀(j:Nat) t v,Tryd.f4.params[j]?=some t->args[j]?=some v->Value.okWide Tryd.prog W .any base t v:=a;have k:=s;obtain⟨p,q,f,G,rfl,I,J⟩:=s;have u:DataW.TrodAll enc Tryd.prog W 0 (fun _=>true) true Tryd.f4.params.toList args.toList E p:=f;rw [Tryd.params4] at u b;obtain⟨y,K,T,L,M,U,n,rfl,rfl,z,N⟩:=trodAll_cons u;obtain⟨rfl,rfl,rfl⟩:=trodAll_nil N;obtain rfl:args=#[y]:=by cases args; simp_all
 obtain⟨rfl,rfl⟩:=trodVars_none G;obtain⟨A,g,d,rfl⟩:=okWide_slice Tryd.underlying25 (b 0 25 y rfl rfl);have B:=z;have o:∀x ∈ M,x.block<W.heap.size:=by obtain⟨m,r⟩:=B; exact DataW.trod_lt m _ _ _ r
 obtain⟨V,O⟩:∃zs,IsRow .u8 W A g d zs:=by
  obtain⟨D,P⟩:=z;rcases open_ints Tryd.underlying25 Tryd.underlying5 (by kernel_rfl) P with ⟨hcs,_⟩ | ⟨x,l,c,zs,hcs,_,hl,r,hz,_,hcell,hwz⟩
  ·simp [Value.cells] at hcs;obtain⟨rfl,rfl,rfl⟩:=hcs;exact⟨[],.inl ⟨rfl,rfl,rfl,rfl⟩⟩
  ·simp [Value.cells] at hcs;obtain⟨rfl,rfl,rfl⟩:=hcs;exact⟨zs,.inr ⟨_,rfl,hl,r,by simpa using hz,hcell,hwz⟩⟩
 obtain⟨Q,rfl,R⟩:=O.byt;clear f a;refine(VY (Ws A d Q (laid3 F) R)).mono fun e W' ⟨he,bel⟩=>?_;subst he;exact⟨_,rfl,_,_,_,[],_,[],k,trodAll_mk1 (shut_bool Tryd.underlying4 _),(trodAll_cons_mk (Below.trod laidOut (by kernel_rfl) (of_decide_eq_true (by kernel_rfl)) B bel o) trodAll_mk0),rfl,bel.frame _,fun h=>by cases h⟩

theorem over:Rows.deflateBytesRow.holds Tryd.pinned (OpenSpec.ofChange Rows.deflateBytesSpec) :=
 OpenClaim.holds_of_wide 4 Tryd.f4 rfl rfl rfl rfl rfl rfl rfl ⟨rfl,rfl,rfl,rfl,rfl⟩ rfl rfl rfl rfl rfl (by kernel_rfl) Tryd.func4 (by kernel_rfl)
  (of_decide_eq_true (by kernel_rfl)) (by unfold Func.isWrapper; first | (rw [if_pos (by decide +kernel)]; kernel_rfl) | (rw [if_neg (by decide +kernel)]; exact⟨rfl,rfl⟩))
  (fun os started H enc _=>lifted os started H enc)
theorem row_proved:Rows.DeflateBytesSaid:=over
theorem proved:Rows.DeflateBytesCardSaid :=
  Claim7.holds_tied_plain_at .later [] [.widerDeep, .widerDeep, .widerDeep] true (true, "b2b02eefa364347a91537108810746a155c4e13814576028c036a55b4b5db5ea") true
    row_proved (fun _ h=>by cases h) (by kernel_rfl) (fun _ h=>by cases h) deflateBytes_row_tie rfl ⟨rfl,rfl⟩ (by kernel_rfl) rfl
    (fun f fn hf hfn=>by
      obtain rfl : f = 4 := Option.some.inj ((show Tryd.prog.funcNamed "portolan/portolanlaw07.DeflateBytes" = some 4 by kernel_rfl).symm.trans hf) |>.symm
      obtain rfl:fn=Tryd.f4:=(Option.some.inj (Tryd.func4.symm.trans hfn)).symm
      exact⟨by kernel_rfl,fun j t ht=>by
        rw [Tryd.params4] at ht
        have hm:t ∈ [25]:=by simpa using Array.mem_of_getElem? ht
        have hall:([25].all fun u=>!Tryd.prog.wantsStandIn u)=true:=by kernel_rfl
        exact(show Tryd.prog.wantsStandIn t=false by simpa using List.all_eq_true.1 hall t hm)⟩)
    (by kernel_rfl)
#print axioms proved
end Go.Proofs.YteajimobgkempaaDoor.deflateBytes

