/- A pack of texts: LawEnd InfLaid DefLaid. -/
import Derived.LaidMore
import Derived.Lib.LaidTab
import Derived.Lib.LaidU8
import Derived.ProofKit
import Derived.Stop.Joined
import Derived.Stop.LaidErr
import Derived.Test.YtloijdbkikccgaaGreatDoorRows
import Derived.Test.YtloijdbkikccgaaGreatDoorPk01
import Derived.Test.YtloijdbkikccgaaGreatDoorPk15
import Derived.Test.YtloijdbkikccgaaGreatDoorPk16
import Derived.Test.YtloijdbkikccgaaGreatDoorPk28
import Derived.Test.YtloijdbkikccgaaGreatDoorPk33
namespace Go.Proofs.YtloijdbkikccgaaGreatDoor
set_option linter.unusedVariables false
set_option linter.unusedSimpArgs false
open Go.RowKit
theorem law_end {P:Program} {f:FuncId} {args:Array Value} {w:World} (h:Calls P f args w fun e w'=>e=.returned (.bool true)/\Sp w [Same w] w') :
  Calls P f args w fun e w'=>e=.returned (.bool true)/\Below w.heap.size w w':=h.mono fun _ _ k=>⟨k.1,k.2.below 0 rfl⟩
open Go.ChangeShapes Go.WideShapes Go.ChangeAt Go.RowKit Go.Lib
def pairData (l:List (Nat × Nat)):DataW Unit:=.slice (l.map fun x=>.agg [.lit (.int .i64 (x.1:Int)),.lit (.int .i64 (x.2:Int))]) []
theorem pairs_of_reads {P:Program} {w:World} {name:String} {g:Nat} {t e:TypeId} {f0 f1:Field} {l:List (Nat × Nat)} (hn:P.globalNamed name=some g) (hy:(P.globals[g]?).map (·.type)=some t)
  (ht:P.underlying t=some (.slice e)) (he:P.underlying e=some (.struct #[f0,f1])) (hc:P.cellsOf e=2) (h0:P.underlying f0.type=some (.int .i64)) (h1:P.underlying f1.type=some (.int .i64))
  (hf0:f0.offset=0/\P.cellsOf f0.type=1) (hf1:f1.offset=1/\P.cellsOf f1.type=1) (hl:0<l.length) (h:VarReads P w name (pairData l)) :
  ∃A c,w.cell? ⟨g,0,none⟩=some (.slice A l.length c)/\Rd w A (cellsP l):=by
 obtain⟨g',t',cs,fuel,p,hg,hty,hvar,hd⟩:=h
 obtain rfl:=Option.some.inj (hn.symm.trans hg)
 obtain rfl:=Option.some.inj (hy.symm.trans hty)
 rcases DataW.trod_slice ht hd with ⟨_,hx⟩ | ⟨a,len,cap,el,rs,m,rfl,hcs,hx,_,hlc,_,hel,helem,hsp,_⟩
 ·cases hx
 have e0:=congrArg Prod.fst hx
 simp only [pairData,DataW.slice.injEq] at e0
 obtain⟨eE,eR⟩:=e0
 have hlen:len=l.length:=by
  have:=congrArg List.length eE
  simp at this
  omega
 have hcell:∀i,i<l.length->w.cell? (a.add (i * 2))=some (.int .i64 ((l.getD i (0,0)).1:Nat))/\w.cell? (a.add (i * 2+1))=some (.int .i64 ((l.getD i (0,0)).2:Nat)):=by
  intro i hi
  have h9:=helem i (by omega)
  rw [hc] at h9
  obtain⟨b,hb⟩:∃b,el[i]?=some b:=⟨el[i]'(by omega),List.getElem?_eq_getElem (by omega)⟩
  rw [hb] at h9
  obtain⟨ce,hce,hte⟩:=Option.bind_eq_some_iff.1 h9
  obtain⟨xs,n,_,hbx,hcl,hlen2,hf⟩:=DataW.trod_struct he hte
  have hb1:b.1=.agg [.lit (.int .i64 ((l.getD i (0,0)).1:Nat)),.lit (.int .i64 ((l.getD i (0,0)).2:Nat))]:=by
   have:=congrArg (·[i]?) eE
   simp [hb,hi,List.getD] at this
   have e2:l.getD i (0,0)=l[i]:=by simp [List.getD,List.getElem?_eq_getElem hi]
   rw [e2]
   exact this.symm
  rw [hc] at hcl
  obtain⟨_,_,hat⟩:=World.cells?_some hce
  match ce,hcl,xs,hlen2 with
  | [c0,c1],_,[y0,y1],_ =>
   have g0:=hf 0 f0 rfl
   have g1:=hf 1 f1 rfl
   rw [hf0.1,hf0.2] at g0
   rw [hf1.1,hf1.2] at g1
   replace g0:DataW.trod _ P w 0 (fun _=>true) false n f0.type [c0]=some y0:=g0
   replace g1:DataW.trod _ P w 0 (fun _=>true) false n f1.type [c1]=some y1:=g1
   obtain⟨z0,q0,d0,_⟩:=DataW.trod_int h0 g0
   obtain⟨z1,q1,d1,_⟩:=DataW.trod_int h1 g1
   rw [hbx] at hb1
   simp only [List.map_cons,List.map_nil,DataW.agg.injEq,List.cons.injEq,and_true] at hb1
   obtain⟨k0,k1⟩:=hb1
   rw [d0] at k0
   rw [d1] at k1
   simp only [DataW.lit.injEq,Lit.int.injEq,true_and] at k0 k1
   replace q0:c0=.int .i64 z0:=by simpa using q0
   replace q1:c1=.int .i64 z1:=by simpa using q1
   have a0:=hat 0 (by simp)
   have a1:=hat 1 (by simp)
   rw [Go.Addr.add_add] at a0 a1
   refine⟨?_,?_⟩
   ·rw [<- k0,<- q0]; simpa using a0
   ·rw [<- k1,<- q1]; simpa using a1
 obtain⟨R,o,sR⟩:=a
 refine⟨some ⟨R,o,sR⟩,cap,?_,fun _=>⟨_,rfl,fun j u hj=>?_⟩⟩
 ·rw [World.var?_cell hg hvar 0,<- Array.getElem?_toList,hcs,hlen]
  rfl
 ·have hj2:j<l.length * 2:=by
   have:=(List.getElem?_eq_some_iff.1 hj).1
   rwa [cellsP_len] at this
  have hg2:=cellsP_get l (j / 2) (by omega)
  have hc2:=hcell (j / 2) (by omega)
  by_cases hpar:j % 2=0
  ·have e:j / 2 * 2=j:=by omega
   rw [e] at hg2 hc2
   rw [hc2.1,<- hg2.1,hj]
  ·have e:j / 2 * 2+1=j:=by omega
   rw [e] at hg2 hc2
   rw [hc2.2,<- hg2.2,hj]
theorem gOrd : Tryz.prog.globalNamed "portolan/inflate.order" = some 5 := by kernel_rfl
theorem tOrd:(Tryz.prog.globals[5]?).map (·.type)=some 192:=by kernel_rfl
theorem gLen : Tryz.prog.globalNamed "portolan/inflate.lengths" = some 7 := by kernel_rfl
theorem tLen:(Tryz.prog.globals[7]?).map (·.type)=some 245:=by kernel_rfl
theorem gAwy : Tryz.prog.globalNamed "portolan/inflate.away" = some 4 := by kernel_rfl
theorem tAwy:(Tryz.prog.globals[4]?).map (·.type)=some 245:=by kernel_rfl
def ordZ:List Int:=PI.orderT.map fun n:Nat=>(n:Int)
open Go.ChangeShapes Go.WideShapes Go.ChangeAt Go.RowKit Go.Lib
theorem tab_of_reads {P:Program} {w:World} {name:String} {k:IntKind} {zs:List Int} {g:Nat} {t e:TypeId} {n:Nat}
  (hg:P.globalNamed name=some g) (hy:(P.globals[g]?).map (·.type)=some t) (ht:P.underlying t=some (.array n e)) (he:P.underlying e=some (.int k)) (hce:P.cellsOf e=1) (hct:P.cellsOf t=n)
  (h:VarReads P w name (Lib.tabData k zs)):Lib.TabIs P w name k zs:=by
 obtain⟨g',t',cs,fuel,p,hg',hty,hvar,hd⟩:=h
 obtain rfl:=Option.some.inj (hg.symm.trans hg')
 obtain rfl:=Option.some.inj (hy.symm.trans hty)
 have h1:=Lib.cells_of_tab ht he hce hct hd
 unfold Lib.TabIs
 rw [hvar,<- h1]
theorem gDOrd : Tryz.prog.globalNamed "portolan/deflate.order" = some 2 := by kernel_rfl
theorem tDOrd:(Tryz.prog.globals[2]?).map (·.type)=some 192:=by kernel_rfl
theorem gDLen : Tryz.prog.globalNamed "portolan/deflate.longs" = some 0 := by kernel_rfl
theorem tDLen:(Tryz.prog.globals[0]?).map (·.type)=some 112:=by kernel_rfl
theorem gDAwy : Tryz.prog.globalNamed "portolan/deflate.fars" = some 1 := by kernel_rfl
theorem tDAwy:(Tryz.prog.globals[1]?).map (·.type)=some 112:=by kernel_rfl
theorem dtabs_of_reads {W : World} (ho : VarReads Tryz.prog W "portolan/deflate.order" (Lib.tabData .i64 ordZ)) (hl : VarReads Tryz.prog W "portolan/deflate.longs" (pairData PD.longT)) (ha : VarReads Tryz.prog W "portolan/deflate.fars" (pairData PI.awayT)) : ∃ DL DF dl df, DTabs DL DF dl df W := by
 have hT:=tab_of_reads (k:=.i64) (zs:=ordZ) gDOrd tDOrd Tryz.underlying192 Tryz.underlying3 (by kernel_rfl) (by kernel_rfl) ho
 obtain⟨TL,cl,e1,e2⟩:=pairs_of_reads gDLen tDLen Tryz.underlying112 Tryz.underlying109 (by kernel_rfl) Tryz.underlying3 Tryz.underlying3 ⟨rfl,by kernel_rfl⟩ ⟨rfl,by kernel_rfl⟩ (by decide) hl
 obtain⟨TA,ca,e3,e4⟩:=pairs_of_reads gDAwy tDAwy Tryz.underlying112 Tryz.underlying109 (by kernel_rfl) Tryz.underlying3 Tryz.underlying3 ⟨rfl,by kernel_rfl⟩ ⟨rfl,by kernel_rfl⟩ (by decide) ha
 refine⟨TL,TA,cl,ca,e1,e2,e3,e4,fun i hi=>?_⟩
 have:=hT.cell gDOrd i (by simpa [ordZ,PI.orderT] using hi)
 rw [this]
 have:∀i,i<19->ordZ.getD i 0=((PI.orderT.getD i 0:Nat):Int):=by decide
 rw [this i hi]
theorem itabs_of_reads {W : World} (ho : VarReads Tryz.prog W "portolan/inflate.order" (Lib.tabData .i64 ordZ)) (hl : VarReads Tryz.prog W "portolan/inflate.lengths" (pairData PI.lengthsT)) (ha : VarReads Tryz.prog W "portolan/inflate.away" (pairData PI.awayT)) : ∃ TL TA cl ca, Tabs TL TA cl ca W := by
 have hT:=tab_of_reads (k:=.i64) (zs:=ordZ) gOrd tOrd Tryz.underlying192 Tryz.underlying3 (by kernel_rfl) (by kernel_rfl) ho
 obtain⟨TL,cl,e1,e2⟩:=pairs_of_reads gLen tLen Tryz.underlying245 Tryz.underlying266 (by kernel_rfl) Tryz.underlying3 Tryz.underlying3 ⟨rfl,by kernel_rfl⟩ ⟨rfl,by kernel_rfl⟩ (by decide) hl
 obtain⟨TA,ca,e3,e4⟩:=pairs_of_reads gAwy tAwy Tryz.underlying245 Tryz.underlying266 (by kernel_rfl) Tryz.underlying3 Tryz.underlying3 ⟨rfl,by kernel_rfl⟩ ⟨rfl,by kernel_rfl⟩ (by decide) ha
 refine⟨TL,TA,cl,ca,e1,e2,e3,e4,fun i hi=>?_⟩
 have:=hT.cell gOrd i (by simpa [ordZ,PI.orderT] using hi)
 rw [this]
 have:∀i,i<19->ordZ.getD i 0=((PI.orderT.getD i 0:Nat):Int):=by decide
 rw [this i hi]
theorem laid6 {W : World} (h : laidMetH Tryz.prog [("portolan/deflate.order", Rows.laid_portolan_deflate_order), ("portolan/deflate.longs", Rows.laid_portolan_deflate_longs), ("portolan/deflate.fars", Rows.laid_portolan_deflate_fars), ("portolan/inflate.order", Rows.laid_portolan_inflate_order), ("portolan/inflate.lengths", Rows.laid_portolan_inflate_lengths), ("portolan/inflate.away", Rows.laid_portolan_inflate_away)] W) : (∃ TL TA cl ca, Tabs TL TA cl ca W) /\ ∃ DL DF dl df, DTabs DL DF dl df W := by
 rw [MakeChecks.laidMetH_plain _ _ _ (by kernel_rfl)] at h
 have h0 : VarReads Tryz.prog W "portolan/deflate.order" (Lib.tabData .i64 ordZ) := laidMet.reads h (by simp only [List.mem_cons]; exact .inl rfl)
 have h1 : VarReads Tryz.prog W "portolan/deflate.longs" (pairData PD.longT) := laidMet.reads h (by simp only [List.mem_cons]; exact .inr (.inl rfl))
 have h2 : VarReads Tryz.prog W "portolan/deflate.fars" (pairData PI.awayT) := laidMet.reads h (by simp only [List.mem_cons]; exact .inr (.inr (.inl rfl)))
 have h3 : VarReads Tryz.prog W "portolan/inflate.order" (Lib.tabData .i64 ordZ) := laidMet.reads h (by simp only [List.mem_cons]; exact .inr (.inr (.inr (.inl rfl))))
 have h4 : VarReads Tryz.prog W "portolan/inflate.lengths" (pairData PI.lengthsT) := laidMet.reads h (by simp only [List.mem_cons]; exact .inr (.inr (.inr (.inr (.inl rfl)))))
 have h5 : VarReads Tryz.prog W "portolan/inflate.away" (pairData PI.awayT) := laidMet.reads h (by simp only [List.mem_cons]; exact .inr (.inr (.inr (.inr (.inr (.inl rfl))))))
 exact⟨itabs_of_reads h3 h4 h5,dtabs_of_reads h0 h1 h2⟩
end Go.Proofs.YtloijdbkikccgaaGreatDoor

