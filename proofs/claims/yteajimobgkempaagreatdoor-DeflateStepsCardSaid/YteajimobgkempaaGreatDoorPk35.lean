/- A pack. -/
import Derived.Deep.Fields
import Derived.OpenShut
import Derived.ProofKit
import Derived.Test.YteajimobgkempaaGreatDoorPk15
set_option linter.all false
set_option maxRecDepth 100000
set_option maxHeartbeats 8000000
namespace Go.Proofs.YteajimobgkempaaGreatDoor
variable {w0 w:World} {L:List Pr}
open Go.ChangeShapes Go.WideShapes Go.ChangeAt Go.RowKit Go.Deep
section
variable {H:Type} {enc:TypeId × Value->H} {P:Program} {w:World} {base:Nat} {spare:Nat->Bool} {held:Bool}
end
theorem Rd.same {W:World} {A:Option Addr} {xs:List Value} (h:Rd W A xs) (k:Nat) (hk:L[k]?=some (Same W)):Ent L (fun w=>Rd w A xs) :=
 Ent.of_same k hk fun _ hs=>h.keep fun p _ _ hp=>World.cell?_of_block (hs p.block (Z2 hp))
open Go.ChangeShapes Go.WideShapes Go.ChangeAt Go.RowKit Go.Deep
structure PartV where
 p:PI.WPart
 bv:Value
 cv:Value
instance:Inhabited PartV:=⟨⟨⟨0,[],[]⟩,undef,undef⟩⟩
def cellsPr (l:List (Nat × Nat)):List Value:=l.flatMap fun c=>[.int .u16 c.1,.int .u16 c.2]
def PartV.cells (x:PartV):List Value:=[.int .u8 x.p.kind,x.bv,x.cv]
def PartV.Ok (w:World) (x:PartV):Prop:=x.p.kind<256/\Byt w x.bv x.p.bytes/\(∃A c,x.cv=.slice A x.p.copies.length c/\Rd w A (cellsPr x.p.copies)/\x.p.copies.length<=c/\c<=maxLen)/\∀c ∈ x.p.copies,c.1<65536/\c.2<65536
theorem Xl {α β:Type} (f:α->List β) (z:Nat) (hf:∀p,(f p).length=z):∀(ps:List α) (i j:Nat),j<z->i<ps.length->∃p,ps[i]?=some p/\(ps.flatMap f)[i * z+j]?=(f p)[j]?:=by
 intro ps;induction ps with
 | nil=>intro i j _ h; cases h
 | cons p ps ih =>
  intro i j a b;rw [List.flatMap_cons];cases i with
  | zero=>exact⟨p,rfl,by rw [Nat.zero_mul,Nat.zero_add,List.getElem?_append_left (by rw [hf]; exact a)]⟩
  | succ i =>
   obtain⟨q,c,d⟩:=ih i j a (by simpa using b);refine⟨q,c,?_⟩;rw [List.getElem?_append_right (by rw [hf,Nat.succ_mul]; omega),hf,show(i+1) * z+j - z=i * z+j by rw [Nat.succ_mul]; omega];exact d
theorem Xm {α β:Type} (f:α->List β) (z:Nat) (hf:∀p,(f p).length=z) (ps:List α):(ps.flatMap f).length=ps.length * z:=by
 induction ps with
 | nil=>simp
 | cons p ps ih=>rw [List.flatMap_cons,List.length_append,hf,ih,List.length_cons,Nat.succ_mul,Nat.add_comm]
section
variable {H:Type} {enc:TypeId × Value->H} {P:Program} {w:World} {base:Nat} {spare:Nat->Bool} {held:Bool}
theorem Vv {α:Type} [Inhabited α] (z:Nat) (hz:0<z) (f:α->List Value) (hf:∀p,(f p).length=z) (Good:α->Prop) {t e:TypeId} {A:Option Addr} {len cap:Nat} {fuel:Nat} {x:DataW H × List MemPlace} (ht:P.underlying t=some (.slice e)) (hC:P.cellsOf e=z)
  (hel:∀n cs y,cs.length=z->DataW.trod enc P w base (fun _=>true) held n e cs=some y->∃p,cs=f p/\Good p)
  (h:DataW.trod enc P w base (fun _=>true) held fuel t [.slice A len cap]=some x):∃ps:List α,Rd w A (ps.flatMap f)/\len=ps.length/\len<=cap/\cap<=maxLen/\∀p ∈ ps,Good p:=by
 rcases open_slice ht h with ⟨hcs,_⟩ | ⟨a,l,c,m,n,D,Pl,hcs,hb,hl,hm,hmm,_,hi⟩
 ·have:A=none/\len=0/\cap=0:=by simpa using hcs
  obtain⟨rfl,rfl,rfl⟩:=this;exact⟨[],Rd.nil,rfl,Nat.le_refl _,by simp [maxLen],fun p h=>by cases h⟩
 ·have:A=some a/\len=l/\cap=c:=by simpa using hcs
  obtain⟨rfl,rfl,rfl⟩:=this;rw [if_pos rfl] at hmm;have r:∀i,i<len->∃p:α,(∀j,j<z->w.cell? (a.add (i * z+j))=(f p)[j]?)/\Good p:=by
   intro i I;obtain⟨J,C,s⟩:=hi i (by omega);rw [hC] at C;obtain⟨_,b,v⟩:=World.cells?_some C;obtain⟨p,rfl,q⟩:=hel _ _ _ b s;refine⟨p,fun j hj=>?_,q⟩;have:=v j hj;rw [Go.Addr.add_add] at this;exact this
  obtain⟨g,q⟩:=choose_lt r;refine⟨(List.range len).map g,fun _=>⟨a,rfl,fun k u hu=>?_⟩,by simp,hl,hm,fun p hp=>?_⟩
  ·have K:k<len * z:=by
    have d:=(List.getElem?_eq_some_iff.1 hu).1;rw [Xm f z hf] at d;simpa using d
   have B:k / z<len:=(Nat.div_lt_iff_lt_mul hz).2 K;have E:k % z<z:=Nat.mod_lt _ hz;have o:k / z * z+k % z=k:=by rw [Nat.mul_comm]; exact Nat.div_add_mod k z
   obtain⟨p,d,F⟩:=Xl f z hf ((List.range len).map g) (k / z) (k % z) E (by simpa using B);rw [o,hu] at F;have L:p=g (k / z):=by
    rw [List.getElem?_map,List.getElem?_range B] at d;exact(Option.some.inj d).symm
   have G:=(q (k / z) B).1 (k % z) E;rw [o] at G;rw [G,F,L]
  ·obtain⟨j,hj,rfl⟩:=List.mem_map.1 hp;exact(q j (List.mem_range.1 hj)).2
end
theorem PartV.Ok.keep {w w' : World} {x:PartV} (h:x.Ok w) (hs:∀b,b<w.heap.size->w'.heap[b]?=w.heap[b]?):x.Ok w':=by
 obtain⟨a,d,⟨A,c,e,f,g⟩,i⟩:=h;exact⟨a,d.keep fun p _ hp=>World.cell?_of_block (hs p.block (Z2 hp)),⟨A,c,e,f.keep fun p _ _ hp=>World.cell?_of_block (hs p.block (Z2 hp)),g⟩,i⟩
end Go.Proofs.YteajimobgkempaaGreatDoor

