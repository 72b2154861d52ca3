/- A pack. -/
import Derived.Deep.Fields
import Derived.Test.YteajimobgkempaaGreatDoorPk19
set_option linter.all false
set_option maxRecDepth 100000
set_option maxHeartbeats 8000000
namespace Go.Proofs.YteajimobgkempaaGreatDoor
variable {w0 w:World} {L:List Pr}
open Go.ChangeShapes Go.WideShapes Go.ChangeAt Go.RowKit Go.Deep
section
variable {H:Type} {enc:TypeId × Value->H} {P:Program} {w:World} {base:Nat} {spare:Nat->Bool} {held:Bool}
theorem VZ {α:Type} [Inhabited α] (f:α->Value) (Good:α->Prop) {t e:TypeId} {A:Option Addr} {len cap:Nat} {fuel:Nat} {x:DataW H × List MemPlace} (ht:P.underlying t=some (.slice e)) (hC:P.cellsOf e=1)
  (hel:∀n c y,DataW.trod enc P w base (fun _=>true) held n e [c]=some y->∃p,c=f p/\Good p)
  (h:DataW.trod enc P w base (fun _=>true) held fuel t [.slice A len cap]=some x):∃ps:List α,Rd w A (ps.map f)/\len=ps.length/\len<=cap/\cap<=maxLen/\∀p ∈ ps,Good p:=by
 rcases open_slice ht h with ⟨hcs,_⟩ | ⟨a,l,c,m,n,D,Pl,hcs,hb,hl,hm,hmm,_,hi⟩
 ·have:A=none/\len=0/\cap=0:=by simpa using hcs
  obtain⟨rfl,rfl,rfl⟩:=this;exact⟨[],Rd.nil,rfl,Nat.le_refl _,by simp [maxLen],fun p h=>by cases h⟩
 ·have:A=some a/\len=l/\cap=c:=by simpa using hcs
  obtain⟨rfl,rfl,rfl⟩:=this;rw [if_pos rfl] at hmm;have o:∀i,i<len->∃p:α,w.cell? (a.add i)=some (f p)/\Good p:=by
   intro i z;obtain⟨q,v,r⟩:=hi i (by omega);rw [hC,Nat.mul_one] at v;obtain⟨_,b,s⟩:=World.cells?_some v
   match q,b with
   | [c0],_ =>
    obtain⟨p,rfl,d⟩:=hel _ _ _ r;have c0:=s 0 (by simp);rw [Go.Addr.add_add] at c0;exact⟨p,by simpa using c0,d⟩
  obtain⟨g,d⟩:=choose_lt o;refine⟨(List.range len).map g,fun _=>⟨a,rfl,fun j u hu=>?_⟩,by simp,hl,hm,fun p hp=>?_⟩
  ·rw [List.map_map,List.getElem?_map] at hu;have k:j<len:=by
    rcases Nat.lt_or_ge j len with h | h
    ·exact h
    ·rw [List.getElem?_eq_none (by simp; omega)] at hu; simp at hu
   rw [List.getElem?_range k] at hu;simp only [Option.map_some,Function.comp_apply,Option.some.injEq] at hu;rw [<- hu];exact(d j k).1
  ·obtain⟨j,k,rfl⟩:=List.mem_map.1 hp;exact(d j (List.mem_range.1 k)).2
end
theorem Rd.same {W:World} {A:Option Addr} {xs:List Value} (h:Rd W A xs) (k:Nat) (hk:L[k]?=some (Same W)):Ent L (fun w=>Rd w A xs) :=
 Ent.of_same k hk fun _ hs=>h.keep fun p _ _ hp=>World.cell?_of_block (hs p.block (Zr hp))
open Go.ChangeShapes Go.WideShapes Go.ChangeAt Go.RowKit Go.Deep
structure PartV where
 p:PI.WPart
 bv:Value
 cv:Value
instance:Inhabited PartV:=⟨⟨⟨0,[],[]⟩,undef,undef⟩⟩
def cellsPr (l:List (Nat × Nat)):List Value:=l.flatMap fun c=>[.int .u16 c.1,.int .u16 c.2]
def PartV.cells (x:PartV):List Value:=[.int .u8 x.p.kind,x.bv,x.cv]
def PartV.Ok (w:World) (x:PartV):Prop:=x.p.kind<256/\Byt w x.bv x.p.bytes/\(∃A c,x.cv=.slice A x.p.copies.length c/\Rd w A (cellsPr x.p.copies)/\x.p.copies.length<=c/\c<=maxLen)/\∀c ∈ x.p.copies,c.1<65536/\c.2<65536
theorem UJ {α β:Type} (f:α->List β) (z:Nat) (hf:∀p,(f p).length=z):∀(ps:List α) (i j:Nat),j<z->i<ps.length->∃p,ps[i]?=some p/\(ps.flatMap f)[i * z+j]?=(f p)[j]?:=by
 intro ps;induction ps with
 | nil=>intro i j _ h; cases h
 | cons p ps ih =>
  intro i j a b;rw [List.flatMap_cons];cases i with
  | zero=>exact⟨p,rfl,by rw [Nat.zero_mul,Nat.zero_add,List.getElem?_append_left (by rw [hf]; exact a)]⟩
  | succ i =>
   obtain⟨q,c,d⟩:=ih i j a (by simpa using b);refine⟨q,c,?_⟩;rw [List.getElem?_append_right (by rw [hf,Nat.succ_mul]; omega),hf,show(i+1) * z+j - z=i * z+j by rw [Nat.succ_mul]; omega];exact d
theorem UK {α β:Type} (f:α->List β) (z:Nat) (hf:∀p,(f p).length=z) (ps:List α):(ps.flatMap f).length=ps.length * z:=by
 induction ps with
 | nil=>simp
 | cons p ps ih=>rw [List.flatMap_cons,List.length_append,hf,ih,List.length_cons,Nat.succ_mul,Nat.add_comm]
section
variable {H:Type} {enc:TypeId × Value->H} {P:Program} {w:World} {base:Nat} {spare:Nat->Bool} {held:Bool}
theorem cells1 {c:Value} {t:TypeId} {e:TypeId} {n:Nat} {y:DataW H × List MemPlace} (ht:P.underlying t=some (.slice e)) (h:DataW.trod enc P w base (fun _=>true) held n t [c]=some y):∃A l k,c=.slice A l k:=by
 rcases open_slice ht h with ⟨hcs,_⟩ | ⟨a,l,c',m,n,D,Pl,hcs,_⟩
 ·exact⟨none,0,0,by simpa using hcs⟩
 ·exact⟨some a,l,c',by simpa using hcs⟩
end
theorem PartV.Ok.keep {w w' : World} {x:PartV} (h:x.Ok w) (hs:∀b,b<w.heap.size->w'.heap[b]?=w.heap[b]?):x.Ok w':=by
 obtain⟨a,d,⟨A,c,e,f,g⟩,i⟩:=h;exact⟨a,d.keep fun p _ hp=>World.cell?_of_block (hs p.block (Zr hp)),⟨A,c,e,f.keep fun p _ _ hp=>World.cell?_of_block (hs p.block (Zr hp)),g⟩,i⟩
end Go.Proofs.YteajimobgkempaaGreatDoor

