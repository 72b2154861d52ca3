/- A pack. -/
import Derived.Test.YteajimobgkempaaGreatDoorPk06
import Derived.Test.YteajimobgkempaaGreatDoorPk23
set_option linter.all false
set_option maxRecDepth 100000
set_option maxHeartbeats 8000000
namespace Go.Proofs.YteajimobgkempaaGreatDoor
variable {w0 w:World} {L:List Pr}
open Go.RowKit
def intsV (l:List Nat):List Value:=l.map fun i:Nat=>.int .i64 i
theorem XJ (a b:List Nat):intsV (a++b)=intsV a++intsV b:=by simp [intsV]
def unkey:Value->Three
 | .agg cs=>match cs.toList with
  | [.int _ a,.int _ b,.int _ c]=>(UInt8.ofNat a.toNat,UInt8.ofNat b.toNat,UInt8.ofNat c.toNat)
  | _=>(0,0,0)
 | _=>(0,0,0)
theorem Z7 (k:Three):unkey (key3 k)=k:=by
 obtain⟨a,b,c⟩:=k;simp [unkey,key3]
def Rows (F:Three->List Nat):List MapEntry->Pr
 | []=>Emp
 | e::r=>Star (Row 3 1 e.val (F (unkey e.key)).length (intsV (F (unkey e.key)))) (Rows F r)
theorem XK {F:Three->List Nat} (a:List MapEntry) (e:MapEntry) (c:List MapEntry) (H:Sp w0 (Rows F (a++e::c)::L) w) :
  Sp w0 (Row 3 1 e.val (F (unkey e.key)).length (intsV (F (unkey e.key)))::Rows F (a++c)::L) w:=by
 induction a generalizing L with
 | nil=>exact H.unstar
 | cons x a ih =>
  have b:=ih (H.unstar.swap);have d:=b.pick 3 [2,1,0];exact(Sp.star d).swap
theorem Wq {F:Three->List Nat} (a:List MapEntry) (e:MapEntry) (c:List MapEntry)
  (H:Sp w0 (Row 3 1 e.val (F (unkey e.key)).length (intsV (F (unkey e.key)))::Rows F (a++c)::L) w):Sp w0 (Rows F (a++e::c)::L) w:=by
 induction a generalizing L with
 | nil=>exact Sp.star H
 | cons x a ih =>
  have b:=H.swap.unstar;have d:=ih (b.pick 3 [2,1,0]);exact Sp.star d.swap
theorem WO {F G:Three->List Nat} (es:List MapEntry) (h:∀e ∈ es,F (unkey e.key)=G (unkey e.key)):Rows F es=Rows G es:=by
 induction es with
 | nil=>rfl
 | cons e r ih =>
  unfold Rows;rw [h e (List.mem_cons_self ..),ih fun e' he'=>h e' (List.mem_cons_of_mem _ he')]
structure FdOk (B:List UInt8) (n:Nat) (es:Array MapEntry) (clock:Nat):Prop where
 ok:MapOk es clock
 all:∀i,i<n->∃e ∈ es.toList,e.key=key3 (PM.at3 B i)
def Fd (g:Nat) (bv:Value) (B:List UInt8) (d:Int) (n:Nat):Pr :=
 Ex fun mb:Nat=>Ex fun es:Array MapEntry=>Ex fun clock:Nat=>Ex fun(_:FdOk B n es clock) =>
  Star (FdB g bv d mb n) (Star (Is mb (.map es clock)) (Rows (PM.places B n) es.toList))
theorem YP {g:Nat} {bv:Value} {B:List UInt8} {d:Int} {n:Nat} (H:Sp w0 (Fd g bv B d n::L) w) :
  ∃mb es clock,FdOk B n es clock/\Sp w0 (FdB g bv d mb n::Is mb (.map es clock)::Rows (PM.places B n) es.toList::L) w:=by
 obtain⟨mb,H⟩:=H.unex;obtain⟨es,H⟩:=H.unex;obtain⟨clock,H⟩:=H.unex;obtain⟨a,H⟩:=H.unex;have b:=H.unstar.swap.unstar;exact⟨mb,es,clock,a,b.pick 3 [2,0,1]⟩
theorem Yd {g:Nat} {bv:Value} {B:List UInt8} {d:Int} {n mb:Nat} {es:Array MapEntry} {clock:Nat} (hok:FdOk B n es clock)
  (H:Sp w0 (FdB g bv d mb n::Is mb (.map es clock)::Rows (PM.places B n) es.toList::L) w):Sp w0 (Fd g bv B d n::L) w :=
 Sp.ex mb (Sp.ex es (Sp.ex clock (Sp.ex hok (Sp.star (Sp.swap (Sp.star (H.pick 3 [1,2,0])))))))
theorem FdOk.new {B:List UInt8} {n:Nat} {es:Array MapEntry} {clock:Nat} (h:FdOk B n es clock) (hk:∀e ∈ es.toList,e.key≠key3 (PM.at3 B n)) (v:Value) :
  FdOk B (n+1) (es.push ⟨key3 (PM.at3 B n),v,clock⟩) (clock+1) where
 ok:=h.ok.push v hk
 all i hi:=by
  rcases Nat.lt_or_ge i n with h1 | h1
  ·obtain⟨e,a,hk⟩:=h.all i h1;exact⟨e,by simp [a],hk⟩
  ·obtain rfl:i=n:=by omega
   exact⟨⟨key3 (PM.at3 B i),v,clock⟩,by simp,rfl⟩
theorem FdOk.old {B:List UInt8} {n:Nat} {es:Array MapEntry} {clock:Nat} (h:FdOk B n es clock) {j:Nat} {e:MapEntry} (hj:es.toList[j]?=some e) (hk:e.key=key3 (PM.at3 B n)) (v:Value) :
  FdOk B (n+1) (es.modify j fun e=>{ e with val:=v }) clock where
 ok:=h.ok.modify j v
 all i hi:=by
  have d:∀e' ∈ es.toList,∃e2 ∈ (es.modify j fun e=>{ e with val:=v }).toList,e2.key=e'.key:=fun e' he'=>by
   obtain⟨q,f,rfl⟩:=List.getElem_of_mem he';refine⟨(es.modify j fun e=>{ e with val:=v }).toList[q]'(by simpa using f),List.getElem_mem _,?_⟩;simp only [Array.toList_modify,List.getElem_modify];split <;> rfl
  rcases Nat.lt_or_ge i n with h1 | h1
  ·obtain⟨e',he',a⟩:=h.all i h1;obtain⟨e2,b,c⟩:=d e' he';exact⟨e2,b,c.trans a⟩
  ·obtain rfl:i=n:=by omega
   obtain⟨e2,b,c⟩:=d e (List.mem_of_getElem? hj);exact⟨e2,b,c.trans hk⟩
theorem FdOk.none {B:List UInt8} {n:Nat} {es:Array MapEntry} {clock:Nat} (h:FdOk B n es clock) {k:Three} (hk:∀e ∈ es.toList,e.key≠key3 k):PM.places B n k=[] :=
 PM.places_none fun i hi he=>by
  obtain⟨e,a,b⟩:=h.all i hi;exact hk e a (by rw [b,he])
open Go.RowKit Go.MapKept
def blkOf:Value->Nat
 | .pointer (some ⟨g,_,_⟩)=>g
 | _=>0
def cells3 (k:Three):List Value:=[.int .u8 k.1.toNat,.int .u8 k.2.1.toNat,.int .u8 k.2.2.toNat]
theorem Ws {es:List MapEntry} {j:Nat} {e:MapEntry} (h:es[j]?=some e):∃a c,es=a++e::c/\∀f:MapEntry->MapEntry,es.modify j f=a++f e::c:=by
 induction es generalizing j with
 | nil=>simp at h
 | cons x r ih =>
  cases j with
  | zero =>
   simp only [List.getElem?_cons_zero,Option.some.injEq] at h;subst h;exact⟨[],r,rfl,fun f=>by simp⟩
  | succ j =>
   obtain⟨a,c,b,d⟩:=ih (j:=j) (by simpa using h);exact⟨x::a,c,by rw [b]; rfl,fun f=>by rw [List.modify_succ_cons,d]; rfl⟩
theorem To {B:List UInt8} {n mb:Nat} {es:Array MapEntry} {clock:Nat} (hok:FdOk B n es clock)
  (H:Sp w0 (Is mb (.map es clock)::Rows (PM.places B n) es.toList::L) w) :
  ∃(v0:Value) (st m:Nat) (es1:Array MapEntry) (clock1:Nat) (E2:Value->Array MapEntry) (rl:List MapEntry) (ys:List Value),m<=n /\
   Sp w0 (Is mb (.map es clock)::Row 3 1 v0 m ys::Rows (PM.places B n) rl::L) w /\
   (∀u:World,u.heap[mb]?=some (.map es clock)->(Instr.mapEntry 201 (.map (some mb)) (key3 (PM.at3 B n))).run Tryz.prog u=.ok (.tuple #[v0,.int .i64 st]) { u with heap:=u.heap.setIfInBounds mb (.map es1 clock1) }) /\
   (∀(v:Value) (u:World),u.heap[mb]?=some (.map es1 clock1)->(Instr.entryStore 201 (.map (some mb)) (.int .i64 st) v).run Tryz.prog u=.ok () { u with heap:=u.heap.setIfInBounds mb (.map (E2 v) clock1) }) /\
   (∀v,FdOk B (n+1) (E2 v) clock1) /\
   ∀(v:Value) (w1 w' : World) (L' : List Pr),Sp w1 (Row 3 1 v (m+1) (ys++[.int .i64 n])::Rows (PM.places B n) rl::L') w'->Sp w1 (Rows (PM.places B (n+1)) (E2 v).toList::L') w':=by
 have b:∀(v:Value) (w1 w' : World) (L' : List Pr) (e:MapEntry) (a c:List MapEntry),e.key=key3 (PM.at3 B n)->(∀x ∈ a++c,x.key≠key3 (PM.at3 B n)/\∃k,x.key=key3 k) ->
   Sp w1 (Row 3 1 v ((PM.places B n (PM.at3 B n)).length+1) (intsV (PM.places B n (PM.at3 B n))++[.int .i64 n])::Rows (PM.places B n) (a++c)::L') w' ->
   Sp w1 (Rows (PM.places B (n+1)) (a++{ e with val:=v }::c)::L') w':=fun v w1 w' L' e a c hk hne HH=>by
  refine Wq a _ c ?_;have d:PM.places B (n+1) (unkey ({ e with val:=v } : MapEntry).key)=PM.places B n (PM.at3 B n)++[n]:=by
   show PM.places B (n+1) (unkey e.key)=_;rw [hk,Z7,PM.places_succ,if_pos rfl]
  have g:Rows (PM.places B (n+1)) (a++c)=Rows (PM.places B n) (a++c):=WO _ fun x hx=>by
   obtain⟨q,k,i⟩:=hne x hx;rw [i,Z7,PM.places_succ,if_neg];rintro rfl;exact q i
  rw [d,g,XJ,List.length_append];exact HH
 rcases hok.ok.find w (PM.at3 B n) with ⟨_,hk⟩ | ⟨j,e,_,hj,hk⟩
 ·have r:=hok.none hk;refine⟨.slice none 0 0,clock,0,es.push ⟨key3 (PM.at3 B n),.slice none 0 0,clock⟩,clock+1,fun v=>es.push ⟨key3 (PM.at3 B n),v,clock⟩,es.toList,[],Nat.zero_le _,(H.rowNil _ _).pick 2 [1,0],fun u hu=>Vw hok.ok hu hk,fun v u hu=>Vx hok.ok v hu hk,fun v=>hok.new hk v,fun v w1 w' L' HH=>?_⟩;have:=b v w1 w' L' ⟨key3 (PM.at3 B n),v,clock⟩ es.toList [] rfl (fun x hx=>by
   rw [List.append_nil] at hx;exact⟨hk x hx,hok.ok.ks x hx⟩) (by rw [r,List.append_nil]; exact HH)
  rw [Array.toList_push];exact this
 ·obtain⟨a,c,d,g⟩:=Ws hj;have hne:∀x ∈ a++c,x.key≠key3 (PM.at3 B n)/\∃k,x.key=key3 k:=fun x hx=>by
   have l:=((stamped_iff es clock).1 hok.ok.st).2.2;rw [d] at l;refine⟨fun h=>?_,hok.ok.ks x (by rw [d]; rcases List.mem_append.1 hx with h | h <;> simp [h])⟩
   have f:=List.pairwise_append.1 l;rcases List.mem_append.1 hx with hx | hx
   ·exact f.2.2 x hx e (List.mem_cons_self ..) (h.trans hk.symm)
   ·exact(List.pairwise_cons.1 f.2.1).1 x hx (hk.trans h.symm)
  refine⟨e.val,e.born,(PM.places B n (PM.at3 B n)).length,es,clock,fun v=>es.modify j fun e=>{ e with val:=v },a++c,intsV (PM.places B n (PM.at3 B n)),PM.places_len _ _ _,?_,fun u hu=>Vy hok.ok hu hj hk,fun v u hu=>Vz hok.ok v hu hj,fun v=>hok.old hj hk v,fun v w1 w' L' HH=>?_⟩
  ·have o:=H.swap;rw [d] at o;have p:=XK a e c o;rw [hk,Z7] at p;exact p.pick 3 [2,0,1]
  ·have:=b v w1 w' L' e a c hk hne HH;rw [Array.toList_modify,g];exact this
end Go.Proofs.YteajimobgkempaaGreatDoor

