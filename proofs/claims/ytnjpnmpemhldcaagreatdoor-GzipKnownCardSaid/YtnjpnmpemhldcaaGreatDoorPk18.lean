/- A pack. -/
import Derived.Test.YtnjpnmpemhldcaaGreatDoorPk17
set_option linter.all false
set_option maxRecDepth 100000
set_option maxHeartbeats 8000000
namespace Go.Proofs.YtnjpnmpemhldcaaGreatDoor
open Go.RowKit
structure Thing where
 n:Nat
 m:Nat
 c:Bool
 b:List UInt8
 v:Value
namespace Thing
def k (x:Thing):Nat:=x.m % 58
def num (x:Thing):Nat:=x.n % 2 ^ x.k
def by_ (x:Thing):List UInt8:=x.b.take 20
def lies (x:Thing):Nat:=if x.by_≠[] then PBits.le x.by_ else if x.c then PBits.rev x.num x.k else x.num
def from_ (x:Thing) (N:Nat):Nat:=if x.by_≠[] then (N+7) / 8 * 8 else N
def size (x:Thing):Nat:=if x.by_≠[] then 8 * x.by_.length else x.k
def stp (s:Nat × Nat) (x:Thing):Nat × Nat:=(s.1+x.lies * 2 ^ x.from_ s.2,x.from_ s.2+x.size)
def st (l:List Thing):Nat × Nat:=l.foldl stp (0,0)
def row (l:List Thing):List UInt8:=PBits.bytesOf (st l).1 (((st l).2+7) / 8)
end Thing
namespace PBits
def num:List Bool->Nat
 | []=>0
 | b::l=>b.toNat+2 * num l
def bitsOf (n:Nat):Nat->List Bool
 | 0=>[]
 | k+1=>(n % 2 == 1)::bitsOf (n / 2) k
theorem bitsOf_length (n k:Nat):(bitsOf n k).length=k:=by
 induction k generalizing n with
 | zero=>rfl
 | succ k ih=>simp [bitsOf,ih]
theorem num_lt (l:List Bool):num l<2 ^ l.length:=by
 induction l with
 | nil=>simp [num]
 | cons b l ih =>
  have:b.toNat<=1:=by cases b <;> decide
  simp only [num,List.length_cons,Nat.pow_succ];omega
theorem num_append (a b:List Bool):num (a++b)=num a+2 ^ a.length * num b:=by
 induction a with
 | nil=>simp [num]
 | cons x a ih =>
  simp only [List.cons_append,num,ih,List.length_cons,Nat.pow_succ,Nat.mul_add];rw [<- Nat.mul_assoc,Nat.mul_comm 2 (2 ^ a.length)];omega
theorem num_bitsOf (n k:Nat):num (bitsOf n k)=n % 2 ^ k:=by
 induction k generalizing n with
 | zero=>simp [bitsOf,num,Nat.mod_one]
 | succ k ih =>
  have h:=Nat.mod_mul (x:=n) (a:=2) (b:=2 ^ k);have e:(2:Nat) ^ (k+1)=2 * 2 ^ k:=by rw [Nat.pow_succ,Nat.mul_comm]
  have c:(n % 2 == 1).toNat=n % 2:=by
   rcases Nat.mod_two_eq_zero_or_one n with h | h <;> rw [h] <;> rfl
  simp only [bitsOf,num,ih,c,e,h]
theorem bitsOf_num (l:List Bool):bitsOf (num l) l.length=l:=by
 induction l with
 | nil=>rfl
 | cons b l ih =>
  have a:((b.toNat+2 * num l) % 2 == 1)=b:=by
   cases b <;> simp <;> omega
  have c:(b.toNat+2 * num l) / 2=num l:=by
   have:b.toNat<=1:=by cases b <;> decide
   omega
  simp only [num,List.length_cons,bitsOf,a,c,ih]
theorem num_rev_bitsOf (n k:Nat):num (bitsOf n k).reverse=rev n k:=by
 induction k generalizing n with
 | zero=>rfl
 | succ k ih =>
  have a:(n % 2 == 1).toNat=n % 2:=by
   rcases Nat.mod_two_eq_zero_or_one n with h | h <;> rw [h] <;> rfl
  rw [bitsOf,List.reverse_cons,num_append,ih,List.length_reverse,bitsOf_length,rev];simp only [num,a];rw [Nat.mul_zero,Nat.add_zero,Nat.mul_comm,Nat.add_comm]
theorem num_false (m:Nat):num (List.replicate m false)=0:=by
 induction m with
 | zero=>rfl
 | succ m ih=>simp [List.replicate_succ,num,ih]
theorem num_drop (l:List Bool) (q:Nat):num (l.drop q)=num l / 2 ^ q:=by
 by_cases h:q<=l.length
 ·conv=>rhs; rw [<- List.take_append_drop q l,num_append]
  have a:=num_lt (l.take q);have b:(l.take q).length=q:=by simp [h]
  rw [b] at a ⊢;rw [Nat.add_mul_div_left _ _ (Nat.two_pow_pos q),Nat.div_eq_of_lt a,Nat.zero_add]
 ·rw [List.drop_eq_nil_of_le (by omega)];have a:=num_lt l;rw [Nat.div_eq_of_lt (Nat.lt_of_lt_of_le a (Nat.pow_le_pow_right (by decide) (by omega)))];rfl
theorem num_take (l:List Bool) (k:Nat) (h:k<=l.length):num (l.take k)=num l % 2 ^ k:=by
 conv=>rhs; rw [<- List.take_append_drop k l,num_append]
 have b:(l.take k).length=k:=by simp [h]
 have a:=num_lt (l.take k);rw [b] at a ⊢;rw [Nat.add_mul_mod_self_left,Nat.mod_eq_of_lt a]
theorem num_inj (a b:List Bool) (hl:a.length=b.length) (h:num a=num b):a=b:=by
 rw [<- bitsOf_num a,<- bitsOf_num b,h,hl]
def ofB:List UInt8->List Bool
 | []=>[]
 | c::l=>bitsOf c.toNat 8++ofB l
theorem ofB_length (l:List UInt8):(ofB l).length=8 * l.length:=by
 induction l with
 | nil=>rfl
 | cons c l ih=>simp only [ofB,List.length_append,bitsOf_length,ih,List.length_cons]; omega
theorem num_ofB (l:List UInt8):num (ofB l)=le l:=by
 induction l with
 | nil=>rfl
 | cons c l ih =>
  have a:=c.toNat_lt;rw [ofB,num_append,num_bitsOf,bitsOf_length,ih,le,Nat.mod_eq_of_lt a]
theorem num_mid (l:List Bool) (a k:Nat) (h:a+k<=l.length):num ((l.drop a).take k)=num l / 2 ^ a % 2 ^ k:=by
 rw [num_take _ _ (by simp; omega),num_drop]
end PBits
namespace PI
def numAt (B:List Bool) (a k:Nat):Nat:=PBits.num ((B.drop a).take k)
def number (B:List Bool) (a k:Nat):Except Nat (Nat × Nat):=if a+k<=B.length then .ok (a+k,numAt B a k) else .error 4
def mostN (m:List Nat):Nat:=if PH.state m=0 then 15 else 1
theorem mostN_of (m:List Nat):mostOf m=(mostN m:Int):=by unfold mostOf mostN; split <;> rfl
theorem mostN_le (m:List Nat):mostN m<=15:=by unfold mostN; split <;> omega
def sign (B:List Bool) (m:List Nat) (a:Nat):Except Nat (Nat × Nat) :=
 if (PH.nextFrom m (B.drop a) (mostN m) 0).2.1=0 then .ok (a+(PH.nextFrom m (B.drop a) (mostN m) 0).1,(PH.nextFrom m (B.drop a) (mostN m) 0).2.2) else .error (PH.nextFrom m (B.drop a) (mostN m) 0).2.1.toNat
def lengthsT:List (Nat × Nat):=[(3,0),(4,0),(5,0),(6,0),(7,0),(8,0),(9,0),(10,0),(11,1),(13,1),(15,1),(17,1),(19,2),(23,2),(27,2),(31,2),(35,3),(43,3),(51,3),(59,3),(67,4),(83,4),(99,4),(115,4),(131,5),(163,5),(195,5),(227,5)]
def awayT:List (Nat × Nat):=[(1,0),(2,0),(3,0),(4,0),(5,1),(7,1),(9,2),(13,2),(17,3),(25,3),(33,4),(49,4),(65,5),(97,5),(129,6),(193,6),(257,7),(385,7),(513,8),(769,8),(1025,9),(1537,9),(2049,10),(3073,10),(4097,11),(6145,11),(8193,12),(12289,12),(16385,13),(24577,13)]
def orderT:List Nat:=[16,17,18,0,8,7,9,6,10,5,11,4,12,3,13,2,14,1,15]
def count (B:List Bool) (t:List (Nat × Nat)) (s a:Nat):Except Nat (Nat × Nat) :=
 if s<t.length then (number B a (t.getD s (0,0)).2).bind fun r=>.ok (r.1,(t.getD s (0,0)).1+r.2) else .error 20
def length (B:List Bool) (s a:Nat):Except Nat (Nat × Nat):=if s=28 then .ok (a,258) else count B lengthsT s a
def copy (back:Nat):Nat->List UInt8->List UInt8
 | 0,out=>out
 | n+1,out=>copy back n (out++[out.getD (out.length - back) 0])
theorem copy_len (back n:Nat) (out:List UInt8):(copy back n out).length=out.length+n:=by
 induction n generalizing out with
 | zero=>rfl
 | succ n ih=>rw [copy,ih]; simp; omega
def stepP (B:List Bool) (most:Nat) (m d:List Nat) (a:Nat) (out:List UInt8):Except Nat (Bool × Nat × List UInt8) :=
 (sign B m a).bind fun r =>
  if r.2=256 then .ok (true,r.1,out)
  else if r.2<256 then (if most - out.length<1 then .error 22 else .ok (false,r.1,out++[UInt8.ofNat r.2]))
  else (length B (r.2 - 257) r.1).bind fun n=>(sign B d n.1).bind fun t=>(count B awayT t.2 t.1).bind fun k =>
   if out.length<k.2 then .error 20 else if most - out.length<n.2 then .error 22 else .ok (false,k.1,copy k.2 n.2 out)
def pressed (B:List Bool) (most:Nat) (m d:List Nat):Nat->Nat->List UInt8->Except Nat (Nat × List UInt8)
 | 0,_,_=>.error 0
 | f+1,a,out=>(stepP B most m d a out).bind fun r=>if r.1 then .ok r.2 else pressed B most m d f r.2.1 r.2.2
def fill (many:Nat) (acc:List Nat) (v k a:Nat):Except Nat (Nat × List Nat):=if many - acc.length<k then .error 20 else .ok (a,acc++List.replicate k v)
def stepL (B:List Bool) (m:List Nat) (many a:Nat) (acc:List Nat):Except Nat (Nat × List Nat) :=
 (sign B m a).bind fun r =>
  if r.2=16 then (if acc.length=0 then .error 20 else (number B r.1 2).bind fun n=>fill many acc (acc.getD (acc.length - 1) 0) (3+n.2) n.1)
  else if r.2=17 then (number B r.1 3).bind fun n=>fill many acc 0 (3+n.2) n.1
  else if r.2=18 then (number B r.1 7).bind fun n=>fill many acc 0 (11+n.2) n.1
  else fill many acc r.2 1 r.1
def lens (B:List Bool) (m:List Nat) (many:Nat):Nat->Nat->List Nat->Except Nat (Nat × List Nat)
 | 0,_,_=>.error 0
 | f+1,a,acc=>if acc.length<many then (stepL B m many a acc).bind fun r=>lens B m many f r.1 r.2 else .ok (a,acc)
def firsts (B:List Bool):List Nat->Nat->List Nat->Except Nat (Nat × List Nat)
 | [],a,l=>.ok (a,l)
 | s::rest,a,l=>(number B a 3).bind fun r=>firsts B rest r.1 (l.set s r.2)
def book (m:List Nat):Bool:=PH.okB (castI m)
def dynamic (B:List Bool) (a:Nat):Except Nat (Nat × List Nat × List Nat) :=
 (number B a 5).bind fun l=>(number B l.1 5).bind fun d=>(number B d.1 4).bind fun c =>
  if 286<l.2+257∨30<d.2+1 then .error 20 else
  (firsts B (orderT.take (c.2+4)) c.1 (List.replicate 19 0)).bind fun f =>
  if book f.2=true then
   (lens B f.2 (l.2+257+(d.2+1)) (l.2+257+(d.2+1)+1) f.1 []).bind fun r =>
   if r.2.getD 256 0=0 then .error 20 else
   if book (r.2.take (l.2+257))=true then (if book (r.2.drop (l.2+257))=true then .ok (r.1,r.2.take (l.2+257),r.2.drop (l.2+257)) else .error 20) else .error 20
  else .error 20
def fixedL:List Nat:=List.replicate 144 8++List.replicate 112 9++List.replicate 24 7++List.replicate 8 8
def fixedD:List Nat:=List.replicate 32 5
def bytesAt (B:List Bool) (a n:Nat):List UInt8:=(List.range n).map fun i=>UInt8.ofNat (numAt B (a+8 * i) 8)
def stored (B:List Bool) (most a:Nat) (out:List UInt8):Except Nat (Nat × List UInt8) :=
 (number B ((a+7) / 8 * 8) 16).bind fun n=>(number B n.1 16).bind fun k =>
  if k.2≠65535 - n.2 then .error 20 else
  if (B.length - k.1) / 8<n.2 then (if most - out.length<(B.length - k.1) / 8 then .error 22 else .error 4) else
  if most - out.length<n.2 then .error 22 else .ok (k.1+8 * n.2,out++bytesAt B k.1 n.2)
def body (B:List Bool) (most kind a:Nat) (out:List UInt8):Except Nat (Nat × List UInt8) :=
 if kind=0 then stored B most a out
 else if kind=1 then pressed B most fixedL fixedD (B.length+1) a out
 else if kind=2 then (dynamic B a).bind fun r=>pressed B most r.2.1 r.2.2 (B.length+1) r.1 out
 else .error 20
structure Blk where
 kind:Nat
 last:Bool
 from_:Nat
 to_:Nat
deriving DecidableEq
def block (B:List Bool) (most a:Nat) (out:List UInt8):Except Nat (Bool × Nat × Nat × List UInt8) :=
 (number B a 1).bind fun l=>(number B l.1 2).bind fun k=>(body B most k.2 k.1 out).bind fun r=>.ok (l.2 == 1,k.2,r.1,r.2)
def blocks (B:List Bool) (most:Nat):Nat->Nat->List UInt8->List Blk->Except Nat (Nat × List UInt8 × List Blk)
 | 0,_,_,_=>.error 0
 | f+1,a,out,bl=>(block B most a out).bind fun r =>
  if r.1 then .ok (r.2.2.1,r.2.2.2,bl++[⟨r.2.1,r.1,out.length,r.2.2.2.length⟩]) else blocks B most f r.2.2.1 r.2.2.2 (bl++[⟨r.2.1,r.1,out.length,r.2.2.2.length⟩])
def all (B:List Bool) (most:Nat):Except Nat (Nat × List UInt8 × List Blk):=blocks B most (B.length+1) 0 [] []

/-! What goes on, and what is enough. -/
theorem number_ok {B:List Bool} {a k:Nat} {r:Nat × Nat} (h:number B a k=.ok r):r=(a+k,numAt B a k)/\a+k<=B.length:=by
 unfold number at h;split at h
 ·rename_i h2; cases h; exact⟨rfl,h2⟩
 ·cases h
theorem number_err {B:List Bool} {a k e:Nat} (h:number B a k=.error e):e=4/\B.length<a+k:=by
 unfold number at h;split at h
 ·cases h
 ·cases h; exact⟨rfl,by omega⟩
theorem numAt_lt (B:List Bool) (a k:Nat):numAt B a k<2 ^ k:=by
 have b:=PBits.num_lt ((B.drop a).take k);have c:(2:Nat) ^ ((B.drop a).take k).length<=2 ^ k:=Nat.pow_le_pow_right (by omega) (by rw [List.length_take]; omega);unfold numAt; omega
theorem next_facts (m:List Nat) (l:List Bool) (mo:Nat) (h:mo<=15):(PH.nextFrom m l mo 0).1<=l.length/\((PH.nextFrom m l mo 0).2.1=0/\1<=(PH.nextFrom m l mo 0).1∨(PH.nextFrom m l mo 0).2.1=4∨(PH.nextFrom m l mo 0).2.1=20):=by
 have:=PH.nextFrom_err m l mo 0 (Nat.zero_le _) (by omega) (.inr trivial);exact⟨this.2.1,this.2.2⟩
theorem sign_ok {B:List Bool} {m:List Nat} {a:Nat} {r:Nat × Nat} (ha:a<=B.length) (h:sign B m a=.ok r):a<r.1/\r.1<=B.length:=by
 have b:=next_facts m (B.drop a) (mostN m) (mostN_le m);unfold sign at h;split at h
 ·rename_i h2
  cases h
  rw [List.length_drop] at b;show a<a+_/\a+_<=_;omega
 ·cases h
theorem sign_err {B:List Bool} {m:List Nat} {a e:Nat} (h:sign B m a=.error e):e=4∨e=20:=by
 have b:=next_facts m (B.drop a) (mostN m) (mostN_le m);unfold sign at h;split at h
 ·cases h
 ·cases h; omega
theorem bind_ok {α β:Type} {x:Except Nat α} {f:α->Except Nat β} {b:β} (h:x.bind f=.ok b):∃a,x=.ok a/\f a=.ok b:=by
 cases x with
 | error e=>cases h
 | ok a=>exact⟨a,rfl,h⟩
theorem count_ok {B:List Bool} {t:List (Nat × Nat)} {s a:Nat} {r:Nat × Nat} (h:count B t s a=.ok r):a<=r.1/\(a<=B.length->r.1<=B.length):=by
 unfold count at h;split at h
 ·obtain⟨q,b,c⟩:=bind_ok h;cases c
  obtain⟨rfl,d⟩:=number_ok b;exact⟨by show a<=a+_; omega,fun _=>d⟩
 ·cases h
theorem length_ok {B:List Bool} {s a:Nat} {r:Nat × Nat} (h:length B s a=.ok r):a<=r.1/\(a<=B.length->r.1<=B.length):=by
 unfold length at h;split at h
 ·cases h; exact⟨Nat.le_refl _,id⟩
 ·exact count_ok h
theorem stepP_ok {B:List Bool} {most:Nat} {m d:List Nat} {a:Nat} {out:List UInt8} {r:Bool × Nat × List UInt8} (ha:a<=B.length) (h:stepP B most m d a out=.ok r):a<r.2.1/\r.2.1<=B.length/\(out.length<=most->r.2.2.length<=most):=by
 unfold stepP at h;obtain⟨s,e,h⟩:=bind_ok h;obtain⟨c,b⟩:=sign_ok ha e;split at h
 ·cases h; exact⟨c,b,id⟩
 split at h
 ·split at h
  ·cases h
  ·cases h; exact⟨c,b,fun _=>by simp; omega⟩
 obtain⟨n,f,h⟩:=bind_ok h;obtain⟨t,g,h⟩:=bind_ok h;obtain⟨k,i,h⟩:=bind_ok h;obtain⟨p,j⟩:=length_ok f;obtain⟨q,l⟩:=sign_ok (j b) g;obtain⟨u,o⟩:=count_ok i;split at h
 ·cases h
 split at h
 ·cases h
 ·cases h; exact⟨by show a<k.1; omega,o l,fun _=>by show(copy _ _ _).length<=_; rw [copy_len]; omega⟩
theorem pressed_more {B:List Bool} {most:Nat} {m d:List Nat} : ∀(f g a:Nat) (out:List UInt8),a<=B.length->B.length<a+f->B.length<a+g->pressed B most m d f a out=pressed B most m d g a out:=by
 intro f;induction f with
 | zero=>intro g a out b c; omega
 | succ f ih =>
  intro g a out b c i;cases g with
  | zero=>omega
  | succ g =>
   rw [pressed,pressed];cases hs:stepP B most m d a out with
   | error e=>rfl
   | ok r =>
    obtain⟨j,h,_⟩:=stepP_ok b hs;show(if r.1 then _ else _)=(if r.1 then _ else _);split
    ·rfl
    ·exact ih g _ _ h (by omega) (by omega)
theorem fill_ok {many:Nat} {acc:List Nat} {v k a:Nat} {r:Nat × List Nat} (h:fill many acc v k a=.ok r) (hk:1<=k) (ha:acc.length<many):r.1=a/\acc.length<r.2.length/\r.2.length<=many:=by
 unfold fill at h;split at h
 ·cases h
 ·cases h; refine⟨rfl,?_,?_⟩ <;> simp <;> omega
end PI
end Go.Proofs.YtnjpnmpemhldcaaGreatDoor

