/- A pack. -/
import Derived.Test.YteajimobgkempaaGreatDoorPk19
set_option linter.all false
set_option maxRecDepth 100000
set_option maxHeartbeats 8000000
namespace Go.Proofs.YteajimobgkempaaGreatDoor
namespace PM
def at3 (B:List UInt8) (i:Nat):Three:=(B.getD i 0,B.getD (i+1) 0,B.getD (i+2) 0)
def places (B:List UInt8) (n:Nat) (k:Three):List Nat:=(List.range n).filter (fun i=>at3 B i == k)
theorem places_succ (B:List UInt8) (n:Nat) (k:Three):places B (n+1) k=if at3 B n=k then places B n k++[n] else places B n k:=by
 unfold places;rw [List.range_succ,List.filter_append];by_cases h:at3 B n=k
 ·rw [if_pos h]; simp [h]
 ·rw [if_neg h]; simp [h]
theorem places_lt {B:List UInt8} {n:Nat} {k:Three} {i:Nat} (h:i ∈ places B n k):i<n:=by
 have:=(List.mem_filter.1 h).1;simpa using this
theorem places_none {B:List UInt8} {n:Nat} {k:Three} (h:∀i,i<n->at3 B i≠k):places B n k=[]:=by
 unfold places;rw [List.filter_eq_nil_iff];intro i a;have:=h i (by simpa using a);simpa using this
theorem places_len (B:List UInt8) (n:Nat) (k:Three):(places B n k).length<=n:=by
 have:=List.length_filter_le (fun i=>at3 B i == k) (List.range n)
 rwa [List.length_range] at this
def mlenN (B:List UInt8) (p q:Nat):Nat->Nat
 | 0=>0
 | m+1=>if q<B.length/\B.getD p 0=B.getD q 0 then mlenN B (p+1) (q+1) m+1 else 0
def mlen (B:List UInt8) (p q:Nat):Nat:=mlenN B p q 258
theorem mlenN_le (B:List UInt8) (p q m:Nat):mlenN B p q m<=m:=by
 induction m generalizing p q with
 | zero=>exact Nat.le_refl _
 | succ m ih =>
  unfold mlenN;split
  ·have:=ih (p+1) (q+1); omega
  ·omega
theorem mlenN_in (B:List UInt8) (p q m:Nat) (h:q<=B.length):q+mlenN B p q m<=B.length:=by
 induction m generalizing p q with
 | zero=>exact h
 | succ m ih =>
  unfold mlenN;split
  ·rename_i h2
   have:=ih (p+1) (q+1) h2.1; omega
  ·omega
theorem mlenN_same (B:List UInt8) (p q m i:Nat) (h:i<mlenN B p q m):B.getD (p+i) 0=B.getD (q+i) 0:=by
 induction m generalizing p q i with
 | zero=>exact absurd h (Nat.not_lt_zero _)
 | succ m ih =>
  unfold mlenN at h;split at h
  ·rename_i h2
   cases i with
   | zero=>exact h2.2
   | succ i =>
    have:=ih (p+1) (q+1) i (by omega)
    rwa [show p+(i+1)=p+1+i by omega,show q+(i+1)=q+1+i by omega]
  ·omega
theorem mlenN_stop (B:List UInt8) (p q m:Nat) (h:mlenN B p q m<m):¬ (q+mlenN B p q m<B.length/\B.getD (p+mlenN B p q m) 0=B.getD (q+mlenN B p q m) 0):=by
 induction m generalizing p q with
 | zero=>exact absurd h (Nat.not_lt_zero _)
 | succ m ih =>
  unfold mlenN at h ⊢;split
  ·rename_i h2
   rw [if_pos h2] at h;have:=ih (p+1) (q+1) (by omega)
   rwa [show p+(mlenN B (p+1) (q+1) m+1)=p+1+mlenN B (p+1) (q+1) m by omega,show q+(mlenN B (p+1) (q+1) m+1)=q+1+mlenN B (p+1) (q+1) m by omega]
  ·rename_i h2
   simpa using h2
theorem mlen_of (B:List UInt8) (p q n:Nat) (hn:n<=258) (hs:∀i,i<n->q+i<B.length/\B.getD (p+i) 0=B.getD (q+i) 0) (he:n=258∨¬ (q+n<B.length/\B.getD (p+n) 0=B.getD (q+n) 0)):mlen B p q=n:=by
 have a:=mlenN_le B p q 258;rcases Nat.lt_trichotomy (mlen B p q) n with h | h | h
 ·exact absurd (hs _ h) (mlenN_stop B p q 258 (by unfold mlen at h; omega))
 ·exact h
 ·rcases he with he | he
  ·unfold mlen at h; omega
  ·refine absurd ⟨?_,mlenN_same B p q 258 n h⟩ he;have b:q<B.length:=by
    rcases Nat.lt_or_ge q B.length with h4 | h4
    ·exact h4
    ·unfold mlen mlenN at h;rw [if_neg (by omega)] at h;omega
   have:=mlenN_in B p q 258 (by omega);unfold mlen at h;omega
end PM
namespace PM
def go (B:List UInt8) (q:Nat):List Nat->Nat->Nat × Nat->Nat × Nat
 | [],_,b=>b
 | p::ps,d,b=>if d=0 then b else if 32768<q - p then b else go B q ps (d - 1) (if b.1<mlen B p q then (mlen B p q,q - p) else b)
theorem go_zero (B:List UInt8) (q:Nat) (ps:List Nat) (b:Nat × Nat):go B q ps 0 b=b:=by cases ps <;> rfl
def best (B:List UInt8) (q d:Nat):Nat × Nat:=if q+3<=B.length then go B q (places B q (at3 B q)).reverse d (0,0) else (0,0)
theorem places_mem {B:List UInt8} {n:Nat} {k:Three} {i:Nat} : i ∈ places B n k↔i<n/\at3 B i=k:=by
 unfold places;rw [List.mem_filter,List.mem_range,beq_iff_eq]
theorem mlen_three {B:List UInt8} {p q:Nat} (h:q+3<=B.length):3<=mlen B p q↔at3 B p=at3 B q:=by
 have e:at3 B p=at3 B q↔B.getD p 0=B.getD q 0/\B.getD (p+1) 0=B.getD (q+1) 0/\B.getD (p+2) 0=B.getD (q+2) 0:=by
  simp [at3]
 rw [e];constructor
 ·intro k;have:=fun i hi=>mlenN_same B p q 258 i (Nat.lt_of_lt_of_le hi k);exact⟨this 0 (by omega),this 1 (by omega),this 2 (by omega)⟩
 ·rintro⟨b,c,d⟩;rcases Nat.lt_or_ge (mlen B p q) 3 with k | k
  ·exfalso;have a:=mlenN_stop B p q 258 (by unfold mlen at k; omega);unfold mlen at k;generalize mlenN B p q 258=m at k a;refine a ⟨by omega,?_⟩
   match m,k with
   | 0,_=>exact b
   | 1,_=>exact c
   | 2,_=>exact d
  ·exact k
theorem mlen_in {B:List UInt8} {p q:Nat} (h:q<=B.length):q+mlen B p q<=B.length:=mlenN_in B p q 258 h
theorem mlen_le (B:List UInt8) (p q:Nat):mlen B p q<=258:=mlenN_le B p q 258
theorem mlen_same {B:List UInt8} {p q i:Nat} (h:i<mlen B p q):B.getD (p+i) 0=B.getD (q+i) 0:=mlenN_same B p q 258 i h
theorem go_is {B:List UInt8} {q:Nat} (P:Nat × Nat->Prop) (ps:List Nat) (d:Nat) (b:Nat × Nat) (hb:P b) (hp:∀p ∈ ps,q - p<=32768->P (mlen B p q,q - p)):P (go B q ps d b):=by
 induction ps generalizing d b with
 | nil=>exact hb
 | cons p ps ih =>
  unfold go;split
  ·exact hb
  ·split
   ·exact hb
   ·refine ih _ _ ?_ fun p' h'=>hp p' (List.mem_cons_of_mem _ h');split
    ·exact hp p (List.mem_cons_self ..) (by omega)
    ·exact hb
theorem best_is (B:List UInt8) (q d:Nat):best B q d=(0,0)∨∃far,1<=far/\far<=32768/\far<=q/\q+3<=B.length/\best B q d=(mlen B (q - far) q,far)/\3<=mlen B (q - far) q:=by
 unfold best;split
 ·rename_i h
  refine go_is (fun b=>b=(0,0)∨∃far,1<=far/\far<=32768/\far<=q/\q+3<=B.length/\b=(mlen B (q - far) q,far)/\3<=mlen B (q - far) q) _ d _ (.inl rfl) fun p hp hf=>.inr ?_;rw [List.mem_reverse,places_mem] at hp;refine⟨q - p,by omega,hf,by omega,h,?_,?_⟩
  ·rw [show q - (q - p)=p by omega]
  ·rw [show q - (q - p)=p by omega,mlen_three h]; exact hp.2
 ·exact .inl rfl
abbrev St:=Nat × Nat × UInt8
def cut (B:List UInt8) (d:Nat):Nat->Nat->List St
 | 0,_=>[]
 | f+1,q =>
  if q<B.length then
   if (best B q d).1=0∨(best B q d).1<(best B (q+1) d).1 then (0,0,B.getD q 0)::cut B d f (q+1)
   else ((best B q d).1,(best B q d).2,0)::cut B d f (q+(best B q d).1)
  else []
def Cut (B:List UInt8) (d:Nat):List St:=cut B d B.length 0
theorem cut_end (B:List UInt8) (d f q:Nat) (h:B.length<=q):cut B d f q=[]:=by
 cases f with
 | zero=>rfl
 | succ f=>unfold cut; rw [if_neg (by omega)]
theorem cut_fuel (B:List UInt8) (d f q:Nat) (h:B.length<=q+f):cut B d (f+1) q=cut B d f q:=by
 induction f generalizing q with
 | zero=>exact(cut_end B d _ q (by omega)).trans (cut_end B d _ q (by omega)).symm
 | succ f ih =>
  rw [cut.eq_2 B d q (f+1),cut.eq_2 B d q f];split
  ·split
   ·rw [ih (q+1) (by omega)]
   ·rw [ih _ (by omega)]
  ·rfl
def cutAt (B:List UInt8) (d q:Nat):List St:=cut B d (B.length - q) q
theorem cut_more (B:List UInt8) (d f q:Nat) (h:B.length<=q+f):cut B d f q=cutAt B d q:=by
 unfold cutAt;obtain⟨m,rfl⟩:∃m,f=(B.length - q)+m:=⟨f - (B.length - q),by omega⟩;clear h;induction m with
 | zero=>rfl
 | succ m ih=>rw [show B.length - q+(m+1)=(B.length - q+m)+1 by omega,cut_fuel B d _ q (by omega),ih]
theorem cutAt_end (B:List UInt8) (d q:Nat) (h:B.length<=q):cutAt B d q=[]:=cut_end B d _ q h
theorem cutAt_lit (B:List UInt8) (d q:Nat) (h:q<B.length) (k:(best B q d).1=0∨(best B q d).1<(best B (q+1) d).1):cutAt B d q=(0,0,B.getD q 0)::cutAt B d (q+1):=by
 rw [<- cut_more B d (B.length - q - 1+1) q (by omega),cut.eq_2,if_pos h,if_pos k,cut_more _ _ _ _ (by omega)]
theorem cutAt_copy (B:List UInt8) (d q:Nat) (h:q<B.length) (k:¬ ((best B q d).1=0∨(best B q d).1<(best B (q+1) d).1)):cutAt B d q=((best B q d).1,(best B q d).2,0)::cutAt B d (q+(best B q d).1):=by
 rw [<- cut_more B d (B.length - q - 1+1) q (by omega),cut.eq_2,if_pos h,if_neg k,cut_more _ _ _ _ (by omega)]
theorem Cut_at (B:List UInt8) (d:Nat):Cut B d=cutAt B d 0:=rfl
def made (s:St):Nat:=max s.1 1
def fits (s:St) (n:Nat):Prop:=(s.1=0/\s.2.1=0)∨(3<=s.1/\s.1<=258/\1<=s.2.1/\s.2.1<=32768/\s.2.1<=n/\s.2.2=0)
theorem cutAt_ind {B:List UInt8} {d:Nat} (P:Nat->List St->Prop) (hend:∀q,B.length<=q->P q [])
  (hlit:∀q l,q<B.length->P (q+1) l->P q ((0,0,B.getD q 0)::l))
  (hcopy:∀q far l,q<B.length->1<=far->far<=32768->far<=q->3<=mlen B (q - far) q->best B q d=(mlen B (q - far) q,far)->P (q+mlen B (q - far) q) l->P q ((mlen B (q - far) q,far,0)::l)) (q:Nat):P q (cutAt B d q):=by
 obtain⟨m,a⟩:∃m,B.length - q<=m:=⟨_,Nat.le_refl _⟩;induction m generalizing q with
 | zero=>rw [cutAt_end _ _ _ (by omega)]; exact hend q (by omega)
 | succ m ih =>
  rcases Nat.lt_or_ge q B.length with h | h
  ·by_cases k:(best B q d).1=0∨(best B q d).1<(best B (q+1) d).1
   ·rw [cutAt_lit B d q h k];exact hlit q _ h (ih (q+1) (by omega))
   ·rw [cutAt_copy B d q h k];rcases best_is B q d with h0 | ⟨far,h1,h2,h3,h4,h5,h6⟩
    ·exact absurd (.inl (by rw [h0])) k
    ·rw [h5];exact hcopy q far _ h h1 h2 h3 h6 h5 (ih _ (by omega))
  ·rw [cutAt_end _ _ _ h]; exact hend q h
end PM
namespace PM
def grow (far:Nat):Nat->List UInt8->List UInt8
 | 0,b=>b
 | n+1,b=>grow far n (b++[b.getD (b.length - far) 0])
def step (s:St) (b:List UInt8):List UInt8:=if s.1=0 then b++[s.2.2] else grow s.2.1 s.1 b
def expand:List St->List UInt8->List UInt8
 | [],b=>b
 | s::l,b=>expand l (step s b)
theorem grow_succ (far n:Nat) (b:List UInt8):grow far (n+1) b=grow far n b++[(grow far n b).getD ((grow far n b).length - far) 0]:=by
 induction n generalizing b with
 | zero=>rfl
 | succ n ih=>rw [grow,ih,<- grow]
theorem grow_length (far n:Nat) (b:List UInt8):(grow far n b).length=b.length+n:=by
 induction n generalizing b with
 | zero=>rfl
 | succ n ih=>rw [grow,ih,List.length_append]; simp; omega
def mays:List St->Nat->Prop
 | [],_=>True
 | s::l,n=>fits s n/\mays l (n+made s)
def size:List St->Nat
 | []=>0
 | s::l=>made s+size l
theorem step_length (s:St) (b:List UInt8):(step s b).length=b.length+made s:=by
 unfold step made;split
 ·rename_i h; simp [h]
 ·rename_i h; rw [grow_length]; omega
theorem expand_length (l:List St) (b:List UInt8):(expand l b).length=b.length+size l:=by
 induction l generalizing b with
 | nil=>rfl
 | cons s l ih=>rw [expand,ih,step_length,size]; omega
theorem grow_take {B:List UInt8} {q far n:Nat} (hf:1<=far) (hq:far<=q) (hn:q+n<=B.length) (hs:∀i,i<n->B.getD (q - far+i) 0=B.getD (q+i) 0):grow far n (B.take q)=B.take (q+n):=by
 induction n with
 | zero=>rfl
 | succ n ih =>
  rw [grow_succ,ih (by omega) fun i hi=>hs i (by omega)];have a:(B.take (q+n)).length=q+n:=by rw [List.length_take]; omega
  rw [a,show q+(n+1)=q+n+1 by omega,List.take_succ_eq_append_getElem (by omega:q+n<B.length)];congr 2;have:=hs n (by omega);rw [List.getD_eq_getElem?_getD,List.getElem?_take_of_lt (by omega),<- List.getD_eq_getElem?_getD,show q+n - far=q - far+n by omega,this,List.getD_eq_getElem?_getD,List.getElem?_eq_getElem (by omega:q+n<B.length)];rfl
theorem cut_back (B:List UInt8) (d q:Nat) (hq:q<=B.length):expand (cutAt B d q) (B.take q)=B:=by
 refine cutAt_ind (B:=B) (d:=d) (fun q l=>q<=B.length->expand l (B.take q)=B) (fun q h h2=>?_) (fun q l h ih _=>?_) (fun q far l h h1 h2 h3 h4 h5 ih _=>?_) q hq
 ·rw [expand,List.take_of_length_le h]
 ·rw [expand];have:step (0,0,B.getD q 0) (B.take q)=B.take (q+1):=by
   unfold step;rw [if_pos rfl,List.take_succ_eq_append_getElem h,List.getD_eq_getElem?_getD,List.getElem?_eq_getElem h]; rfl
  rw [this]; exact ih (by omega)
 ·rw [expand];have a:=mlen_in (B:=B) (p:=q - far) (q:=q) (by omega);have:step (mlen B (q - far) q,far,0) (B.take q)=B.take (q+mlen B (q - far) q):=by
   unfold step;rw [if_neg (by show ¬ mlen B (q - far) q=0; omega)];exact grow_take h1 h3 a fun i hi=>mlen_same hi
  rw [this]; exact ih (by omega)
theorem cut_back0 (B:List UInt8) (d:Nat):expand (Cut B d) []=B:=by
 have:=cut_back B d 0 (Nat.zero_le _)
 rwa [List.take_zero] at this
theorem cut_mays (B:List UInt8) (d q:Nat):mays (cutAt B d q) q:=by
 refine cutAt_ind (B:=B) (d:=d) (fun q l=>mays l q) (fun q h=>trivial) (fun q l h ih=>⟨.inl ⟨rfl,rfl⟩,by simpa [made] using ih⟩) (fun q far l h h1 h2 h3 h4 h5 ih=>⟨.inr ⟨h4,mlen_le _ _ _,h1,h2,h3,rfl⟩,?_⟩) q;have:made (mlen B (q - far) q,far,0)=mlen B (q - far) q:=by unfold made; show max (mlen B (q - far) q) 1=_; omega
 rw [this]; exact ih
theorem cut_length (B:List UInt8) (d q:Nat):(cutAt B d q).length<=B.length - q:=by
 refine cutAt_ind (B:=B) (d:=d) (fun q l=>l.length<=B.length - q) (fun q h=>by simp) (fun q l h ih=>by rw [List.length_cons]; omega) (fun q far l h h1 h2 h3 h4 h5 ih=>?_) q;rw [List.length_cons]; omega
theorem best_short (B:List UInt8) (q d:Nat) (h:B.length<q+3):best B q d=(0,0):=by
 unfold best; rw [if_neg (by omega)]
end PM
namespace PD
def tokOf (s:PM.St):PI.Tok:=if s.1=0 then .lit s.2.2 else .cpy s.1 s.2.1
def toks (Y:List PM.St):List PI.Tok:=Y.map tokOf
def used (l:List Nat) (least:Nat):Nat->Nat
 | 0=>0
 | n+1=>if least<n+1/\l.getD n 0=0 then used l least n else n+1
def cut (l:List Nat) (least:Nat):List Nat:=l.take (used l least l.length)
def lenA (Y:List PM.St):List Nat:=cut (PI.lensA (toks Y)) 257
def lenB (Y:List PM.St):List Nat:=cut (PI.lensB (toks Y)) 1
def rl:Nat->Nat->List Nat->List (Nat × Nat)
 | 0,_,_=>[]
 | f+1,p,l=>match l with
  | []=>[]
  | x::r =>
   if p=x/\x≠0/\3<=PI.runL x r+1 then (16,min (PI.runL x r+1) 6 - 3)::rl f x (l.drop (min (PI.runL x r+1) 6))
   else if x=0/\11<=PI.runL x r+1 then (18,min (PI.runL x r+1) 138 - 11)::rl f x (l.drop (min (PI.runL x r+1) 138))
   else if x=0/\3<=PI.runL x r+1 then (17,PI.runL x r+1 - 3)::rl f x (l.drop (PI.runL x r+1))
   else (x,0)::rl f x r
def row (l:List Nat):List (Nat × Nat):=rl l.length 0 l
def toldN (m:List Nat):Nat->Nat
 | 0=>0
 | n+1=>if 4<n+1/\m.getD (PI.orderT.getD n 0) 0=0 then toldN m n else n+1
def told (m:List Nat):Nat:=toldN m 19
def rowY (Y:List PM.St):List (Nat × Nat):=row (lenA Y++lenB Y)
def fst7 (Y:List PM.St):List Nat:=PI.firstOf (rowY Y)
def dynW (Y:List PM.St):List Bool:=PI.headW (fst7 Y) (told (fst7 Y)) (lenA Y).length (lenB Y).length (rowY Y)++PI.toksW (lenA Y) (lenB Y) (toks Y)
def fixW (Y:List PM.St):List Bool:=PI.toksW PI.fixedL PI.fixedD (toks Y)
def pad (n:Nat):Nat:=(n+7) / 8 * 8 - n
def sto (n a:Nat):Int:=if n<=65535 then ((3+pad (a+3)+32+8 * n:Nat):Int) else -1
def fixN (Y:List PM.St):Nat:=3+(fixW Y).length
def dynN (Y:List PM.St):Nat:=3+(dynW Y).length
def pick (s:Int) (f d:Nat):Nat:=if 0<=s then (if (f:Int)<s then (if d<f then 2 else 1) else if (d:Int)<s then 2 else 0) else if d<f then 2 else 1
def kind (Y:List PM.St) (b:List UInt8) (a:Nat):Nat:=pick (sto b.length a) (fixN Y) (dynN Y)
def bodyD (k:Nat) (Y:List PM.St) (b:List UInt8) (a:Nat):List Bool:=if k=0 then List.replicate (pad a) false++PI.storedW b else if k=1 then fixW Y else dynW Y
def layD (k:Nat) (Y:List PM.St) (b:List UInt8) (last:Bool) (a:Nat):List Bool:=[last]++PBits.bitsOf k 2++bodyD k Y b (a+3)
def partD (Y:List PM.St) (b:List UInt8) (last:Bool) (a:Nat):List Bool:=layD (kind Y b a) Y b last a
def partY (Y:List PM.St) (i:Nat):List PM.St:=(Y.drop (512 * i)).take 512
def atB (Y:List PM.St) (i:Nat):Nat:=PM.size (Y.take (512 * i))
def partB (Y:List PM.St) (b:List UInt8) (i:Nat):List UInt8:=(b.drop (atB Y i)).take (PM.size (partY Y i))
def many (Y:List PM.St):Nat:=max 1 ((Y.length+511) / 512)
def stD (Y:List PM.St) (b:List UInt8):Nat->List Bool
 | 0=>[]
 | i+1=>stD Y b i++partD (partY Y i) (partB Y b i) (decide (Y.length<=512 * (i+1))) (stD Y b i).length
def bitsD (Y:List PM.St) (b:List UInt8):List Bool:=stD Y b (many Y)
def stream (Y:List PM.St) (b:List UInt8):List UInt8:=PI.packB (bitsD Y b)
/-! What is cut off. -/
theorem used_le (l:List Nat) (least n:Nat):used l least n<=n:=by
 induction n with
 | zero=>exact Nat.le_refl _
 | succ n ih=>unfold used; split <;> omega
theorem used_least (l:List Nat) (least n:Nat) (h:least<=n):least<=used l least n:=by
 induction n with
 | zero=>omega
 | succ n ih =>
  unfold used;split
  ·exact ih (by omega)
  ·exact h
theorem used_zero (l:List Nat) (least n i:Nat) (h:used l least n<=i) (hi:i<n):l.getD i 0=0:=by
 induction n with
 | zero=>omega
 | succ n ih =>
  unfold used at h;split at h
  ·rename_i hc
   by_cases e:i=n
   ·subst e; exact hc.2
   ·exact ih h (by omega)
  ·omega
theorem cut_split (l:List Nat) (least:Nat):l=cut l least++List.replicate (l.length - (cut l least).length) 0:=by
 have c:=used_le l least l.length;have a:(cut l least).length=used l least l.length:=by unfold cut; rw [List.length_take]; omega
 have e:l.drop (used l least l.length)=List.replicate (l.length - used l least l.length) 0:=by
  apply List.ext_getElem
  ·simp
  ·intro i d b;rw [List.getElem_replicate,List.getElem_drop];simp at b;have:=used_zero l least l.length (used l least l.length+i) (by omega) (by omega);rw [List.getD_eq_getElem?_getD,List.getElem?_eq_getElem (by omega)] at this;exact this
 rw [a,<- e];unfold cut;rw [List.take_append_drop]
theorem cut_len (l:List Nat) (least:Nat):(cut l least).length=used l least l.length:=by
 have a:=used_le l least l.length;unfold cut; rw [List.length_take]; omega
section
variable (c:List Nat) (z:Nat)
theorem z_tal (n:Nat):PH.tal (c++List.replicate z 0) n=PH.tal c n:=by
 unfold PH.tal;by_cases h:n=0
 ·rw [if_pos h,if_pos h]
 ·rw [if_neg h,if_neg h,List.count_append,List.count_replicate,if_neg (by simp; omega),Nat.add_zero]
theorem z_share (n:Nat):PH.share (c++List.replicate z 0) n=PH.share c n:=by
 induction n with
 | zero=>rfl
 | succ n ih=>rw [PH.share,PH.share,ih,z_tal]
theorem z_sum:PH.sum (c++List.replicate z 0)=PH.sum c:=z_share c z 16
theorem z_state:PH.state (c++List.replicate z 0)=PH.state c:=by unfold PH.state; rw [z_sum]
theorem z_most:PI.mostN (c++List.replicate z 0)=PI.mostN c:=by unfold PI.mostN; rw [z_state]
theorem z_get (i:Nat):(c++List.replicate z 0).getD i 0=c.getD i 0:=by
 rw [List.getD_eq_getElem?_getD,List.getD_eq_getElem?_getD];by_cases h:i<c.length
 ·rw [List.getElem?_append_left h]
 ·rw [List.getElem?_append_right (by omega),List.getElem?_eq_none (l:=c) (by omega)];by_cases a:i - c.length<z
  ·rw [List.getElem?_replicate,if_pos a]; rfl
  ·rw [List.getElem?_eq_none (by simp; omega)]
theorem z_idx (n:Nat) (hn:n≠0):PH.idx (c++List.replicate z 0) n (c.length+z)=PH.idx c n c.length:=by
 induction z with
 | zero=>rw [List.replicate_zero,List.append_nil,Nat.add_zero]
 | succ z ih =>
  have e:∀k,PH.idx (c++List.replicate (z+1) 0) n k=PH.idx (c++List.replicate z 0) n k:=fun k=>by
   unfold PH.idx;congr 1;funext i;rw [z_get,z_get]
  rw [e,<- Nat.add_assoc,PH.idx_succ,if_neg,ih];rw [z_get,List.getD_eq_getElem?_getD,List.getElem?_eq_none (by omega)];exact fun h=>hn h.symm
theorem z_rows (n:Nat):PH.rowsB (c++List.replicate z 0) n=PH.rowsB c n:=by
 induction n with
 | zero=>rfl
 | succ n ih =>
  rw [PH.rowsB,PH.rowsB,ih,List.length_append,List.length_replicate,z_idx c z (n+1) (by omega)]
theorem z_book (h:PI.book (c++List.replicate z 0)=true):PI.book c=true:=by
 unfold PI.book PH.okB at h ⊢;simp only [Bool.and_eq_true] at h ⊢;rw [PI.PH.nat_cast] at h ⊢;refine⟨?_,?_⟩
 ·have b:=h.1;unfold PH.may castI at b ⊢;simp only [Bool.and_eq_true,decide_eq_true_eq,Bool.not_eq_true',List.any_eq_false,List.length_map,List.length_append] at b ⊢;refine⟨by omega,fun x hx=>b.2 x ?_⟩;rw [List.map_append];exact List.mem_append.2 (.inl hx)
 ·have a:=h.2;unfold mayBook at a ⊢;unfold PH.rows at a ⊢;rw [z_state,z_rows,z_tal] at a;exact a
theorem z_has {s:Nat} (h:PI.Has (c++List.replicate z 0) s):PI.Has c s:=by
 obtain⟨d,a,b⟩:=h;rw [z_get] at a b;rw [z_most] at b;refine⟨?_,a,b⟩;by_cases e:s<c.length
 ·exact e
 ·rw [List.getD_eq_getElem?_getD,List.getElem?_eq_none (by omega)] at a;simp at a
end
theorem cut_book (l:List Nat) (least:Nat) (h:PI.book l=true):PI.book (cut l least)=true:=by
 rw [cut_split l least] at h; exact z_book _ _ h
theorem cut_has (l:List Nat) (least s:Nat) (h:PI.Has l s):PI.Has (cut l least) s:=by
 rw [cut_split l least] at h; exact z_has _ _ h
theorem cut_mem (l:List Nat) (least:Nat):∀x ∈ cut l least,x ∈ l:=fun x hx=>List.mem_of_mem_take hx
/-! The row, told. -/
theorem rl_small:∀(f p:Nat) (l:List Nat),(∀x ∈ l,x<=15)->∀t ∈ rl f p l,t.1<19/\t.2<128:=by
 intro f;induction f with
 | zero=>intro p l _ t a; cases a
 | succ f ih =>
  intro p l b t a;cases l with
  | nil=>cases a
  | cons x r =>
   have g:=b x (List.mem_cons_self ..);have c:∀k,∀y ∈ (x::r).drop k,y<=15:=fun k y hy=>b y (List.mem_of_mem_drop hy);have d:∀y ∈ r,y<=15:=fun y hy=>b y (List.mem_cons_of_mem _ hy);rw [rl] at a;split at a
   ·rcases List.mem_cons.1 a with rfl | a
    ·exact⟨(by decide:(16:Nat)<19),by show min _ _ - 3<128; omega⟩
    ·exact ih _ _ (c _) t a
   split at a
   ·rcases List.mem_cons.1 a with rfl | a
    ·exact⟨(by decide:(18:Nat)<19),by show min _ _ - 11<128; omega⟩
    ·exact ih _ _ (c _) t a
   split at a
   ·rename_i h1 h2
    rcases List.mem_cons.1 a with rfl | a
    ·refine⟨(by decide:(17:Nat)<19),?_⟩;show PI.runL x r+1 - 3<128;by_cases e:x=0
     ·have:¬ (11<=PI.runL x r+1):=fun h=>h1 ⟨e,h⟩;omega
     ·exact absurd h2.1 e
    ·exact ih _ _ (c _) t a
   ·rcases List.mem_cons.1 a with rfl | a
    ·exact⟨by show x<19; omega,(by decide:(0:Nat)<128)⟩
    ·exact ih _ _ d t a
def Ahead (acc:List Nat) (p:Nat):Prop:=p≠0->acc≠[]/\acc.getD (acc.length - 1) 0=p
theorem ahead_rep (acc:List Nat) (x k:Nat) (h:0<k):Ahead (acc++List.replicate k x) x:=fun _=>by
 obtain⟨k,rfl⟩:∃j,k=j+1:=⟨k - 1,by omega⟩;refine⟨by simp [List.replicate_succ],?_⟩;rw [List.getD_eq_getElem?_getD,List.length_append,List.length_replicate,List.getElem?_append_right (by omega),List.getElem?_replicate,if_pos (by omega)];rfl
theorem rl_all {m:List Nat} : ∀(f p:Nat) (l acc:List Nat),l.length<=f->(∀x ∈ l,x<=15)->Ahead acc p->PI.tellsO acc (rl f p l)=acc++l/\((∀t ∈ rl f p l,PI.Has m t.1)->PI.TellsOk m acc (rl f p l)):=by
 intro f;induction f with
 | zero=>intro p l acc h _ _; obtain rfl:=List.eq_nil_of_length_eq_zero (l:=l) (by omega); exact⟨by simp [rl,PI.tellsO],fun _=>trivial⟩
 | succ f ih =>
  intro p l acc h a j;cases l with
  | nil=>exact⟨by simp [rl,PI.tellsO],fun _=>trivial⟩
  | cons x r =>
   have n:=a x (List.mem_cons_self ..);have B:=PI.runL_le x r;simp only [List.length_cons] at h;have o:∀k,1<=k->((x::r).drop k).length<=f:=fun k hk=>by simp; omega
   have b:∀k,∀y ∈ (x::r).drop k,y<=15:=fun k y hy=>a y (List.mem_of_mem_drop hy);have e:∀k,k<=PI.runL x r+1->(x::r).take k=List.replicate k x:=fun k hk=>by
    cases k with
    | zero=>rfl
    | succ k=>rw [List.take_succ_cons,PI.runL_take x r k (by omega)]; rfl
   have c:∀k,k<=PI.runL x r+1->List.replicate k x++(x::r).drop k=x::r:=fun k hk=>by rw [<- e k hk,List.take_append_drop]
   have step:∀(t:Nat × Nat) (k:Nat),1<=k->k<=PI.runL x r+1->PI.tellO acc t=acc++List.replicate k x->(t.2<2 ^ PI.tellB t.1/\(t.1=16->acc≠[])) ->
     PI.tellsO acc (t::rl f x ((x::r).drop k))=acc++x::r/\((∀u ∈ t::rl f x ((x::r).drop k),PI.Has m u.1)->PI.TellsOk m acc (t::rl f x ((x::r).drop k))):=by
    intro t k g q i s;obtain⟨v,w⟩:=ih x ((x::r).drop k) (acc++List.replicate k x) (o k g) (b k) (ahead_rep _ _ _ g);refine⟨?_,fun hm=>⟨⟨hm t (List.mem_cons_self ..),s⟩,?_⟩⟩
    ·show PI.tellsO (PI.tellO acc t) _=_;rw [i,v,List.append_assoc,c k q]
    ·rw [i]; exact w fun u hu=>hm u (List.mem_cons_of_mem _ hu)
   rw [rl];split
   ·rename_i hc
    obtain⟨z,A⟩:=j (by rw [hc.1]; exact hc.2.1);refine step _ _ (by omega) (by omega) ?_ ⟨?_,fun _=>z⟩
    ·unfold PI.tellO;rw [if_pos rfl,A,hc.1,show 3+(min (PI.runL x r+1) 6 - 3)=min (PI.runL x r+1) 6 by omega]
    ·show min (PI.runL x r+1) 6 - 3<2 ^ 2;omega
   split
   ·rename_i hc
    refine step _ _ (by omega) (by omega) ?_ ⟨?_,fun h=>by simp at h⟩
    ·unfold PI.tellO;rw [if_neg (by show ¬ (18:Nat)=16; decide),if_neg (by show ¬ (18:Nat)=17; decide),if_pos rfl,hc.1,show 11+(min (PI.runL 0 r+1) 138 - 11)=min (PI.runL 0 r+1) 138 by have:=hc.2; rw [hc.1] at this; omega]
    ·show min (PI.runL x r+1) 138 - 11<2 ^ 7;omega
   split
   ·rename_i hc1 hc
    refine step _ _ (by omega) (by omega) ?_ ⟨?_,fun h=>by simp at h⟩
    ·unfold PI.tellO;rw [if_neg (by show ¬ (17:Nat)=16; decide),if_pos rfl,hc.1,show 3+(PI.runL 0 r+1 - 3)=PI.runL 0 r+1 by have:=hc.2; rw [hc.1] at this; omega]
    ·show PI.runL x r+1 - 3<2 ^ 3;have:¬ (11<=PI.runL x r+1):=fun h=>hc1 ⟨hc.1,h⟩;omega
   ·have d:¬ x=16:=by omega
    refine step (x,0) 1 (Nat.le_refl _) (by omega) (PI.tellO_lit acc x 0 n) ⟨?_,fun h=>absurd h d⟩;show(0:Nat)<2 ^ PI.tellB x;exact Nat.two_pow_pos _
theorem row_all {m:List Nat} (l:List Nat) (h15:∀x ∈ l,x<=15):PI.tellsO [] (row l)=l/\((∀t ∈ row l,PI.Has m t.1)->PI.TellsOk m [] (row l)):=rl_all l.length 0 l [] (Nat.le_refl _) h15 (fun h=>absurd rfl h)
theorem rl_len:∀(f p:Nat) (l:List Nat),(rl f p l).length<=f:=by
 intro f;induction f with
 | zero=>intro p l; exact Nat.le_refl _
 | succ f ih =>
  intro p l;cases l with
  | nil=>exact Nat.zero_le _
  | cons x r =>
   rw [rl];split
   ·exact Nat.succ_le_succ (ih _ _)
   split
   ·exact Nat.succ_le_succ (ih _ _)
   split
   ·exact Nat.succ_le_succ (ih _ _)
   ·exact Nat.succ_le_succ (ih _ _)
/-! How many lengths of lengths are told. -/
theorem toldN_le (m:List Nat) (n:Nat):toldN m n<=n:=by
 induction n with
 | zero=>exact Nat.le_refl _
 | succ n ih=>unfold toldN; split <;> omega
theorem toldN_least (m:List Nat) (n:Nat) (h:4<=n):4<=toldN m n:=by
 induction n with
 | zero=>omega
 | succ n ih =>
  unfold toldN;split
  ·exact ih (by omega)
  ·exact h
end PD
end Go.Proofs.YteajimobgkempaaGreatDoor

