/- A pack of texts: MatchPlain3 DefPlain DefWords DefW CellsP DefA. -/
import Derived.Test.YtloijdbkikccgaaGreatDoorPk02
import Derived.Test.YtloijdbkikccgaaGreatDoorPk11
import Derived.Test.YtloijdbkikccgaaGreatDoorPk14
namespace Go.Proofs.YtloijdbkikccgaaGreatDoor
namespace PM
def grow (far:Nat):Nat->List UInt8->List UInt8
 | 0,b=>b
 | n+1,b=>grow far n (b++[b.getD (b.length - far) 0])
def step (s:St) (b:List UInt8):List UInt8:=if s.1=0 then b++[s.2.2] else grow s.2.1 s.1 b
def expand:List St->List UInt8->List UInt8
 | [],b=>b
 | s::l,b=>expand l (step s b)
theorem expand_append (a c:List St) (b:List UInt8):expand (a++c) b=expand c (expand a b):=by
 induction a generalizing b with
 | nil=>rfl
 | cons s a ih=>exact ih _
theorem grow_succ (far n:Nat) (b:List UInt8):grow far (n+1) b=grow far n b++[(grow far n b).getD ((grow far n b).length - far) 0]:=by
 induction n generalizing b with
 | zero=>rfl
 | succ n ih=>rw [grow,ih,<- grow]
theorem grow_length (far n:Nat) (b:List UInt8):(grow far n b).length=b.length+n:=by
 induction n generalizing b with
 | zero=>rfl
 | succ n ih=>rw [grow,ih,List.length_append]; simp; omega
def mays:List St->Nat->Prop
 | [],_=>True
 | s::l,n=>fits s n/\mays l (n+made s)
def size:List St->Nat
 | []=>0
 | s::l=>made s+size l
theorem step_length (s:St) (b:List UInt8):(step s b).length=b.length+made s:=by
 unfold step made
 split
 ·rename_i h; simp [h]
 ·rename_i h; rw [grow_length]; omega
theorem expand_length (l:List St) (b:List UInt8):(expand l b).length=b.length+size l:=by
 induction l generalizing b with
 | nil=>rfl
 | cons s l ih=>rw [expand,ih,step_length,size]; omega
theorem grow_take {B:List UInt8} {q far n:Nat} (hf:1<=far) (hq:far<=q) (hn:q+n<=B.length) (hs:∀i,i<n->B.getD (q - far+i) 0=B.getD (q+i) 0):grow far n (B.take q)=B.take (q+n):=by
 induction n with
 | zero=>rfl
 | succ n ih =>
  rw [grow_succ,ih (by omega) fun i hi=>hs i (by omega)]
  have hl:(B.take (q+n)).length=q+n:=by rw [List.length_take]; omega
  rw [hl,show q+(n+1)=q+n+1 by omega,List.take_succ_eq_append_getElem (by omega:q+n<B.length)]
  congr 2
  have:=hs n (by omega)
  rw [List.getD_eq_getElem?_getD,List.getElem?_take_of_lt (by omega),<- List.getD_eq_getElem?_getD,show q+n - far=q - far+n by omega,this,List.getD_eq_getElem?_getD,List.getElem?_eq_getElem (by omega:q+n<B.length)]
  rfl
theorem cut_back (B:List UInt8) (d q:Nat) (hq:q<=B.length):expand (cutAt B d q) (B.take q)=B:=by
 refine cutAt_ind (B:=B) (d:=d) (fun q l=>q<=B.length->expand l (B.take q)=B) (fun q h h2=>?_) (fun q l h ih _=>?_) (fun q far l h h1 h2 h3 h4 h5 ih _=>?_) q hq
 ·rw [expand,List.take_of_length_le h]
 ·rw [expand]
  have:step (0,0,B.getD q 0) (B.take q)=B.take (q+1):=by
   unfold step
   rw [if_pos rfl,List.take_succ_eq_append_getElem h,List.getD_eq_getElem?_getD,List.getElem?_eq_getElem h]; rfl
  rw [this]; exact ih (by omega)
 ·rw [expand]
  have hin:=mlen_in (B:=B) (p:=q - far) (q:=q) (by omega)
  have:step (mlen B (q - far) q,far,0) (B.take q)=B.take (q+mlen B (q - far) q):=by
   unfold step
   rw [if_neg (by show ¬ mlen B (q - far) q=0; omega)]
   exact grow_take h1 h3 hin fun i hi=>mlen_same hi
  rw [this]; exact ih (by omega)
theorem cut_back0 (B:List UInt8) (d:Nat):expand (Cut B d) []=B:=by
 have:=cut_back B d 0 (Nat.zero_le _)
 rwa [List.take_zero] at this
theorem cut_mays (B:List UInt8) (d q:Nat):mays (cutAt B d q) q:=by
 refine cutAt_ind (B:=B) (d:=d) (fun q l=>mays l q) (fun q h=>trivial) (fun q l h ih=>⟨.inl ⟨rfl,rfl⟩,by simpa [made] using ih⟩) (fun q far l h h1 h2 h3 h4 h5 ih=>⟨.inr ⟨h4,mlen_le _ _ _,h1,h2,h3,rfl⟩,?_⟩) q
 have:made (mlen B (q - far) q,far,0)=mlen B (q - far) q:=by unfold made; show max (mlen B (q - far) q) 1=_; omega
 rw [this]; exact ih
theorem cut_length (B:List UInt8) (d q:Nat):(cutAt B d q).length<=B.length - q:=by
 refine cutAt_ind (B:=B) (d:=d) (fun q l=>l.length<=B.length - q) (fun q h=>by simp) (fun q l h ih=>by rw [List.length_cons]; omega) (fun q far l h h1 h2 h3 h4 h5 ih=>?_) q
 rw [List.length_cons]; omega
theorem best_short (B:List UInt8) (q d:Nat) (h:B.length<q+3):best B q d=(0,0):=by
 unfold best; rw [if_neg (by omega)]
end PM
set_option linter.unusedVariables false
set_option linter.unusedSimpArgs false
namespace PD
def tokOf (s:PM.St):PI.Tok:=if s.1=0 then .lit s.2.2 else .cpy s.1 s.2.1
def toks (Y:List PM.St):List PI.Tok:=Y.map tokOf
def used (l:List Nat) (least:Nat):Nat->Nat
 | 0=>0
 | n+1=>if least<n+1/\l.getD n 0=0 then used l least n else n+1
def cut (l:List Nat) (least:Nat):List Nat:=l.take (used l least l.length)
def lenA (Y:List PM.St):List Nat:=cut (PI.lensA (toks Y)) 257
def lenB (Y:List PM.St):List Nat:=cut (PI.lensB (toks Y)) 1
def rl:Nat->Nat->List Nat->List (Nat × Nat)
 | 0,_,_=>[]
 | f+1,p,l=>match l with
  | []=>[]
  | x::r =>
   if p=x/\x≠0/\3<=PI.runL x r+1 then (16,min (PI.runL x r+1) 6 - 3)::rl f x (l.drop (min (PI.runL x r+1) 6))
   else if x=0/\11<=PI.runL x r+1 then (18,min (PI.runL x r+1) 138 - 11)::rl f x (l.drop (min (PI.runL x r+1) 138))
   else if x=0/\3<=PI.runL x r+1 then (17,PI.runL x r+1 - 3)::rl f x (l.drop (PI.runL x r+1))
   else (x,0)::rl f x r
def row (l:List Nat):List (Nat × Nat):=rl l.length 0 l
def toldN (m:List Nat):Nat->Nat
 | 0=>0
 | n+1=>if 4<n+1/\m.getD (PI.orderT.getD n 0) 0=0 then toldN m n else n+1
def told (m:List Nat):Nat:=toldN m 19
def rowY (Y:List PM.St):List (Nat × Nat):=row (lenA Y++lenB Y)
def fst7 (Y:List PM.St):List Nat:=PI.firstOf (rowY Y)
def dynW (Y:List PM.St):List Bool:=PI.headW (fst7 Y) (told (fst7 Y)) (lenA Y).length (lenB Y).length (rowY Y)++PI.toksW (lenA Y) (lenB Y) (toks Y)
def fixW (Y:List PM.St):List Bool:=PI.toksW PI.fixedL PI.fixedD (toks Y)
def pad (n:Nat):Nat:=(n+7) / 8 * 8 - n
def sto (n a:Nat):Int:=if n<=65535 then ((3+pad (a+3)+32+8 * n:Nat):Int) else -1
def fixN (Y:List PM.St):Nat:=3+(fixW Y).length
def dynN (Y:List PM.St):Nat:=3+(dynW Y).length
def pick (s:Int) (f d:Nat):Nat:=if 0<=s then (if (f:Int)<s then (if d<f then 2 else 1) else if (d:Int)<s then 2 else 0) else if d<f then 2 else 1
def kind (Y:List PM.St) (b:List UInt8) (a:Nat):Nat:=pick (sto b.length a) (fixN Y) (dynN Y)
def bodyD (k:Nat) (Y:List PM.St) (b:List UInt8) (a:Nat):List Bool:=if k=0 then List.replicate (pad a) false++PI.storedW b else if k=1 then fixW Y else dynW Y
def layD (k:Nat) (Y:List PM.St) (b:List UInt8) (last:Bool) (a:Nat):List Bool:=[last]++PBits.bitsOf k 2++bodyD k Y b (a+3)
def partD (Y:List PM.St) (b:List UInt8) (last:Bool) (a:Nat):List Bool:=layD (kind Y b a) Y b last a
def partY (Y:List PM.St) (i:Nat):List PM.St:=(Y.drop (512 * i)).take 512
def atB (Y:List PM.St) (i:Nat):Nat:=PM.size (Y.take (512 * i))
def partB (Y:List PM.St) (b:List UInt8) (i:Nat):List UInt8:=(b.drop (atB Y i)).take (PM.size (partY Y i))
def many (Y:List PM.St):Nat:=max 1 ((Y.length+511) / 512)
def stD (Y:List PM.St) (b:List UInt8):Nat->List Bool
 | 0=>[]
 | i+1=>stD Y b i++partD (partY Y i) (partB Y b i) (decide (Y.length<=512 * (i+1))) (stD Y b i).length
def bitsD (Y:List PM.St) (b:List UInt8):List Bool:=stD Y b (many Y)
def stream (Y:List PM.St) (b:List UInt8):List UInt8:=PI.packB (bitsD Y b)
/-! What is cut off. -/
theorem used_le (l:List Nat) (least n:Nat):used l least n<=n:=by
 induction n with
 | zero=>exact Nat.le_refl _
 | succ n ih=>unfold used; split <;> omega
theorem used_least (l:List Nat) (least n:Nat) (h:least<=n):least<=used l least n:=by
 induction n with
 | zero=>omega
 | succ n ih =>
  unfold used
  split
  ·exact ih (by omega)
  ·exact h
theorem used_zero (l:List Nat) (least n i:Nat) (h:used l least n<=i) (hi:i<n):l.getD i 0=0:=by
 induction n with
 | zero=>omega
 | succ n ih =>
  unfold used at h
  split at h
  ·rename_i hc
   by_cases e:i=n
   ·subst e; exact hc.2
   ·exact ih h (by omega)
  ·omega
theorem cut_split (l:List Nat) (least:Nat):l=cut l least++List.replicate (l.length - (cut l least).length) 0:=by
 have h1:=used_le l least l.length
 have hl:(cut l least).length=used l least l.length:=by unfold cut; rw [List.length_take]; omega
 have e:l.drop (used l least l.length)=List.replicate (l.length - used l least l.length) 0:=by
  apply List.ext_getElem
  ·simp
  ·intro i h2 h3
   rw [List.getElem_replicate,List.getElem_drop]
   simp at h3
   have:=used_zero l least l.length (used l least l.length+i) (by omega) (by omega)
   rw [List.getD_eq_getElem?_getD,List.getElem?_eq_getElem (by omega)] at this
   exact this
 rw [hl,<- e]
 unfold cut
 rw [List.take_append_drop]
theorem cut_len (l:List Nat) (least:Nat):(cut l least).length=used l least l.length:=by
 have h1:=used_le l least l.length
 unfold cut; rw [List.length_take]; omega
section
variable (c:List Nat) (z:Nat)
theorem z_tal (n:Nat):PH.tal (c++List.replicate z 0) n=PH.tal c n:=by
 unfold PH.tal
 by_cases h:n=0
 ·rw [if_pos h,if_pos h]
 ·rw [if_neg h,if_neg h,List.count_append,List.count_replicate,if_neg (by simp; omega),Nat.add_zero]
theorem z_share (n:Nat):PH.share (c++List.replicate z 0) n=PH.share c n:=by
 induction n with
 | zero=>rfl
 | succ n ih=>rw [PH.share,PH.share,ih,z_tal]
theorem z_sum:PH.sum (c++List.replicate z 0)=PH.sum c:=z_share c z 16
theorem z_state:PH.state (c++List.replicate z 0)=PH.state c:=by unfold PH.state; rw [z_sum]
theorem z_most:PI.mostN (c++List.replicate z 0)=PI.mostN c:=by unfold PI.mostN; rw [z_state]
theorem z_get (i:Nat):(c++List.replicate z 0).getD i 0=c.getD i 0:=by
 rw [List.getD_eq_getElem?_getD,List.getD_eq_getElem?_getD]
 by_cases h:i<c.length
 ·rw [List.getElem?_append_left h]
 ·rw [List.getElem?_append_right (by omega),List.getElem?_eq_none (l:=c) (by omega)]
  by_cases h2:i - c.length<z
  ·rw [List.getElem?_replicate,if_pos h2]; rfl
  ·rw [List.getElem?_eq_none (by simp; omega)]
theorem z_idx (n:Nat) (hn:n≠0):PH.idx (c++List.replicate z 0) n (c.length+z)=PH.idx c n c.length:=by
 induction z with
 | zero=>rw [List.replicate_zero,List.append_nil,Nat.add_zero]
 | succ z ih =>
  have e:∀k,PH.idx (c++List.replicate (z+1) 0) n k=PH.idx (c++List.replicate z 0) n k:=fun k=>by
   unfold PH.idx
   congr 1
   funext i
   rw [z_get,z_get]
  rw [e,<- Nat.add_assoc,PH.idx_succ,if_neg,ih]
  rw [z_get,List.getD_eq_getElem?_getD,List.getElem?_eq_none (by omega)]
  exact fun h=>hn h.symm
theorem z_rows (n:Nat):PH.rowsB (c++List.replicate z 0) n=PH.rowsB c n:=by
 induction n with
 | zero=>rfl
 | succ n ih =>
  rw [PH.rowsB,PH.rowsB,ih,List.length_append,List.length_replicate,z_idx c z (n+1) (by omega)]
theorem z_book (h:PI.book (c++List.replicate z 0)=true):PI.book c=true:=by
 unfold PI.book PH.okB at h ⊢
 simp only [Bool.and_eq_true] at h ⊢
 rw [PI.PH.nat_cast] at h ⊢
 refine⟨?_,?_⟩
 ·have h1:=h.1
  unfold PH.may castI at h1 ⊢
  simp only [Bool.and_eq_true,decide_eq_true_eq,Bool.not_eq_true',List.any_eq_false,List.length_map,List.length_append] at h1 ⊢
  refine⟨by omega,fun x hx=>h1.2 x ?_⟩
  rw [List.map_append]
  exact List.mem_append.2 (.inl hx)
 ·have h2:=h.2
  unfold mayBook at h2 ⊢
  unfold PH.rows at h2 ⊢
  rw [z_state,z_rows,z_tal] at h2
  exact h2
theorem z_has {s:Nat} (h:PI.Has (c++List.replicate z 0) s):PI.Has c s:=by
 obtain⟨h1,h2,h3⟩:=h
 rw [z_get] at h2 h3
 rw [z_most] at h3
 refine⟨?_,h2,h3⟩
 by_cases e:s<c.length
 ·exact e
 ·rw [List.getD_eq_getElem?_getD,List.getElem?_eq_none (by omega)] at h2
  simp at h2
end
theorem cut_book (l:List Nat) (least:Nat) (h:PI.book l=true):PI.book (cut l least)=true:=by
 rw [cut_split l least] at h; exact z_book _ _ h
theorem cut_has (l:List Nat) (least s:Nat) (h:PI.Has l s):PI.Has (cut l least) s:=by
 rw [cut_split l least] at h; exact z_has _ _ h
theorem cut_mem (l:List Nat) (least:Nat):∀x ∈ cut l least,x ∈ l:=fun x hx=>List.mem_of_mem_take hx
/-! The row, told. -/
theorem rl_small:∀(f p:Nat) (l:List Nat),(∀x ∈ l,x<=15)->∀t ∈ rl f p l,t.1<19/\t.2<128:=by
 intro f
 induction f with
 | zero=>intro p l _ t ht; cases ht
 | succ f ih =>
  intro p l hl t ht
  cases l with
  | nil=>cases ht
  | cons x r =>
   have hx:=hl x (List.mem_cons_self ..)
   have hd:∀k,∀y ∈ (x::r).drop k,y<=15:=fun k y hy=>hl y (List.mem_of_mem_drop hy)
   have hd1:∀y ∈ r,y<=15:=fun y hy=>hl y (List.mem_cons_of_mem _ hy)
   rw [rl] at ht
   split at ht
   ·rcases List.mem_cons.1 ht with rfl | ht
    ·exact⟨(by decide:(16:Nat)<19),by show min _ _ - 3<128; omega⟩
    ·exact ih _ _ (hd _) t ht
   split at ht
   ·rcases List.mem_cons.1 ht with rfl | ht
    ·exact⟨(by decide:(18:Nat)<19),by show min _ _ - 11<128; omega⟩
    ·exact ih _ _ (hd _) t ht
   split at ht
   ·rename_i h1 h2
    rcases List.mem_cons.1 ht with rfl | ht
    ·refine⟨(by decide:(17:Nat)<19),?_⟩
     show PI.runL x r+1 - 3<128
     by_cases e:x=0
     ·have:¬ (11<=PI.runL x r+1):=fun h=>h1 ⟨e,h⟩
      omega
     ·exact absurd h2.1 e
    ·exact ih _ _ (hd _) t ht
   ·rcases List.mem_cons.1 ht with rfl | ht
    ·exact⟨by show x<19; omega,(by decide:(0:Nat)<128)⟩
    ·exact ih _ _ hd1 t ht
def Ahead (acc:List Nat) (p:Nat):Prop:=p≠0->acc≠[]/\acc.getD (acc.length - 1) 0=p
theorem ahead_rep (acc:List Nat) (x k:Nat) (h:0<k):Ahead (acc++List.replicate k x) x:=fun _=>by
 obtain⟨k,rfl⟩:∃j,k=j+1:=⟨k - 1,by omega⟩
 refine⟨by simp [List.replicate_succ],?_⟩
 rw [List.getD_eq_getElem?_getD,List.length_append,List.length_replicate,List.getElem?_append_right (by omega),List.getElem?_replicate,if_pos (by omega)]
 rfl
theorem rl_all {m:List Nat} : ∀(f p:Nat) (l acc:List Nat),l.length<=f->(∀x ∈ l,x<=15)->Ahead acc p->PI.tellsO acc (rl f p l)=acc++l/\((∀t ∈ rl f p l,PI.Has m t.1)->PI.TellsOk m acc (rl f p l)):=by
 intro f
 induction f with
 | zero=>intro p l acc h _ _; obtain rfl:=List.eq_nil_of_length_eq_zero (l:=l) (by omega); exact⟨by simp [rl,PI.tellsO],fun _=>trivial⟩
 | succ f ih =>
  intro p l acc h h15 ha
  cases l with
  | nil=>exact⟨by simp [rl,PI.tellsO],fun _=>trivial⟩
  | cons x r =>
   have hx:=h15 x (List.mem_cons_self ..)
   have hr:=PI.runL_le x r
   simp only [List.length_cons] at h
   have hd:∀k,1<=k->((x::r).drop k).length<=f:=fun k hk=>by simp; omega
   have hd15:∀k,∀y ∈ (x::r).drop k,y<=15:=fun k y hy=>h15 y (List.mem_of_mem_drop hy)
   have htk:∀k,k<=PI.runL x r+1->(x::r).take k=List.replicate k x:=fun k hk=>by
    cases k with
    | zero=>rfl
    | succ k=>rw [List.take_succ_cons,PI.runL_take x r k (by omega)]; rfl
   have hcat:∀k,k<=PI.runL x r+1->List.replicate k x++(x::r).drop k=x::r:=fun k hk=>by rw [<- htk k hk,List.take_append_drop]
   have step:∀(t:Nat × Nat) (k:Nat),1<=k->k<=PI.runL x r+1->PI.tellO acc t=acc++List.replicate k x->(t.2<2 ^ PI.tellB t.1/\(t.1=16->acc≠[])) ->
     PI.tellsO acc (t::rl f x ((x::r).drop k))=acc++x::r/\((∀u ∈ t::rl f x ((x::r).drop k),PI.Has m u.1)->PI.TellsOk m acc (t::rl f x ((x::r).drop k))):=by
    intro t k k1 k2 ht hb
    obtain⟨h1,h2⟩:=ih x ((x::r).drop k) (acc++List.replicate k x) (hd k k1) (hd15 k) (ahead_rep _ _ _ k1)
    refine⟨?_,fun hm=>⟨⟨hm t (List.mem_cons_self ..),hb⟩,?_⟩⟩
    ·show PI.tellsO (PI.tellO acc t) _=_
     rw [ht,h1,List.append_assoc,hcat k k2]
    ·rw [ht]; exact h2 fun u hu=>hm u (List.mem_cons_of_mem _ hu)
   rw [rl]
   split
   ·rename_i hc
    obtain⟨a1,a2⟩:=ha (by rw [hc.1]; exact hc.2.1)
    refine step _ _ (by omega) (by omega) ?_ ⟨?_,fun _=>a1⟩
    ·unfold PI.tellO
     rw [if_pos rfl,a2,hc.1,show 3+(min (PI.runL x r+1) 6 - 3)=min (PI.runL x r+1) 6 by omega]
    ·show min (PI.runL x r+1) 6 - 3<2 ^ 2
     omega
   split
   ·rename_i hc
    refine step _ _ (by omega) (by omega) ?_ ⟨?_,fun h=>by simp at h⟩
    ·unfold PI.tellO
     rw [if_neg (by show ¬ (18:Nat)=16; decide),if_neg (by show ¬ (18:Nat)=17; decide),if_pos rfl,hc.1,show 11+(min (PI.runL 0 r+1) 138 - 11)=min (PI.runL 0 r+1) 138 by have:=hc.2; rw [hc.1] at this; omega]
    ·show min (PI.runL x r+1) 138 - 11<2 ^ 7
     omega
   split
   ·rename_i hc1 hc
    refine step _ _ (by omega) (by omega) ?_ ⟨?_,fun h=>by simp at h⟩
    ·unfold PI.tellO
     rw [if_neg (by show ¬ (17:Nat)=16; decide),if_pos rfl,hc.1,show 3+(PI.runL 0 r+1 - 3)=PI.runL 0 r+1 by have:=hc.2; rw [hc.1] at this; omega]
    ·show PI.runL x r+1 - 3<2 ^ 3
     have:¬ (11<=PI.runL x r+1):=fun h=>hc1 ⟨hc.1,h⟩
     omega
   ·have hx16:¬ x=16:=by omega
    refine step (x,0) 1 (Nat.le_refl _) (by omega) (PI.tellO_lit acc x 0 hx) ⟨?_,fun h=>absurd h hx16⟩
    show(0:Nat)<2 ^ PI.tellB x
    exact Nat.two_pow_pos _
theorem row_all {m:List Nat} (l:List Nat) (h15:∀x ∈ l,x<=15):PI.tellsO [] (row l)=l/\((∀t ∈ row l,PI.Has m t.1)->PI.TellsOk m [] (row l)):=rl_all l.length 0 l [] (Nat.le_refl _) h15 (fun h=>absurd rfl h)
theorem rl_len:∀(f p:Nat) (l:List Nat),(rl f p l).length<=f:=by
 intro f
 induction f with
 | zero=>intro p l; exact Nat.le_refl _
 | succ f ih =>
  intro p l
  cases l with
  | nil=>exact Nat.zero_le _
  | cons x r =>
   rw [rl]
   split
   ·exact Nat.succ_le_succ (ih _ _)
   split
   ·exact Nat.succ_le_succ (ih _ _)
   split
   ·exact Nat.succ_le_succ (ih _ _)
   ·exact Nat.succ_le_succ (ih _ _)
/-! How many lengths of lengths are told. -/
theorem toldN_le (m:List Nat) (n:Nat):toldN m n<=n:=by
 induction n with
 | zero=>exact Nat.le_refl _
 | succ n ih=>unfold toldN; split <;> omega
theorem toldN_least (m:List Nat) (n:Nat) (h:4<=n):4<=toldN m n:=by
 induction n with
 | zero=>omega
 | succ n ih =>
  unfold toldN
  split
  ·exact ih (by omega)
  ·exact h
theorem toldN_zero (m:List Nat) (n i:Nat) (h:toldN m n<=i) (hi:i<n):m.getD (PI.orderT.getD i 0) 0=0:=by
 induction n with
 | zero=>omega
 | succ n ih =>
  unfold toldN at h
  split at h
  ·rename_i hc
   by_cases e:i=n
   ·subst e; exact hc.2
   ·exact ih h (by omega)
  ·omega
theorem order_has:∀i,i<19->∃k,k<19/\PI.orderT.getD k 0=i:=by decide
theorem told_zero (m:List Nat) (i:Nat) (hi:i<19) (h:i ∉ PI.orderT.take (told m)):m.getD i 0=0:=by
 obtain⟨k,hk,rfl⟩:=order_has i hi
 refine toldN_zero m 19 k ?_ hk
 by_cases hc:k<told m
 ·refine absurd ?_ h
  have hl:PI.orderT.length=19:=rfl
  rw [List.getD_eq_getElem?_getD,List.getElem?_eq_getElem (by omega)]
  exact List.mem_take_iff_getElem.2 ⟨k,by omega,rfl⟩
 ·exact Nat.le_of_not_lt hc
end PD
namespace PD
abbrev Wd:=Nat × Nat × Nat × Nat
def wd (s:PM.St):List Wd:=if s.1=0 then [(0,s.2.2.toNat,0,0)] else [(0,257+(PI.longS s.1).1,(PI.longS s.1).2.1,(PI.longS s.1).2.2),(1,(PI.farS s.2.1).1,(PI.farS s.2.1).2.1,(PI.farS s.2.1).2.2)]
def wds (Y:List PM.St):List Wd:=Y.flatMap wd
def words (Y:List PM.St):List Wd:=wds Y++[(0,256,0,0)]
def signsOf (b:Nat) (l:List Wd):List Nat:=(l.filter fun t=>t.1 == b).map fun t=>t.2.1
def wW (A B:List Nat) (t:Wd):List Bool:=PI.sayW (if t.1=0 then A else B) t.2.1 t.2.2.2 t.2.2.1
def layW (A B:List Nat) (l:List Wd):List Bool:=l.flatMap (wW A B)
def costW (A B:List Nat) (l:List Wd):Nat:=(l.map fun t=>(if t.1=0 then A else B).getD t.2.1 0+t.2.2.1).sum
theorem wW_len (A B:List Nat) (t:Wd):(wW A B t).length=(if t.1=0 then A else B).getD t.2.1 0+t.2.2.1:=by
 unfold wW PI.sayW
 rw [List.length_append,PI.codeW_len,PBits.bitsOf_length]
theorem layW_len (A B:List Nat) (l:List Wd):(layW A B l).length=costW A B l:=by
 unfold layW costW
 rw [List.length_flatMap]
 congr 1
 exact List.map_congr_left fun t _=>wW_len A B t
theorem wds_cons (s:PM.St) (l:List PM.St):wds (s::l)=wd s++wds l:=rfl
theorem signsOf_app (b:Nat) (u v:List Wd):signsOf b (u++v)=signsOf b u++signsOf b v:=by unfold signsOf; rw [List.filter_append,List.map_append]
theorem signs0 (Y:List PM.St):signsOf 0 (words Y)=PI.symsOf (toks Y):=by
 unfold words
 induction Y with
 | nil=>rfl
 | cons s l ih =>
  rw [wds_cons,List.append_assoc,signsOf_app,ih]
  show _=PI.symsOf (tokOf s::toks l)
  unfold wd tokOf
  split <;> rfl
theorem signs1 (Y:List PM.St):signsOf 1 (words Y)=PI.farsOf (toks Y):=by
 unfold words
 induction Y with
 | nil=>rfl
 | cons s l ih =>
  rw [wds_cons,List.append_assoc,signsOf_app,ih]
  show _=PI.farsOf (tokOf s::toks l)
  unfold wd tokOf
  split <;> rfl
theorem sayW_plain (m:List Nat) (s:Nat):PI.sayW m s 0 0=PI.codeW m s:=by
 unfold PI.sayW
 show _++[]=_
 rw [List.append_nil]
theorem layW_app (A B:List Nat) (u v:List Wd):layW A B (u++v)=layW A B u++layW A B v:=by unfold layW; rw [List.flatMap_append]
theorem lay_words (A B:List Nat) (Y:List PM.St):layW A B (words Y)=PI.toksW A B (toks Y):=by
 unfold words PI.toksW
 induction Y with
 | nil =>
  show wW A B (0,256,0,0)++[]=[]++PI.codeW A 256
  rw [List.append_nil,List.nil_append]
  exact sayW_plain A 256
 | cons s l ih =>
  rw [wds_cons,List.append_assoc,layW_app,ih]
  show _=(tokOf s::toks l).flatMap _++_
  rw [List.flatMap_cons,List.append_assoc]
  congr 1
  unfold wd tokOf
  split
  ·show wW A B (0,s.2.2.toNat,0,0)++[]=PI.codeW A s.2.2.toNat
   rw [List.append_nil]
   exact sayW_plain A _
  ·show wW A B _++(wW A B _++[])=_
   rw [List.append_nil]
   rfl
def rwd (t:Nat × Nat):Wd:=(0,t.1,PI.tellB t.1,t.2)
theorem lay_row (F:List Nat) (l:List (Nat × Nat)):layW F [] (l.map rwd)=PI.tellsW F l:=by
 unfold layW PI.tellsW
 rw [List.flatMap_map]
 rfl
theorem signs_row (l:List (Nat × Nat)):signsOf 0 (l.map rwd)=l.map Prod.fst:=by
 induction l with
 | nil=>rfl
 | cons t l ih =>
  show signsOf 0 ([rwd t]++l.map rwd)=[t.1]++l.map Prod.fst
  rw [signsOf_app,ih]; rfl
theorem words_len (Y:List PM.St):(words Y).length<=2 * Y.length+1:=by
 unfold words
 rw [List.length_append]
 have:(wds Y).length<=2 * Y.length:=by
  induction Y with
  | nil=>exact Nat.le_refl _
  | cons s l ih =>
   rw [wds_cons,List.length_append,List.length_cons]
   have:(wd s).length<=2:=by unfold wd; split <;> simp
   omega
 simp; omega
def WdOk (A B:List Nat) (t:Wd):Prop:=t.1<2/\PI.Has (if t.1=0 then A else B) t.2.1/\t.2.2.2<2 ^ t.2.2.1/\t.2.2.1<=13
theorem words_ok {A B:List Nat} {Y:List PM.St} {n:Nat} (hY:PM.mays Y n) (hA:∀s ∈ PI.symsOf (toks Y),s<286->PI.Has A s) (hB:∀s ∈ PI.farsOf (toks Y),s<30->PI.Has B s):∀t ∈ words Y,WdOk A B t:=by
 have key:∀(Y:List PM.St) (n:Nat),PM.mays Y n->∀t ∈ wds Y,t.1<2/\t.2.2.2<2 ^ t.2.2.1/\t.2.2.1<=13/\(t.1=0->t.2.1<286)/\(t.1=1->t.2.1<30):=by
  intro Y
  induction Y with
  | nil=>intro n _ t ht; cases ht
  | cons s l ih =>
   intro n h t ht
   rw [wds_cons] at ht
   rcases List.mem_append.1 ht with ht | ht
   ·unfold wd at ht
    split at ht
    ·rw [List.mem_singleton.1 ht]
     have:=s.2.2.toNat_lt
     exact⟨by show 0<2; decide,by show 0<2 ^ 0; decide,by show 0<=13; decide,fun _=>by show s.2.2.toNat<286; omega,fun h=>by cases h⟩
    ·rename_i hne
     rcases h.1 with h1 | h1
     ·exact absurd h1.1 hne
     ·obtain⟨g1,g2,g3⟩:=PI.longS_lt s.1 h1.1 h1.2.1
      obtain⟨k1,k2,k3⟩:=PI.farS_lt s.2.1 h1.2.2.1 h1.2.2.2.1
      simp only [List.mem_cons,List.not_mem_nil,or_false] at ht
      rcases ht with rfl | rfl
      ·exact⟨by show 0<2; decide,g2,by show(PI.longS s.1).2.1<=13; omega,fun _=>by show 257+(PI.longS s.1).1<286; omega,fun h=>by cases h⟩
      ·exact⟨by show 1<2; decide,k2,k3,fun h=>absurd (show(1:Nat)=0 from h) (by decide),fun _=>by show(PI.farS s.2.1).1<30; omega⟩
   ·exact ih _ h.2 t ht
 intro t ht
 have hm:∀b,t.1=b->t.2.1 ∈ signsOf b (words Y):=fun b hb=>by
  unfold signsOf
  exact List.mem_map.2 ⟨t,List.mem_filter.2 ⟨ht,by simp [hb]⟩,rfl⟩
 have h0:t.1<2/\t.2.2.2<2 ^ t.2.2.1/\t.2.2.1<=13/\(t.1=0->t.2.1<286)/\(t.1=1->t.2.1<30):=by
  unfold words at ht
  rcases List.mem_append.1 ht with h | h
  ·exact key Y n hY t h
  ·rw [List.mem_singleton.1 h]
   exact⟨by show 0<2; decide,by show 0<2 ^ 0; decide,by show 0<=13; decide,fun _=>by show 256<286; decide,fun h=>by cases h⟩
 obtain⟨a1,a2,a3,a4,a5⟩:=h0
 refine⟨a1,?_,a2,a3⟩
 by_cases e:t.1=0
 ·rw [if_pos e]
  have:=hm 0 e
  rw [signs0] at this
  exact hA _ this (a4 e)
 ·have e1:t.1=1:=by omega
  rw [if_neg e]
  have:=hm 1 e1
  rw [signs1] at this
  exact hB _ this (a5 e1)
end PD
open Go.RowKit
namespace PBits
theorem bitsOf_get (n k i:Nat) (h:i<k):(bitsOf n k)[i]?=some (n.testBit i):=by
 induction k generalizing n i with
 | zero=>omega
 | succ k ih =>
  cases i with
  | zero =>
   show some (n % 2 == 1)=_
   rw [Nat.testBit_eq_decide_div_mod_eq,Nat.pow_zero,Nat.div_one]
   rfl
  | succ i =>
   show(bitsOf (n / 2) k)[i]?=_
   rw [ih (n / 2) i (by omega),Nat.testBit_succ]
theorem bitsC_rev (n c:Nat):PH.bitsC n c=(bitsOf c n).reverse:=by
 apply List.ext_getElem?
 intro i
 by_cases h:i<n
 ·rw [List.getElem?_reverse (by rw [bitsOf_length]; exact h),bitsOf_length,bitsOf_get c n _ (by omega)]
  simp [PH.bitsC,h]
 ·rw [List.getElem?_eq_none (by rw [PH.bitsC_len]; omega),List.getElem?_eq_none (by rw [List.length_reverse,bitsOf_length]; omega)]
theorem num_bitsC (n c:Nat):num (PH.bitsC n c)=rev c n:=by rw [bitsC_rev,num_rev_bitsOf]
end PBits
def WB (g:Nat) (B:List Bool):Pr:=Wr g (PBits.num B) B.length
theorem wb_new {w0 w:World} {L:List Pr} (H:Sp w0 L w):Calls Tryz.prog 79 #[] w (Ret fun v w'=>∃g,v=.pointer (some ⟨g,0,none⟩)/\Sp w0 (WB g []::L) w'):=newWriter_ok H
theorem wb_put (g:Nat) (B:List Bool) (n k:Nat) {w0 w:World} {L:List Pr} (H:Sp w0 (WB g B::L) w) (hk:k<=57) (hn:n<2 ^ k) (hB:B.length<=1000000000) :
  Calls Tryz.prog 144 #[.pointer (some ⟨g,0,none⟩),.int .u64 (n:Int),.int .i64 (k:Int)] w fun e w'=>e=.returned (.int .i64 0)/\Sp w0 (WB g (B++PBits.bitsOf n k)::L) w':=by
 refine(put_ok g _ _ n k H (PBits.num_lt B) hk hn hB).mono ?_
 rintro _ w' ⟨rfl,h⟩
 refine⟨rfl,?_⟩
 unfold WB
 rw [PBits.num_append,PBits.num_bitsOf,Nat.mod_eq_of_lt hn,List.length_append,PBits.bitsOf_length,Nat.mul_comm]
 exact h
theorem wb_code (g:Nat) (B:List Bool) (n k:Nat) {w0 w:World} {L:List Pr} (H:Sp w0 (WB g B::L) w) (hk:k<=57) (hn:n<2 ^ k) (hB:B.length<=1000000000) :
  Calls Tryz.prog 172 #[.pointer (some ⟨g,0,none⟩),.int .u64 (n:Int),.int .i64 (k:Int)] w fun e w'=>e=.returned (.int .i64 0)/\Sp w0 (WB g (B++PH.bitsC k n)::L) w':=by
 refine(code_ok g _ _ n k H (PBits.num_lt B) hk hn hB).mono ?_
 rintro _ w' ⟨rfl,h⟩
 refine⟨rfl,?_⟩
 unfold WB
 rw [PBits.num_append,PBits.num_bitsC,List.length_append,PH.bitsC_len,Nat.mul_comm]
 exact h
theorem wb_align (g:Nat) (B:List Bool) {w0 w:World} {L:List Pr} (H:Sp w0 (WB g B::L) w) (hB:B.length<=1000000000) :
  Calls Tryz.prog 143 #[.pointer (some ⟨g,0,none⟩)] w fun e w'=>e=.returned (.int .i64 0)/\Sp w0 (WB g (B++List.replicate (PD.pad B.length) false)::L) w':=by
 refine(align_ok g _ _ H (PBits.num_lt B) hB).mono ?_
 rintro _ w' ⟨rfl,h⟩
 refine⟨rfl,?_⟩
 unfold WB
 rw [PBits.num_append,PBits.num_false,Nat.mul_zero,Nat.add_zero,List.length_append,List.length_replicate,show B.length+PD.pad B.length=(B.length+7) / 8 * 8 by unfold PD.pad; omega]
 exact h
theorem wb_bytes (g:Nat) (B:List Bool) {v:Value} {l:List UInt8} {w0 w:World} {L:List Pr} (H:Sp w0 (WB g B::L) w) (hb:Byt w v l) (h8:B.length % 8=0) (hB:B.length<=1000000000) (hl:l.length<=1000000000) :
  Calls Tryz.prog 145 #[.pointer (some ⟨g,0,none⟩),v] w fun e w'=>e=.returned (.int .i64 0)/\Sp w0 (WB g (B++PBits.ofB l)::L) w':=by
 refine(bytes_ok g _ _ H hb h8 (PBits.num_lt B) hB hl).mono ?_
 rintro _ w' ⟨rfl,h⟩
 refine⟨rfl,?_⟩
 unfold WB
 rw [PBits.num_append,PBits.num_ofB,List.length_append,PBits.ofB_length,Nat.mul_comm (2 ^ _)]
 exact h
theorem wb_len (g:Nat) (B:List Bool) {w0 w:World} {L:List Pr} (H:Sp w0 (WB g B::L) w) (hB:B.length<=1000000000) :
  Calls Tryz.prog 114 #[.pointer (some ⟨g,0,none⟩)] w fun e w'=>e=.returned (.int .i64 (B.length:Int))/\Sp w0 (WB g B::L) w':=by
 refine(len_ok g _ _ H (by omega)).mono ?_
 rintro _ w' ⟨rfl,h⟩
 exact⟨rfl,h.sep H⟩
theorem wb_done (g:Nat) (B:List Bool) {w0 w:World} {L:List Pr} (H:Sp w0 (WB g B::L) w) (hB:B.length<=1000000000) :
  Calls Tryz.prog 81 #[.pointer (some ⟨g,0,none⟩)] w (Ret fun v w'=>Sp w0 (Row 5 1 v (PI.packB B).length (cells8 (PI.packB B))::WB g B::L) w'):=by
 refine(done_ok g _ _ H hB).mono ?_
 rintro _ w' ⟨v,rfl,h⟩
 refine⟨v,rfl,?_⟩
 rw [PI.packB_len]
 exact h
def cellsP (t:List (Nat × Nat)):List Value:=t.flatMap fun p=>[.int .i64 (p.1:Int),.int .i64 (p.2:Int)]
theorem cellsP_len (t:List (Nat × Nat)):(cellsP t).length=t.length * 2:=by
 induction t with
 | nil=>rfl
 | cons p t ih=>show([_,_]++cellsP t).length=_; simp [ih]; omega
theorem cellsP_get:∀(t:List (Nat × Nat)) (i:Nat),i<t.length->(cellsP t)[i * 2]?=some (.int .i64 ((t.getD i (0,0)).1:Int))/\(cellsP t)[i * 2+1]?=some (.int .i64 ((t.getD i (0,0)).2:Int))
 | [],i,h=>by simp at h
 | p::t,0,_=>⟨rfl,rfl⟩
 | p::t,i+1,h=>by
  have:=cellsP_get t i (by simpa using h)
  have e:cellsP (p::t)=[.int .i64 (p.1:Int),.int .i64 (p.2:Int)]++cellsP t:=rfl
  rw [e,List.getElem?_append_right (by simp; omega),List.getElem?_append_right (by simp; omega)]
  simp only [List.length_cons,List.length_nil]
  rw [show(i+1) * 2 - (0+1+1)=i * 2 by omega,show(i+1) * 2+1 - (0+1+1)=i * 2+1 by omega]
  exact this
theorem rdP {w:World} {A:Option Addr} {t:List (Nat × Nat)} (h:Rd w A (cellsP t)) {i:Nat} (hi:i<t.length):∃ad,A=some ad/\w.cell? (ad.add (i * 2))=some (.int .i64 ((t.getD i (0,0)).1:Int))/\w.cell? ⟨(ad.add (i * 2)).block,(ad.add (i * 2)).off+1,none⟩=some (.int .i64 ((t.getD i (0,0)).2:Int)):=by
 obtain⟨ad,e,hc⟩:=h (by intro e; have:=cellsP_len t; rw [e] at this; simp at this; omega)
 have hg:=cellsP_get t i hi
 refine⟨ad,e,hc _ _ hg.1,?_⟩
 rw [field_addr ad (i * 2) 1 (by omega)]
 exact hc _ _ hg.2
namespace PD
def longT:List (Nat × Nat):=PI.lengthsT++[(258,0)]
theorem longT_find (x:Nat) (h:3<=x) (h2:x<=258):PI.findT longT x 28=(PI.longS x).1/\longT.getD (PI.findT longT x 28) (0,0)=(if x=258 then 258 else (PI.lengthsT.getD (PI.longS x).1 (0,0)).1,(PI.longS x).2.1)/\x - (longT.getD (PI.findT longT x 28) (0,0)).1=(PI.longS x).2.2/\(longT.getD (PI.findT longT x 28) (0,0)).1<=x:=by
 have e28:longT.getD 28 (0,0)=(258,0):=rfl
 unfold PI.longS
 by_cases e:x=258
 ·subst e
  have e1:PI.findT longT 258 28=28:=by rw [PI.findT,e28,if_pos (by decide)]
  rw [if_pos rfl,e1,e28]
  exact⟨rfl,rfl,rfl,by decide⟩
 ·have hk:∀k,k<=27->PI.findT longT x k=PI.findT PI.lengthsT x k:=by
   intro k
   induction k with
   | zero=>intro _; rfl
   | succ k ih =>
    intro hk
    rw [PI.findT,PI.findT,ih (by omega)]
    have:longT.getD (k+1) (0,0)=PI.lengthsT.getD (k+1) (0,0):=by
     unfold longT
     rw [List.getD_eq_getElem?_getD,List.getD_eq_getElem?_getD,List.getElem?_append_left (by show k+1<28; omega)]
    rw [this]
  have e1:PI.findT longT x 28=PI.findT PI.lengthsT x 27:=by
   rw [PI.findT,e28,if_neg (by show ¬ 258<=x; omega),hk 27 (by omega)]
  have hf:=PI.findT_spec PI.lengthsT x 27 h
  have e2:longT.getD (PI.findT PI.lengthsT x 27) (0,0)=PI.lengthsT.getD (PI.findT PI.lengthsT x 27) (0,0):=by
   unfold longT
   rw [List.getD_eq_getElem?_getD,List.getD_eq_getElem?_getD,List.getElem?_append_left (by show _<28; omega)]
  rw [if_neg e,e1,e2,if_neg e]
  exact⟨rfl,rfl,rfl,hf.2.1⟩
def longI (x:Int):Nat × Nat × Nat:=if 3<=x/\x<=258 then (257+(PI.longS x.toNat).1,(PI.longS x.toNat).2.1,(PI.longS x.toNat).2.2) else (0,0,0)
def farI (x:Int):Nat × Nat × Nat:=if 1<=x/\x<=32768 then ((PI.farS x.toNat).1,(PI.farS x.toNat).2.1,(PI.farS x.toNat).2.2) else (0,0,0)
end PD
structure DTabs (TL TF:Option Addr) (cl cf:Nat) (w:World):Prop where
 long:w.cell? ⟨0,0,none⟩=some (.slice TL 29 cl)
 longs:Rd w TL (cellsP PD.longT)
 far:w.cell? ⟨1,0,none⟩=some (.slice TF 30 cf)
 fars:Rd w TF (cellsP PI.awayT)
 order:∀i,i<19->w.cell? ⟨2,i,none⟩=some (.int .i64 (PI.orderT.getD i 0:Nat))
theorem DTabs.heap {TL TF:Option Addr} {cl cf:Nat} {W w:World} (h:DTabs TL TF cl cf W) (hs:∀b,b<W.heap.size->w.heap[b]?=W.heap[b]?):DTabs TL TF cl cf w:=by
 have hc:∀(p:Addr) u,W.cell? p=some u->w.cell? p=some u:=fun p u hp=>by
  rw [<- hp]; exact World.cell?_of_block (hs p.block (cell_lt hp))
 exact⟨hc _ _ h.long,h.longs.keep fun p u _ hp=>(hc p u hp).trans hp.symm,hc _ _ h.far,h.fars.keep fun p u _ hp=>(hc p u hp).trans hp.symm,fun i hi=>hc _ _ (h.order i hi)⟩
theorem findT_stop {t:List (Nat × Nat)} {x k:Nat} (h:(t.getD k (0,0)).1<=x):PI.findT t x k=k:=by
 cases k with
 | zero=>rfl
 | succ k=>unfold PI.findT; rw [if_pos h]
theorem findT_down {t:List (Nat × Nat)} {x k:Nat} (h:¬ (t.getD (k+1) (0,0)).1<=x):PI.findT t x (k+1)=PI.findT t x k:=by
 rw [PI.findT,if_neg h]
set_option maxRecDepth 100000 in
set_option maxHeartbeats 1000000 in
theorem dfind_ok (TA:Option Addr) (n c:Nat) (t:List (Nat × Nat)) (x:Nat) {w0 w:World} {L:List Pr} (H:Sp w0 L w) (hT:Ent L fun w=>Rd w TA (cellsP t)) (hn:n=t.length) (h0:0<n) (hns:n<=1000) (hx0:(t.getD 0 (0,0)).1<=x) (hxs:x<=1000000) :
  Calls Tryz.prog 58 #[.slice TA n c,.int .i64 (x:Int)] w fun e w'=>e=.returned (.tuple #[.int .i64 (PI.findT t x (n - 1):Int),.agg #[.int .i64 ((t.getD (PI.findT t x (n - 1)) (0,0)).1:Int),.int .i64 ((t.getD (PI.findT t x (n - 1)) (0,0)).2:Int)]])/\Sp w0 L w':=by
 obtain⟨T,hTT⟩:∃T,PI.findT t x (n - 1)=T:=⟨_,rfl⟩
 rw [hTT]
 have HT:=Lib.hid hT
 have HTT:=Lib.hid hTT
 have HN:=Lib.hid hn
 have HX0:=Lib.hid hx0
 have H1:=H.newBk [.int .i64 0,.int .i64 0] 109
 obtain⟨m,rfl⟩:∃m,n=m+1:=⟨n - 1,by omega⟩
 have y0:((m+1:Nat):Int) - 1=(m:Int):=by omega
 rw [Nat.add_sub_cancel] at HTT
 clear hT hn hx0 H hTT
 go_enter Tryz.func58,Tryz.ntmps58
 go_wp2_with fail
 have HH1:=Lib.hid H1
 clear H1
 generalize w.heap.size=g at HH1 ⊢
 go_loopw [6] (fun kv wr=>∃k:Nat,kv=.int .i64 (k:Int)/\k<=m/\PI.findT t x k=T/\Sp w0 (Bk g 109 [.int .i64 0,.int .i64 0]::L) wr) (fun kv _=>(intOf kv).toNat)
 case atStart=>exact⟨m,rfl,Nat.le_refl _,HTT.out,HH1.out⟩
 case round =>
  obtain⟨k,rfl,hk,hft,H2⟩:=hrel
  clear HH1 HTT
  have HF:=Lib.hid hft
  have hkt:k<t.length:=by have:=HN.out; omega
  obtain⟨ad,rfl,p0,p1⟩:=rdP (HT.out _ _ H2.tail) hkt
  obtain⟨⟨f,b⟩,hp⟩:∃p,t.getD k (0,0)=p:=⟨_,rfl⟩
  rw [hp] at p0 p1
  simp only at p0 p1
  have HP:=Lib.hid hp
  have k1:(k:Int)<((m+1:Nat):Int):=by omega
  have k3:(k:Int)<(m:Int)+1:=by omega
  have hcell:Ent L fun w=>w.cell? (ad.add (k * 2))=some (.int .i64 (f:Int))/\w.cell? ⟨(ad.add (k * 2)).block,(ad.add (k * 2)).off+1,none⟩=some (.int .i64 (b:Int)):=fun w0 w H=>by
   obtain⟨ad2,e,h0,h1⟩:=rdP (HT.out _ _ H) hkt
   injection e with e
   rw [HP.out] at h0 h1
   rw [e]; exact⟨h0,h1⟩
  have HC:=Lib.hid hcell
  clear hft hp hcell
  by_cases hfx:f<=x
  ·have k2:¬ (f:Int) > (x:Int):=by omega
   have HK:Hid (k=T):=by
    rw [<- HF.out]; exact Lib.hid (findT_stop (by rw [HP.out]; exact hfx)).symm
   have HH2:=Lib.hid H2
   clear HF H2
   go_wp2_with fail
   refine wp_region_sc (L:=L) [some (.int .i64 (k:Int)),some (.slice (some ad) (m+1) c),some (.int .i64 (k:Int)),some (.pointer (some (ad.add (k * 2)))),some (.agg #[.int .i64 (f:Int),.int .i64 (b:Int)]),some (.int .i64 (k:Int)),some (undef)] (fun _ _=>True) (fun ix vx=>match ix with | 6=>(fun _=>[Bk g 109 [.int .i64 (f:Int),.int .i64 (b:Int)]]) vx | _=>[]) (fun ix=>match ix with | 6=>[Bk g 109 [.int .i64 0,.int .i64 0]] | _=>[]) 7 24
    [some 19,some 20,some 21,some 22,some 23,some 4,none]
    [[],[],[],[1,2],[3],[0,0],[4,5,0,1,2,3,4,5]]
    [[],[],[],[1,2],[1,2,3],[0],[0,1,2,3,4,5]]
    [[],[],[],[],[],[],[]] [[],[],[],[],[],[],[]] [(0,.slice (some ad) (m+1) c),(5,.pointer (some ⟨g,0,none⟩)),(6,.int .i64 (k:Int))]
    (by kernel_rfl) rfl (by decide) (by rfl) (by decide +kernel) rfl rfl (by simp) (HH2.out) ?hstep ?hend
   case hstep =>
    refine⟨?p0,⟨?p1,⟨?p2,⟨?p3,⟨?p4,⟨?p5,⟨?p6,trivial⟩⟩⟩⟩⟩⟩⟩
    case p0 | p1 | p2 | p3 | p5 =>
     intro x wx A rest hDf hF hS hE H K hK
     replace hK:=Lib.hid hK
     clear hS hE hDf
     repeat (obtain⟨_,hF⟩:=hF)
     change Oper.wp _ _ A wx K _
     go_step
     exact hK.out _ _ rfl H
    case p4 =>
     intro x wx A rest hDf hF hS hE H K hK0
     replace hDf:=Lib.hid hDf
     have e22:A.tmps[22]?.getD undef=.pointer (some (ad.add (k * 2))):=((hS 3 (by decide)).2 22 rfl).trans (hS 3 (by decide)).1
     replace H:Sp w0 (rest) wx:=H
     have hK:Hid (∀(v:Value) (w' : World),v=.agg #[.int .i64 (f:Int),.int .i64 (b:Int)]->Sp w0 (rest) w'->K (A.put (some 23) v) w'):=Lib.hid hK0
     clear hK0 hF hS
     have hc:=hE _ HC.out _ _ H
     have c0:=hc.1
     have c1:=hc.2
     clear hc hE
     change Oper.wp _ _ A wx K _
     go_step
     exact hK.out _ _ rfl (H)
    case p6 =>
     intro x wx A rest hDf hF hS hE H K hK0
     replace hDf:=Lib.hid hDf
     have e5:A.tmps[5]?.getD undef=.pointer (some ⟨g,0,none⟩):=factsE_get hF (5,.pointer (some ⟨g,0,none⟩)) (by simp) (by rfl)
     have e23:A.tmps[23]?.getD undef=.agg #[.int .i64 (f:Int),.int .i64 (b:Int)]:=((hS 4 (by decide)).2 23 rfl).trans (hS 4 (by decide)).1
     replace H:Sp w0 ((Bk g 109 [.int .i64 0,.int .i64 0])::rest) wx:=H
     have hK:Hid (∀(v:Value) (w' : World),v=undef->Sp w0 ((Bk g 109 [.int .i64 (f:Int),.int .i64 (b:Int)])::rest) w'->K (A.put none v) w'):=Lib.hid hK0
     clear hK0 hF hS hE
     have t0:=H.cell 0 rfl 0
     have t1:=H.cell 0 rfl 1
     have z0:=H.frozen 0 rfl 0
     have z1:=H.frozen 0 rfl 1
     change Oper.wp _ _ A wx K _
     go_step
     exact hK.out _ _ rfl ((H.set 0 (.int .i64 (f:Int))).set 1 (.int .i64 (b:Int)))
   case hend =>
    intro x wx A hA hS H
    replace H:Sp w0 ((Bk g 109 [.int .i64 (f:Int),.int .i64 (b:Int)])::L) wx:=H
    have y5:x 5=.int .i64 (k:Int):=hS 5 (by decide)
    clear hS
    simp only [putAll,Act.put,List.setIfInBounds_toArray,List.set_cons_succ,List.set_cons_zero,Nat.reduceAdd] at hA
    subst hA
    have HX:=Lib.hid H
    clear H
    have t0:=HX.out.cell 0 rfl 0
    have t1:=HX.out.cell 0 rfl 1
    simp only [List.getElem?_cons_zero,List.getElem?_cons_succ] at t0 t1
    go_wp2
    rw [<- HK.out,HP.out]
    refine bodyPost_ret (v:=.tuple #[.int .i64 (k:Int),.agg #[.int .i64 (f:Int),.int .i64 (b:Int)]]) (by simp [results,go_sem,t0,t1,y5]) rfl ⟨rfl,HX.out.tail⟩
  ·have k2:(f:Int) > (x:Int):=by omega
   cases k with
   | zero =>
    have:=HX0.out
    rw [HP.out] at this
    exact absurd this hfx
   | succ k =>
    have HK:Hid (PI.findT t x k=T):=by
     rw [<- HF.out]; exact Lib.hid (findT_down (by rw [HP.out]; exact hfx)).symm
    clear HF
    go_wp2_with fail
    go_roundw
    case rel=>exact⟨k,by go_num,by omega,HK.out,H2⟩
    case measure=>first | (simp [intOf]; omega) | simp [intOf]
theorem longT_len:PD.longT.length=29:=rfl
theorem awayT_len:PI.awayT.length=30:=rfl
set_option maxRecDepth 100000 in
set_option maxHeartbeats 1000000 in
theorem dlong_ok (x:Int) {TL TF:Option Addr} {cl cf:Nat} {w0 w:World} {L:List Pr} (H:Sp w0 L w) (hT:Ent L (DTabs TL TF cl cf)) :
  Calls Tryz.prog 26 #[.int .i64 x] w fun e w'=>e=.returned (.tuple #[.int .i64 ((PD.longI x).1:Int),.int .i64 ((PD.longI x).2.1:Int),.int .i64 ((PD.longI x).2.2:Int)])/\Sp w0 L w':=by
 by_cases h1:3<=x
 ·by_cases h2:x<=258
  ·obtain⟨n,rfl⟩:∃n:Nat,x=(n:Int):=⟨x.toNat,by omega⟩
   have e:PD.longI (n:Int)=(257+(PI.longS n).1,(PI.longS n).2.1,(PI.longS n).2.2):=by
    unfold PD.longI; rw [if_pos ⟨h1,h2⟩]; rfl
   obtain⟨f1,f2,f3,f4⟩:=PD.longT_find n (by omega) (by omega)
   have hF:=dfind_ok TL 29 cl PD.longT n H (fun w0 w H=>(hT w0 w H).longs) longT_len.symm (by decide) (by decide) (by show 3<=n; omega) (by omega)
   obtain⟨⟨a,b⟩,hab⟩:∃p,PD.longT.getD (PI.findT PD.longT n 28) (0,0)=p:=⟨_,rfl⟩
   obtain⟨k,hk⟩:∃k,PI.findT PD.longT n 28=k:=⟨_,rfl⟩
   rw [e,<- f1,<- f3]
   rw [hab] at f2
   rw [show(PI.longS n).2.1=b from(congrArg Prod.snd f2).symm]
   rw [hab] at f4 ⊢
   have hF' : Calls Tryz.prog 58 #[.slice TL 29 cl,.int .i64 (n:Int)] w fun e w'=>e=.returned (.tuple #[.int .i64 (k:Int),.agg #[.int .i64 (a:Int),.int .i64 (b:Int)]])/\Sp w0 L w':=by
    have h:=hF
    rw [show(29:Nat) - 1=28 from rfl,hab,hk] at h
    exact h
   rw [hk]
   simp only at f4 ⊢
   have c0:=(hT _ _ H).long
   have hk28:k<=28:=by rw [<- hk]; exact(PI.findT_spec PD.longT n 28 (by show 3<=n; omega)).1
   obtain⟨s,hs⟩:∃s,257+k=s:=⟨_,rfl⟩
   obtain⟨q,hq⟩:∃q,n - a=q:=⟨_,rfl⟩
   have y1:257+(k:Int)=(s:Int):=by omega
   have y2:(n:Int) - (a:Int)=(q:Int):=by omega
   rw [hs,hq]
   have HF:=Lib.hid hF'
   have k1:¬ (n:Int)<3:=by omega
   have k2:¬ (n:Int) > 258:=by omega
   clear hF hF' f1 f2 f3 e hab hk hT f4 hs hq
   go_enter Tryz.func26,Tryz.ntmps26
   go_wp2_with fail
   refine HF.out.mono ?_
   rintro _ w1 ⟨rfl,H1⟩
   have H2:=H1.newBk [.int .i64 (a:Int),.int .i64 (b:Int)] 109
   have HH2:=Lib.hid H2
   have t0:=HH2.out.cell 0 rfl 0
   have t1:=HH2.out.cell 0 rfl 1
   simp only [List.getElem?_cons_zero,List.getElem?_cons_succ] at t0 t1
   clear HF c0 H2
   go_wp2_with fail
   go_quiet (fail)
   go_wp2
   exact bodyPost_ret (v:=.tuple #[.int .i64 (s:Int),.int .i64 (b:Int),.int .i64 (q:Int)]) (by simp [results,go_sem]) rfl ⟨rfl,(HH2.out.drewN _).tail⟩
  ·have e:PD.longI x=(0,0,0):=by unfold PD.longI; rw [if_neg (by omega)]
   rw [e]
   have k1:¬ x<3:=by omega
   have k2:x > 258:=by omega
   go_enter Tryz.func26,Tryz.ntmps26
   go_wp2
   exact bodyPost_ret (v:=.tuple #[.int .i64 0,.int .i64 0,.int .i64 0]) (by simp [results,go_sem]) rfl ⟨rfl,H⟩
 ·have e:PD.longI x=(0,0,0):=by unfold PD.longI; rw [if_neg (by omega)]
  rw [e]
  have k1:x<3:=by omega
  go_enter Tryz.func26,Tryz.ntmps26
  go_wp2
  exact bodyPost_ret (v:=.tuple #[.int .i64 0,.int .i64 0,.int .i64 0]) (by simp [results,go_sem]) rfl ⟨rfl,H⟩
set_option maxRecDepth 100000 in
set_option maxHeartbeats 1000000 in
theorem dfar_ok (x:Int) {TL TF:Option Addr} {cl cf:Nat} {w0 w:World} {L:List Pr} (H:Sp w0 L w) (hT:Ent L (DTabs TL TF cl cf)) :
  Calls Tryz.prog 28 #[.int .i64 x] w fun e w'=>e=.returned (.tuple #[.int .i64 ((PD.farI x).1:Int),.int .i64 ((PD.farI x).2.1:Int),.int .i64 ((PD.farI x).2.2:Int)])/\Sp w0 L w':=by
 by_cases h1:1<=x
 ·by_cases h2:x<=32768
  ·obtain⟨n,rfl⟩:∃n:Nat,x=(n:Int):=⟨x.toNat,by omega⟩
   have e:PD.farI (n:Int)=((PI.farS n).1,(PI.farS n).2.1,(PI.farS n).2.2):=by
    unfold PD.farI; rw [if_pos ⟨h1,h2⟩]; rfl
   have hf:=PI.findT_spec PI.awayT n 29 (by show 1<=n; omega)
   have hF:=dfind_ok TF 30 cf PI.awayT n H (fun w0 w H=>(hT w0 w H).fars) awayT_len.symm (by decide) (by decide) (by show 1<=n; omega) (by omega)
   rw [e]
   unfold PI.farS
   rw [show(30:Nat) - 1=29 from rfl] at hF
   obtain⟨k,hk⟩:∃k,PI.findT PI.awayT n 29=k:=⟨_,rfl⟩
   rw [hk] at hF hf ⊢
   obtain⟨⟨a,b⟩,hab⟩:∃p,PI.awayT.getD k (0,0)=p:=⟨_,rfl⟩
   rw [hab] at hF hf ⊢
   simp only at hf ⊢
   have f4:=hf.2.1
   have hk29:=hf.1
   obtain⟨q,hq⟩:∃q,n - a=q:=⟨_,rfl⟩
   have y2:(n:Int) - (a:Int)=(q:Int):=by omega
   rw [hq]
   have c0:=(hT _ _ H).far
   have HF:=Lib.hid hF
   have k1:¬ (n:Int)<1:=by omega
   have k2:¬ (n:Int) > 32768:=by omega
   clear hF e hab hk hT f4 hq hf
   go_enter Tryz.func28,Tryz.ntmps28
   go_wp2_with fail
   refine HF.out.mono ?_
   rintro _ w1 ⟨rfl,H1⟩
   have H2:=H1.newBk [.int .i64 (a:Int),.int .i64 (b:Int)] 109
   have HH2:=Lib.hid H2
   have t0:=HH2.out.cell 0 rfl 0
   have t1:=HH2.out.cell 0 rfl 1
   simp only [List.getElem?_cons_zero,List.getElem?_cons_succ] at t0 t1
   clear HF c0 H2
   go_wp2_with fail
   go_quiet (fail)
   go_wp2
   exact bodyPost_ret (v:=.tuple #[.int .i64 (k:Int),.int .i64 (b:Int),.int .i64 (q:Int)]) (by simp [results,go_sem]) rfl ⟨rfl,(HH2.out.drewN _).tail⟩
  ·have e:PD.farI x=(0,0,0):=by unfold PD.farI; rw [if_neg (by omega)]
   rw [e]
   have k1:¬ x<1:=by omega
   have k2:x > 32768:=by omega
   go_enter Tryz.func28,Tryz.ntmps28
   go_wp2
   exact bodyPost_ret (v:=.tuple #[.int .i64 0,.int .i64 0,.int .i64 0]) (by simp [results,go_sem]) rfl ⟨rfl,H⟩
 ·have e:PD.farI x=(0,0,0):=by unfold PD.farI; rw [if_neg (by omega)]
  rw [e]
  have k1:x<1:=by omega
  go_enter Tryz.func28,Tryz.ntmps28
  go_wp2
  exact bodyPost_ret (v:=.tuple #[.int .i64 0,.int .i64 0,.int .i64 0]) (by simp [results,go_sem]) rfl ⟨rfl,H⟩
end Go.Proofs.YtloijdbkikccgaaGreatDoor

