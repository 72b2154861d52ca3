/- A pack of texts: InfWord InfPen MatchMap MatchPlain MatchPlain2. -/
import Derived.DeepKeys4
import Derived.Maps.Keyed
import Derived.WideKeyEntry
import Derived.Test.YtloijdbkikccgaaGreatDoorPk02
import Derived.Test.YtloijdbkikccgaaGreatDoorPk12
import Derived.Test.YtloijdbkikccgaaGreatDoorPk13
namespace Go.Proofs.YtloijdbkikccgaaGreatDoor
set_option linter.unusedVariables false
set_option linter.unusedSimpArgs false
namespace PI
def At (B:List Bool) (a:Nat) (w:List Bool):Prop:=a+w.length<=B.length/\(B.drop a).take w.length=w
theorem At.left {B:List Bool} {a:Nat} {u v:List Bool} (h:At B a (u++v)):At B a u:=by
 obtain⟨h1,h2⟩:=h
 rw [List.length_append] at h1 h2
 refine⟨by omega,?_⟩
 have:=congrArg (List.take u.length) h2
 rw [List.take_take,Nat.min_eq_left (by omega),List.take_left] at this
 exact this
theorem At.right {B:List Bool} {a:Nat} {u v:List Bool} (h:At B a (u++v)):At B (a+u.length) v:=by
 obtain⟨h1,h2⟩:=h
 rw [List.length_append] at h1 h2
 refine⟨by omega,?_⟩
 have:=congrArg (List.drop u.length) h2
 rw [List.drop_take,List.drop_drop,List.drop_left,show u.length+v.length - u.length=v.length by omega] at this
 exact this
theorem At.mid (p w r:List Bool):At (p++w++r) p.length w:=by
 refine⟨by simp,?_⟩
 rw [List.append_assoc,List.drop_left,List.take_left]
theorem At.le {B:List Bool} {a:Nat} {w:List Bool} (h:At B a w):a+w.length<=B.length:=h.1
theorem At.drop {B:List Bool} {a:Nat} {w:List Bool} (h:At B a w):B.drop a=w++B.drop (a+w.length):=by
 have:=List.take_append_drop w.length (B.drop a)
 rw [h.2,List.drop_drop] at this
 exact this.symm
theorem number_at {B:List Bool} {a n k:Nat} (h:At B a (PBits.bitsOf n k)) (hn:n<2 ^ k):number B a k=.ok (a+k,n):=by
 obtain⟨h1,h2⟩:=h
 rw [PBits.bitsOf_length] at h1 h2
 unfold number numAt
 rw [if_pos h1,h2,PBits.num_bitsOf,Nat.mod_eq_of_lt hn]
def Has (m:List Nat) (s:Nat):Prop:=s<m.length/\1<=m.getD s 0/\m.getD s 0<=mostN m
def codeW (m:List Nat) (s:Nat):List Bool:=PH.bitsC (m.getD s 0) (PH.codeAt m s)
theorem codeW_len (m:List Nat) (s:Nat):(codeW m s).length=m.getD s 0:=PH.bitsC_len _ _
theorem sign_at {B:List Bool} {m:List Nat} {a s:Nat} (h:At B a (codeW m s)) (hs:Has m s) (hm:PH.sum m<=32768):sign B m a=.ok (a+(codeW m s).length,s):=by
 obtain⟨h1,h2,h3⟩:=hs
 obtain⟨p,hp⟩:∃p,m.getD s 0=p+1:=⟨m.getD s 0 - 1,by omega⟩
 have e:=h.drop
 unfold codeW at e
 rw [hp] at e
 have e2:=PH.next_code m s p (mostN m) (B.drop (a+(PH.bitsC (p+1) (PH.codeAt m s)).length)) h1 hp (by omega) (mostN_le m) hm
 unfold sign
 rw [e,e2,if_pos rfl]
 unfold codeW
 rw [PH.bitsC_len,hp]
def sayW (m:List Nat) (s more bits:Nat):List Bool:=codeW m s++PBits.bitsOf more bits
/-! Tokens. -/
inductive Tok
 | lit (c:UInt8)
 | cpy (n back:Nat)
def findT (t:List (Nat × Nat)) (n:Nat):Nat->Nat
 | 0=>0
 | k+1=>if (t.getD (k+1) (0,0)).1<=n then k+1 else findT t n k
def longS (n:Nat):Nat × Nat × Nat:=if n=258 then (28,0,0) else (findT lengthsT n 27,(lengthsT.getD (findT lengthsT n 27) (0,0)).2,n - (lengthsT.getD (findT lengthsT n 27) (0,0)).1)
def farS (n:Nat):Nat × Nat × Nat:=(findT awayT n 29,(awayT.getD (findT awayT n 29) (0,0)).2,n - (awayT.getD (findT awayT n 29) (0,0)).1)
theorem findT_spec (t:List (Nat × Nat)) (n:Nat):∀k,(t.getD 0 (0,0)).1<=n->findT t n k<=k/\(t.getD (findT t n k) (0,0)).1<=n/\(findT t n k<k->n<(t.getD (findT t n k+1) (0,0)).1):=by
 intro k h0
 induction k with
 | zero=>exact⟨Nat.le_refl _,h0,fun h=>by unfold findT at h; omega⟩
 | succ k ih =>
  unfold findT
  split
  ·rename_i h; exact⟨Nat.le_refl _,h,fun h=>by omega⟩
  ·rename_i h
   obtain⟨h1,h2,h3⟩:=ih
   refine⟨by omega,h2,fun _=>?_⟩
   by_cases e:findT t n k<k
   ·exact h3 e
   ·rw [show findT t n k=k by omega]; omega
def stepsT (t:List (Nat × Nat)):Prop:=∀k,k+1<t.length->(t.getD (k+1) (0,0)).1=(t.getD k (0,0)).1+2 ^ (t.getD k (0,0)).2
theorem lengths_steps:stepsT lengthsT:=by
 intro k hk
 have:∀k,k<27->(lengthsT.getD (k+1) (0,0)).1=(lengthsT.getD k (0,0)).1+2 ^ (lengthsT.getD k (0,0)).2:=by decide +kernel
 exact this k (by simp [lengthsT] at hk; omega)
theorem away_steps:stepsT awayT:=by
 intro k hk
 have:∀k,k<29->(awayT.getD (k+1) (0,0)).1=(awayT.getD k (0,0)).1+2 ^ (awayT.getD k (0,0)).2:=by decide +kernel
 exact this k (by simp [awayT] at hk; omega)
theorem longS_lt (n:Nat) (h1:3<=n) (h2:n<=258):(longS n).1<=28/\(longS n).2.2<2 ^ (longS n).2.1/\(longS n).2.1<=5:=by
 unfold longS
 split
 ·exact⟨Nat.le_refl _,by decide,by decide⟩
 ·rename_i h
  obtain⟨g1,g2,g3⟩:=findT_spec lengthsT n 27 h1
  refine⟨by show findT _ _ _<=28; omega,?_,?_⟩
  ·show n - (lengthsT.getD (findT lengthsT n 27) (0,0)).1<2 ^ (lengthsT.getD (findT lengthsT n 27) (0,0)).2
   by_cases e:findT lengthsT n 27<27
   ·have h5:=lengths_steps (findT lengthsT n 27) (by show _<28; omega)
    have h6:=g3 e
    omega
   ·rw [show findT lengthsT n 27=27 by omega]
    show n - 227<32
    omega
  ·have:∀k,k<28->(lengthsT.getD k (0,0)).2<=5:=by decide +kernel
   exact this _ (by omega)
theorem farS_lt (n:Nat) (h1:1<=n) (h2:n<=32768):(farS n).1<=29/\(farS n).2.2<2 ^ (farS n).2.1/\(farS n).2.1<=13:=by
 unfold farS
 obtain⟨g1,g2,g3⟩:=findT_spec awayT n 29 h1
 refine⟨g1,?_,?_⟩
 ·show n - (awayT.getD (findT awayT n 29) (0,0)).1<2 ^ (awayT.getD (findT awayT n 29) (0,0)).2
  by_cases e:findT awayT n 29<29
  ·have h5:=away_steps (findT awayT n 29) (by show _<30; omega)
   have h6:=g3 e
   omega
  ·rw [show findT awayT n 29=29 by omega]
   show n - 24577<8192
   omega
 ·have:∀k,k<30->(awayT.getD k (0,0)).2<=13:=by decide +kernel
  exact this _ (by omega)
theorem length_at {B:List Bool} {a n:Nat} (h:At B a (PBits.bitsOf (longS n).2.2 (longS n).2.1)) (h1:3<=n) (h2:n<=258):length B (longS n).1 a=.ok (a+(longS n).2.1,n):=by
 have g:=longS_lt n h1 h2
 unfold length
 by_cases e:n=258
 ·subst e; rfl
 ·have e1:(longS n).1=findT lengthsT n 27:=by unfold longS; rw [if_neg e]
  have e2:(longS n).2=((lengthsT.getD (findT lengthsT n 27) (0,0)).2,n - (lengthsT.getD (findT lengthsT n 27) (0,0)).1):=by unfold longS; rw [if_neg e]
  obtain⟨g1,g2,g3⟩:=findT_spec lengthsT n 27 h1
  have h3:=number_at h g.2.1
  rw [if_neg (by rw [e1]; omega),e1]
  unfold count
  rw [e2] at h3 ⊢
  rw [if_pos (by show _<28; omega),h3]
  show Except.ok (_,_)=_
  simp only
  congr 2
  omega
theorem far_at {B:List Bool} {a n:Nat} (h:At B a (PBits.bitsOf (farS n).2.2 (farS n).2.1)) (h1:1<=n) (h2:n<=32768):count B awayT (farS n).1 a=.ok (a+(farS n).2.1,n):=by
 have g:=farS_lt n h1 h2
 obtain⟨g1,g2,g3⟩:=findT_spec awayT n 29 h1
 have h3:=number_at h g.2.1
 unfold count
 rw [if_pos (by show _<30; omega),show(awayT.getD (farS n).1 (0,0)).2=(farS n).2.1 from rfl,h3]
 show Except.ok (_,_)=_
 congr 2
 show(awayT.getD (findT awayT n 29) (0,0)).1+(n - (awayT.getD (findT awayT n 29) (0,0)).1)=n
 omega
def tokW (m d:List Nat):Tok->List Bool
 | .lit c=>codeW m c.toNat
 | .cpy n back=>sayW m (257+(longS n).1) (longS n).2.2 (longS n).2.1++sayW d (farS back).1 (farS back).2.2 (farS back).2.1
def toksW (m d:List Nat) (l:List Tok):List Bool:=l.flatMap (tokW m d)++codeW m 256
def tokO (out:List UInt8):Tok->List UInt8
 | .lit c=>out++[c]
 | .cpy n back=>copy back n out
def toksO (out:List UInt8) (l:List Tok):List UInt8:=l.foldl tokO out
def TokOk (m d:List Nat) (out:List UInt8):Tok->Prop
 | .lit c=>Has m c.toNat
 | .cpy n back=>3<=n/\n<=258/\1<=back/\back<=32768/\back<=out.length/\Has m (257+(longS n).1)/\Has d (farS back).1
def ToksOk (m d:List Nat):List UInt8->List Tok->Prop
 | _,[]=>Has m 256
 | out,t::l=>TokOk m d out t/\ToksOk m d (tokO out t) l
theorem tokO_len (out:List UInt8) (t:Tok):out.length<=(tokO out t).length:=by
 cases t with
 | lit c=>simp [tokO]
 | cpy n b=>simp [tokO,copy_len]
theorem toksO_len (out:List UInt8) (l:List Tok):out.length<=(toksO out l).length:=by
 induction l generalizing out with
 | nil=>exact Nat.le_refl _
 | cons t l ih=>exact Nat.le_trans (tokO_len out t) (ih _)
theorem step_at {B:List Bool} {most a:Nat} {m d:List Nat} {out:List UInt8} {t:Tok} (h:At B a (tokW m d t)) (ht:TokOk m d out t) (hm:PH.sum m<=32768) (hd:PH.sum d<=32768) (ho:(tokO out t).length<=most) :
  stepP B most m d a out=.ok (false,a+(tokW m d t).length,tokO out t):=by
 unfold stepP
 cases t with
 | lit c =>
  have h1:=sign_at h ht hm
  have hc:c.toNat<256:=c.toNat_lt
  rw [h1]
  show(if c.toNat=256 then _ else if c.toNat<256 then _ else _)=_
  have hl:out.length+1<=most:=by simpa [tokO] using ho
  rw [if_neg (by omega),if_pos hc,if_neg (by omega)]
  show Except.ok (false,_,out++[UInt8.ofNat c.toNat])=_
  rw [UInt8.ofNat_toNat]
  rfl
 | cpy n back =>
  obtain⟨t1,t2,t3,t4,t5,t6,t7⟩:=ht
  have hw:tokW m d (.cpy n back)=codeW m (257+(longS n).1)++PBits.bitsOf (longS n).2.2 (longS n).2.1++(codeW d (farS back).1++PBits.bitsOf (farS back).2.2 (farS back).2.1):=rfl
  rw [hw] at h ⊢
  have g1:=sign_at h.left.left t6 hm
  have g2:=length_at h.left.right t1 t2
  have g3:=h.right
  rw [List.length_append,PBits.bitsOf_length,<- Nat.add_assoc] at g3
  have g4:=sign_at g3.left t7 hd
  have g5:=far_at g3.right t3 t4
  rw [g1]
  show(if 257+(longS n).1=256 then _ else if 257+(longS n).1<256 then _ else (length B (257+(longS n).1 - 257) (a+(codeW m (257+(longS n).1)).length)).bind _)=_
  rw [if_neg (by omega),if_neg (by omega),Nat.add_sub_cancel_left,g2]
  show(sign B d (a+(codeW m (257+(longS n).1)).length+(longS n).2.1)).bind _=_
  rw [g4]
  show(count B awayT (farS back).1 (a+(codeW m (257+(longS n).1)).length+(longS n).2.1+(codeW d (farS back).1).length)).bind _=_
  rw [g5]
  have hl:out.length+n<=most:=by rw [show tokO out (.cpy n back)=copy back n out from rfl,copy_len] at ho; exact ho
  show(if out.length<back then _ else if most - out.length<n then _ else Except.ok (false,_,copy back n out))=_
  rw [if_neg (by omega),if_neg (by omega)]
  simp only [List.length_append,PBits.bitsOf_length,tokO]
  congr 3
  omega
theorem pressed_at {B:List Bool} {most:Nat} {m d:List Nat} (hm:PH.sum m<=32768) (hd:PH.sum d<=32768):∀(l:List Tok) (f a:Nat) (out:List UInt8),At B a (toksW m d l)->ToksOk m d out l->(toksO out l).length<=most->l.length<f ->
  pressed B most m d f a out=.ok (a+(toksW m d l).length,toksO out l):=by
 intro l
 induction l with
 | nil =>
  intro f a out h ht ho hf
  cases f with
  | zero=>simp at hf
  | succ f =>
   have h' : At B a (codeW m 256):=by simpa [toksW] using h
   have h1:=sign_at h' ht hm
   rw [pressed]
   unfold stepP
   rw [h1]
   show Except.ok _=_
   simp [toksW,toksO]
 | cons t l ih =>
  intro f a out h ht ho hf
  cases f with
  | zero=>simp at hf
  | succ f =>
   have e:toksW m d (t::l)=tokW m d t++toksW m d l:=by simp [toksW]
   rw [e] at h ⊢
   have ho' : (toksO (tokO out t) l).length<=most:=ho
   have h1:=step_at (most:=most) h.left ht.1 hm hd (Nat.le_trans (toksO_len _ _) ho')
   rw [pressed,h1]
   show pressed B most m d f (a+(tokW m d t).length) (tokO out t)=_
   rw [ih f _ _ h.right ht.2 ho' (by simp at hf; omega),List.length_append,Nat.add_assoc]
   rfl
/-! The lengths, told. -/
def tellB (s:Nat):Nat:=if s=16 then 2 else if s=17 then 3 else if s=18 then 7 else 0
def tellO (acc:List Nat) (t:Nat × Nat):List Nat :=
 if t.1=16 then acc++List.replicate (3+t.2) (acc.getD (acc.length - 1) 0) else if t.1=17 then acc++List.replicate (3+t.2) 0 else if t.1=18 then acc++List.replicate (11+t.2) 0 else acc++List.replicate 1 t.1
def tellsO (acc:List Nat) (l:List (Nat × Nat)):List Nat:=l.foldl tellO acc
def tellW (m:List Nat) (t:Nat × Nat):List Bool:=sayW m t.1 t.2 (tellB t.1)
def tellsW (m:List Nat) (l:List (Nat × Nat)):List Bool:=l.flatMap (tellW m)
def TellsOk (m:List Nat):List Nat->List (Nat × Nat)->Prop
 | _,[]=>True
 | acc,t::l=>(Has m t.1/\t.2<2 ^ tellB t.1/\(t.1=16->acc≠[]))/\TellsOk m (tellO acc t) l
theorem tellO_len (acc:List Nat) (t:Nat × Nat):acc.length<(tellO acc t).length:=by
 unfold tellO
 split
 ·simp; omega
 split
 ·simp; omega
 split
 ·simp; omega
 ·simp
theorem tellsO_len (acc:List Nat) (l:List (Nat × Nat)):acc.length+l.length<=(tellsO acc l).length:=by
 induction l generalizing acc with
 | nil=>exact Nat.le_refl _
 | cons t l ih =>
  have h1:=tellO_len acc t
  have h2:=ih (tellO acc t)
  show _<=(tellsO (tellO acc t) l).length
  simp only [List.length_cons]
  omega
theorem fill_at {many a v k:Nat} {acc:List Nat} (h:acc.length+k<=many):fill many acc v k a=.ok (a,acc++List.replicate k v):=by
 unfold fill
 rw [if_neg (by omega)]
theorem stepL_at {B:List Bool} {m:List Nat} {many a:Nat} {acc:List Nat} {t:Nat × Nat} (h:At B a (tellW m t)) (hm:PH.sum m<=32768) (ht:Has m t.1/\t.2<2 ^ tellB t.1/\(t.1=16->acc≠[])) (hl:(tellO acc t).length<=many) :
  stepL B m many a acc=.ok (a+(tellW m t).length,tellO acc t):=by
 obtain⟨t1,t2,t3⟩:=ht
 have g1:=sign_at h.left t1 hm
 have g2:=number_at h.right t2
 have e:(tellW m t).length=(codeW m t.1).length+tellB t.1:=by unfold tellW sayW; rw [List.length_append,PBits.bitsOf_length]
 rw [e,<- Nat.add_assoc]
 unfold stepL
 rw [g1]
 show(if t.1=16 then _ else if t.1=17 then _ else if t.1=18 then _ else fill many acc t.1 1 (a+(codeW m t.1).length))=_
 unfold tellO at hl ⊢
 unfold tellB at g2 ⊢
 by_cases h16:t.1=16
 ·simp only [if_pos h16] at g2 hl ⊢
  have hne:acc.length≠0:=by simpa using t3 h16
  rw [if_neg hne,g2]
  exact fill_at (by simpa using hl)
 ·simp only [if_neg h16] at g2 hl ⊢
  by_cases h17:t.1=17
  ·simp only [if_pos h17] at g2 hl ⊢
   rw [g2]
   exact fill_at (by simpa using hl)
  ·simp only [if_neg h17] at g2 hl ⊢
   by_cases h18:t.1=18
   ·simp only [if_pos h18] at g2 hl ⊢
    rw [g2]
    exact fill_at (by simpa using hl)
   ·simp only [if_neg h18] at hl ⊢
    exact fill_at (by simpa using hl)
theorem lens_at {B:List Bool} {m:List Nat} {many:Nat} (hm:PH.sum m<=32768):∀(l:List (Nat × Nat)) (f a:Nat) (acc:List Nat),At B a (tellsW m l)->TellsOk m acc l->(tellsO acc l).length=many->l.length<f ->
  lens B m many f a acc=.ok (a+(tellsW m l).length,tellsO acc l):=by
 intro l
 induction l with
 | nil =>
  intro f a acc h ht hl hf
  cases f with
  | zero=>simp at hf
  | succ f =>
   have hl' : acc.length=many:=hl
   rw [lens,if_neg (by omega)]
   rfl
 | cons t l ih =>
  intro f a acc h ht hl hf
  cases f with
  | zero=>simp at hf
  | succ f =>
   have e:tellsW m (t::l)=tellW m t++tellsW m l:=by simp [tellsW]
   have hl' : (tellsO (tellO acc t) l).length=many:=hl
   have h1:=tellO_len acc t
   have h2:=tellsO_len (tellO acc t) l
   rw [e] at h ⊢
   rw [lens,if_pos (by omega),stepL_at h.left hm ht.1 (by omega)]
   show lens B m many f (a+(tellW m t).length) (tellO acc t)=_
   rw [ih f _ _ h.right ht.2 hl' (by simp at hf; omega),List.length_append,Nat.add_assoc]
   rfl
theorem PH.nat_cast (m:List Nat):PH.nat (castI m)=m:=by
 unfold PH.nat castI
 rw [List.map_map]
 exact(List.map_congr_left fun n _=>by simp).trans (List.map_id m)
theorem PH.may_cast {m:List Nat} (h:m.length<=1024) (h15:∀x ∈ m,x<=15):PH.may (castI m)=true:=by
 unfold PH.may castI
 simp only [Bool.and_eq_true,decide_eq_true_eq,Bool.not_eq_true',List.any_eq_false]
 refine⟨by simpa using h,fun x hx=>?_⟩
 obtain⟨n,hn,rfl⟩:=List.mem_map.1 hx
 have:=h15 n hn
 unfold PH.bad
 simp only [decide_eq_true_eq]
 omega
theorem PBits.ofB_append (a b:List UInt8):PBits.ofB (a++b)=PBits.ofB a++PBits.ofB b:=by
 induction a with
 | nil=>rfl
 | cons c a ih=>rw [List.cons_append,PBits.ofB,PBits.ofB,ih,List.append_assoc]
/-! The head of a dynamic block. -/
def firstsW (first:List Nat) (c:List Nat):List Bool:=c.flatMap fun s=>PBits.bitsOf (first.getD s 0) 3
def layF (first:List Nat) (f:List Nat) (c:List Nat):List Nat:=c.foldl (fun f s=>f.set s (first.getD s 0)) f
theorem firsts_at {B:List Bool} (first:List Nat) (h8:∀x ∈ first,x<8):∀(c:List Nat) (a:Nat) (f:List Nat),At B a (firstsW first c)->firsts B c a f=.ok (a+(firstsW first c).length,layF first f c):=by
 intro c
 induction c with
 | nil=>intro a f h; rfl
 | cons s c ih =>
  intro a f h
  have e:firstsW first (s::c)=PBits.bitsOf (first.getD s 0) 3++firstsW first c:=by simp [firstsW]
  rw [e] at h ⊢
  have hv:first.getD s 0<2 ^ 3:=by
   rw [List.getD_eq_getElem?_getD]
   cases hg:first[s]? with
   | none=>simp
   | some x=>exact h8 x (List.mem_of_getElem? hg)
  have h2:=h.right
  rw [PBits.bitsOf_length] at h2
  rw [firsts,number_at h.left hv]
  show firsts B c (a+3) (f.set s (first.getD s 0))=_
  rw [ih _ _ h2,List.length_append,PBits.bitsOf_length,Nat.add_assoc]
  rfl
theorem layF_len (first:List Nat):∀(c f:List Nat),(layF first f c).length=f.length:=by
 intro c
 induction c with
 | nil=>intro f; rfl
 | cons s c ih=>intro f; show(layF first (f.set s _) c).length=_; rw [ih,List.length_set]
theorem layF_get (first:List Nat) (i:Nat):∀(c f:List Nat),i<f.length->(layF first f c).getD i 0=if i ∈ c then first.getD i 0 else f.getD i 0:=by
 intro c
 induction c with
 | nil=>intro f _; simp [layF]
 | cons s c ih =>
  intro f hi
  show(layF first (f.set s _) c).getD i 0=_
  rw [ih _ (by simpa using hi)]
  by_cases h1:i ∈ c
  ·rw [if_pos h1,if_pos (List.mem_cons_of_mem _ h1)]
  ·rw [if_neg h1]
   by_cases h2:i=s
   ·subst h2
    rw [if_pos (List.mem_cons_self ..)]
    simp [List.getD_eq_getElem?_getD,hi]
   ·rw [if_neg (by simp [h1,h2])]
    simp [List.getD_eq_getElem?_getD,List.getElem?_set,Ne.symm h2]
theorem layF_all (first:List Nat) (n:Nat) (hl:first.length=19) (hz:∀i,i<19->i ∉ orderT.take n->first.getD i 0=0):layF first (List.replicate 19 0) (orderT.take n)=first:=by
 apply List.ext_getElem
 ·rw [layF_len,List.length_replicate,hl]
 ·intro i h1 h2
  have h3:i<19:=by omega
  have e:=layF_get first i (orderT.take n) (List.replicate 19 0) (by simpa using h3)
  have e1:(layF first (List.replicate 19 0) (orderT.take n)).getD i 0=(layF first (List.replicate 19 0) (orderT.take n))[i]:=by rw [List.getD_eq_getElem?_getD,List.getElem?_eq_getElem h1]; rfl
  have e2:first.getD i 0=first[i]:=by rw [List.getD_eq_getElem?_getD,List.getElem?_eq_getElem h2]; rfl
  rw [<- e1,<- e2,e]
  split
  ·rfl
  ·rename_i h5
   rw [hz i h3 h5]
   rw [List.getD_eq_getElem?_getD,List.getElem?_replicate,if_pos h3]; rfl
def headW (first:List Nat) (c l d:Nat) (rows:List (Nat × Nat)):List Bool :=
 PBits.bitsOf (l - 257) 5++(PBits.bitsOf (d - 1) 5++(PBits.bitsOf (c - 4) 4++(firstsW first (orderT.take c)++tellsW first rows)))
theorem book_sum {m:List Nat} (h:book m=true):PH.sum m<=32768:=by
 unfold book PH.okB at h
 simp only [Bool.and_eq_true] at h
 rw [PI.PH.nat_cast] at h
 exact PH.mayBook_sum m h.2
set_option maxRecDepth 100000 in
theorem dynamic_at {B:List Bool} {a c l d:Nat} {first L D:List Nat} {rows:List (Nat × Nat)} (h:At B a (headW first c l d rows)) (hl1:257<=l) (hl2:l<=286) (hd1:1<=d) (hd2:d<=30) (hc1:4<=c) (hc2:c<=19)
  (h8:∀x ∈ first,x<8) (hfl:first.length=19) (hz:∀i,i<19->i ∉ orderT.take c->first.getD i 0=0) (hb:book first=true) (ht:TellsOk first [] rows) (hr:tellsO [] rows=L++D) (hL:L.length=l) (hD:D.length=d)
  (h256:L.getD 256 0≠0) (hbL:book L=true) (hbD:book D=true):dynamic B a=.ok (a+(headW first c l d rows).length,L,D):=by
 unfold headW at h ⊢
 have n1:=number_at h.left (show l - 257<2 ^ 5 by omega)
 have h2:=h.right
 rw [PBits.bitsOf_length] at h2
 have n2:=number_at h2.left (show d - 1<2 ^ 5 by omega)
 have h3:=h2.right
 rw [PBits.bitsOf_length] at h3
 have n3:=number_at h3.left (show c - 4<2 ^ 4 by omega)
 have h4:=h3.right
 rw [PBits.bitsOf_length] at h4
 have n4:=firsts_at first h8 _ _ (List.replicate 19 0) h4.left
 rw [layF_all first c hfl hz] at n4
 have hlen:(L++D).length=l+d:=by rw [List.length_append,hL,hD]
 have hrl:=tellsO_len [] rows
 rw [hr,hlen] at hrl
 have n5:=lens_at (book_sum hb) (many:=l+d) rows (l+d+1) _ [] h4.right ht (by rw [hr,hlen]) (by simp at hrl; omega)
 rw [hr] at n5
 unfold dynamic
 rw [n1]
 show(number B (a+5) 5).bind _=_
 rw [n2]
 show(number B (a+5+5) 4).bind _=_
 rw [n3]
 show(if 286<l - 257+257∨30<d - 1+1 then _ else (firsts B (orderT.take (c - 4+4)) (a+5+5+4) (List.replicate 19 0)).bind _)=_
 rw [if_neg (by omega),show c - 4+4=c by omega,n4]
 show(if book first=true then (lens B first (l - 257+257+(d - 1+1)) (l - 257+257+(d - 1+1)+1) (a+5+5+4+(firstsW first (orderT.take c)).length) []).bind _ else _)=_
 rw [if_pos hb,show l - 257+257=l by omega,show d - 1+1=d by omega,n5]
 have e1:(L++D).take l=L:=by rw [<- hL,List.take_left]
 have e2:(L++D).drop l=D:=by rw [<- hL,List.drop_left]
 have e3:(L++D).getD 256 0=L.getD 256 0:=by
  rw [List.getD_eq_getElem?_getD,List.getD_eq_getElem?_getD,List.getElem?_append_left (by omega)]
 show(if (L++D).getD 256 0=0 then _ else if book ((L++D).take l)=true then if book ((L++D).drop l)=true then Except.ok (_,(L++D).take l,(L++D).drop l) else _ else _)=_
 rw [e1,e2,e3,if_neg h256,if_pos hbL,if_pos hbD]
 simp only [List.length_append,PBits.bitsOf_length]
 congr 2
 omega
/-! Blocks. -/
theorem fixed_has (s:Nat) (h:s<288):Has fixedL s:=by
 have:∀s,s<288->(s<fixedL.length/\1<=fixedL.getD s 0/\fixedL.getD s 0<=mostN fixedL):=by decide +kernel
 exact this s h
theorem fixed_hasD (s:Nat) (h:s<32):Has fixedD s:=by
 have:∀s,s<32->(s<fixedD.length/\1<=fixedD.getD s 0/\fixedD.getD s 0<=mostN fixedD):=by decide +kernel
 exact this s h
theorem fixed_sum:PH.sum fixedL<=32768:=by decide +kernel
theorem fixed_sumD:PH.sum fixedD<=32768:=by decide +kernel
theorem fixed_at {B:List Bool} {most a:Nat} {out:List UInt8} {l:List Tok} (h:At B a (toksW fixedL fixedD l)) (ht:ToksOk fixedL fixedD out l) (ho:(toksO out l).length<=most) (hl:l.length<=B.length) :
  body B most 1 a out=.ok (a+(toksW fixedL fixedD l).length,toksO out l):=by
 unfold body
 rw [if_neg (by decide),if_pos rfl]
 exact pressed_at fixed_sum fixed_sumD l _ a out h ht ho (by omega)
theorem dyn_at {B:List Bool} {most a c l d:Nat} {first L D:List Nat} {rows:List (Nat × Nat)} {out:List UInt8} {ts:List Tok} (h:At B a (headW first c l d rows++toksW L D ts)) (hd:dynamic B a=.ok (a+(headW first c l d rows).length,L,D))
  (hL:book L=true) (hD:book D=true) (ht:ToksOk L D out ts) (ho:(toksO out ts).length<=most) (hl:ts.length<=B.length) :
  body B most 2 a out=.ok (a+(headW first c l d rows++toksW L D ts).length,toksO out ts):=by
 unfold body
 rw [if_neg (by decide),if_neg (by decide),if_pos rfl,hd]
 show pressed B most L D (B.length+1) (a+(headW first c l d rows).length) out=_
 rw [pressed_at (book_sum hL) (book_sum hD) ts _ _ out h.right ht ho (by omega),List.length_append,Nat.add_assoc]
theorem bytes_at {B:List Bool} {a:Nat} : ∀(l:List UInt8),At B a (PBits.ofB l)->bytesAt B a l.length=l:=by
 intro l h
 apply List.ext_getElem
 ·rw [bytesAt_len]
 ·intro i h1 h2
  have e:l=l.take i++(l[i]::l.drop (i+1)):=by
   rw [<- List.drop_eq_getElem_cons h2,List.take_append_drop]
  have e1:PBits.ofB l=PBits.ofB (l.take i)++(PBits.bitsOf l[i].toNat 8++PBits.ofB (l.drop (i+1))):=by
   conv=>lhs; rw [e]
   rw [PI.PBits.ofB_append]
   rfl
  rw [e1] at h
  have h3:=h.right.left
  rw [PBits.ofB_length,List.length_take,Nat.min_eq_left (by omega)] at h3
  have h4:=number_at h3 (show l[i].toNat<2 ^ 8 from l[i].toNat_lt)
  have h5:=(number_ok h4).1
  have h6:numAt B (a+8 * i) 8=l[i].toNat:=by
   have:=congrArg Prod.snd h5
   exact this.symm
  have e5:(bytesAt B a l.length)[i]?=some l[i]:=by
   unfold bytesAt
   rw [List.getElem?_map,List.getElem?_range h2,Option.map_some,h6,UInt8.ofNat_toNat]
  rw [List.getElem?_eq_getElem h1] at e5
  exact Option.some.inj e5
def storedW (l:List UInt8):List Bool:=PBits.bitsOf l.length 16++(PBits.bitsOf (65535 - l.length) 16++PBits.ofB l)
theorem stored_at {B:List Bool} {most a:Nat} {out l:List UInt8} (h:At B ((a+7) / 8 * 8) (storedW l)) (hl:l.length<=65535) (ho:(out++l).length<=most) :
  body B most 0 a out=.ok ((a+7) / 8 * 8+(storedW l).length,out++l):=by
 unfold storedW at h ⊢
 have n1:=number_at h.left (show l.length<2 ^ 16 by omega)
 have h2:=h.right
 rw [PBits.bitsOf_length] at h2
 have n2:=number_at h2.left (show 65535 - l.length<2 ^ 16 by omega)
 have h3:=h2.right
 rw [PBits.bitsOf_length] at h3
 have h4:=h3.le
 rw [PBits.ofB_length] at h4
 unfold body
 rw [if_pos rfl]
 unfold stored
 rw [n1]
 show(number B ((a+7) / 8 * 8+16) 16).bind _=_
 rw [n2]
 rw [List.length_append] at ho
 show(if 65535 - l.length≠65535 - l.length then _ else if (B.length - ((a+7) / 8 * 8+16+16)) / 8<l.length then _ else if most - out.length<l.length then _ else Except.ok ((a+7) / 8 * 8+16+16+8 * l.length,out++bytesAt B ((a+7) / 8 * 8+16+16) l.length))=_
 rw [if_neg (by simp),if_neg (by omega),if_neg (by omega),bytes_at l h3]
 simp only [List.length_append,PBits.bitsOf_length,PBits.ofB_length]
 congr 2
 omega
theorem block_at {B:List Bool} {most a kind a' : Nat} {last:Bool} {out out' : List UInt8} (h:At B a ([last]++PBits.bitsOf kind 2)) (hk:kind<4) (hb:body B most kind (a+3) out=.ok (a',out')) :
  block B most a out=.ok (last,kind,a',out'):=by
 have e:([last]:List Bool)=PBits.bitsOf last.toNat 1:=by cases last <;> rfl
 rw [e] at h
 have n1:=number_at h.left (show last.toNat<2 ^ 1 by cases last <;> decide)
 have h2:=h.right
 rw [PBits.bitsOf_length] at h2
 have n2:=number_at h2 (show kind<2 ^ 2 by omega)
 unfold block
 rw [n1]
 show(number B (a+1) 2).bind _=_
 rw [n2]
 show(body B most kind (a+1+2) out).bind _=_
 rw [show a+1+2=a+3 by omega,hb]
 show Except.ok (last.toNat == 1,kind,a',out')=_
 cases last <;> rfl
theorem blocks_at {B:List Bool} {most n:Nat} (A K:Nat->Nat) (O:Nat->List UInt8) (h:∀i,i<n->block B most (A i) (O i)=.ok (decide (i+1=n),K i,A (i+1),O (i+1))) :
  ∀(k i f:Nat) (bl:List Blk),i+k=n->0<k->k<=f->blocks B most f (A i) (O i) bl=.ok (A n,O n,bl++(List.range k).map fun j=>⟨K (i+j),decide (i+j+1=n),(O (i+j)).length,(O (i+j+1)).length⟩):=by
 intro k
 induction k with
 | zero=>intro i f bl h1 h2; omega
 | succ k ih =>
  intro i f bl h1 h2 h3
  cases f with
  | zero=>omega
  | succ f =>
   rw [blocks,h i (by omega)]
   show(if decide (i+1=n)=true then _ else blocks B most f (A (i+1)) (O (i+1)) (bl++[⟨K i,decide (i+1=n),(O i).length,(O (i+1)).length⟩]))=_
   rw [List.range_succ_eq_map,List.map_cons,List.map_map]
   by_cases e:i+1=n
   ·rw [if_pos (by simpa using e)]
    obtain rfl:k=0:=by omega
    subst e
    simp
   ·rw [if_neg (by simpa using e),ih (i+1) f _ (by omega) (by omega) (by omega)]
    congr 3
    rw [List.append_assoc,List.singleton_append]
    congr 2
    refine List.map_congr_left fun j _=>?_
    show _=Blk.mk (K (i+(j+1))) _ _ _
    rw [show i+1+j=i+(j+1) by omega]
end PI
namespace PI
def cnts (n:Nat) (l:List Nat):List Nat:=(List.range n).map fun i=>l.count i
theorem cnts_len (n:Nat) (l:List Nat):(cnts n l).length=n:=by simp [cnts]
theorem cnts_get (n i:Nat) (l:List Nat) (h:i<n):(cnts n l).getD i 0=l.count i:=by simp [cnts,List.getD_eq_getElem?_getD,h]
theorem items_le (cs:List Nat):(PL.items cs).length<=cs.length:=PL.itemsTo_len cs cs.length
theorem lens_fits (n m:Nat) (l:List Nat) (h1:1<=m) (h15:m<=15) (hn:n<=2 ^ m) (hn2:n<=1024) :
  book (PL.lens (cnts n l) m)=true/\(PL.lens (cnts n l) m).length=n/\(∀x ∈ PL.lens (cnts n l) m,x<=m)/\(∀s ∈ l,s<n->Has (PL.lens (cnts n l) m) s)/\∀s,s ∉ l->(PL.lens (cnts n l) m).getD s 0=0:=by
 have hk:(PL.items (cnts n l)).length<=2 ^ m:=Nat.le_trans (items_le _) (by rw [cnts_len]; exact hn)
 obtain⟨b1,b2,mo,b3,b4,b5,b6⟩:=PL.lens_book (cnts n l) m h1 h15 hk
 have hlen:(PL.lens (cnts n l) m).length=n:=by rw [PL.lens_len,cnts_len]
 have hmem:∀x ∈ PL.lens (cnts n l) m,x<=m:=fun x hx=>by
  obtain⟨i,hi,rfl⟩:=List.getElem_of_mem hx
  have:=(PL.lens_in (cnts n l) m i h1 hk (by rw [cnts_len,<- hlen]; exact hi)).2.2
  rwa [List.getD_eq_getElem?_getD,List.getElem?_eq_getElem hi] at this
 refine⟨?_,hlen,hmem,fun s hs hsn=>?_,fun s hs=>?_⟩
 ·unfold book PH.okB
  rw [PI.PH.nat_cast,b1,Bool.and_true]
  exact PI.PH.may_cast (by rw [hlen]; exact hn2) (fun x hx=>Nat.le_trans (hmem x hx) h15)
 ·have h2:=PL.lens_in (cnts n l) m s h1 hk (by rw [cnts_len]; exact hsn)
  rw [cnts_get n s l hsn] at h2
  have h3:=b6 s (by rw [cnts_len]; exact hsn)
  have h4:=mostN_of (PL.lens (cnts n l) m)
  refine⟨by rw [hlen]; exact hsn,h2.1 (List.count_pos_iff.2 hs),?_⟩
  rw [b3] at h4
  omega
 ·by_cases hsn:s<n
  ·have h2:=PL.lens_in (cnts n l) m s h1 hk (by rw [cnts_len]; exact hsn)
   rw [cnts_get n s l hsn] at h2
   exact h2.2.1 (List.count_eq_zero.2 hs)
  ·rw [List.getD_eq_getElem?_getD,List.getElem?_eq_none (by omega)]; rfl
def symsOf:List Tok->List Nat
 | []=>[256]
 | .lit c::l=>c.toNat::symsOf l
 | .cpy n _::l=>(257+(longS n).1)::symsOf l
def farsOf:List Tok->List Nat
 | []=>[]
 | .lit _::l=>farsOf l
 | .cpy _ b::l=>(farS b).1::farsOf l
def Good:List UInt8->List Tok->Prop
 | _,[]=>True
 | out,.lit c::l=>Good (out++[c]) l
 | out,.cpy n b::l=>(3<=n/\n<=258/\1<=b/\b<=32768/\b<=out.length)/\Good (copy b n out) l
theorem Good.has {m d:List Nat} : ∀(l:List Tok) (out:List UInt8),Good out l->(∀s ∈ symsOf l,s<286->Has m s)->(∀s ∈ farsOf l,s<30->Has d s)->ToksOk m d out l:=by
 intro l
 induction l with
 | nil=>intro out h hm hd; exact hm 256 (by simp [symsOf]) (by decide)
 | cons t l ih =>
  intro out h hm hd
  cases t with
  | lit c =>
   have hc:=c.toNat_lt
   exact⟨hm c.toNat (by simp [symsOf]) (by omega),ih _ h (fun s hs=>hm s (by simp [symsOf,hs])) (fun s hs=>hd s (by simpa [farsOf] using hs))⟩
  | cpy n b =>
   obtain⟨⟨h1,h2,h3,h4,h5⟩,h6⟩:=h
   have g1:=longS_lt n h1 h2
   have g2:=farS_lt b h3 h4
   exact⟨⟨h1,h2,h3,h4,h5,hm _ (by simp [symsOf]) (by omega),hd _ (by simp [farsOf]) (by omega)⟩,ih _ h6 (fun s hs=>hm s (by simp [symsOf,hs])) (fun s hs=>hd s (by simp [farsOf,hs]))⟩
theorem syms_end (l:List Tok):256 ∈ symsOf l:=by
 induction l with
 | nil=>simp [symsOf]
 | cons t l ih=>cases t <;> simp [symsOf,ih]
/-! A row of lengths, told as the law tells it. -/
def runL (x:Nat):List Nat->Nat
 | []=>0
 | y::l=>if y=x then runL x l+1 else 0
theorem runL_le (x:Nat) (l:List Nat):runL x l<=l.length:=by
 induction l with
 | nil=>exact Nat.le_refl _
 | cons y l ih=>unfold runL; split <;> simp <;> omega
theorem runL_take (x:Nat):∀(l:List Nat) (k:Nat),k<=runL x l->l.take k=List.replicate k x:=by
 intro l
 induction l with
 | nil =>
  intro k h
  obtain rfl:k=0:=by simpa [runL] using h
  rfl
 | cons y l ih =>
  intro k h
  cases k with
  | zero=>rfl
  | succ k =>
   unfold runL at h
   split at h
   ·rename_i e
    rw [List.take_succ_cons,ih k (by omega),e]; rfl
   ·omega
theorem tellB_small (x:Nat) (h:x<=15):tellB x=0:=by
 unfold tellB
 rw [if_neg (by omega),if_neg (by omega),if_neg (by omega)]
theorem tellO_lit (acc:List Nat) (x y:Nat) (h:x<=15):tellO acc (x,y)=acc++[x]:=by
 unfold tellO
 simp only
 rw [if_neg (by omega),if_neg (by omega),if_neg (by omega)]
 rfl
/-! Parts. -/
structure WPart where
 kind:Nat
 bytes:List UInt8
 copies:List (Nat × Nat)
def cps:List (Nat × Nat)->List UInt8->List Tok
 | [],_=>[]
 | c::r,out=>if out.length=0 then [] else .cpy (3+c.1 % 256) (1+c.2 % min out.length 32768)::cps r (copy (1+c.2 % min out.length 32768) (3+c.1 % 256) out)
def lits (l:List UInt8):List Tok:=l.map Tok.lit
def toks (x:WPart) (out:List UInt8):List Tok:=lits (x.bytes.take 80)++cps (x.copies.take 6) (out++x.bytes.take 80)
def lensA (ts:List Tok):List Nat:=PL.lens (cnts 286 (symsOf ts)) 15
def lensB (ts:List Tok):List Nat:=PL.lens (cnts 30 (farsOf ts)) 15
def firstOf (rows:List (Nat × Nat)):List Nat:=PL.lens (cnts 19 (rows.map Prod.fst)) 7
def packB (l:List Bool):List UInt8:=PBits.bytesOf (PBits.num l) ((l.length+7) / 8)
theorem tok_one {m d:List Nat} {out:List UInt8} {t:Tok} (h:TokOk m d out t):1<=(tokW m d t).length:=by
 cases t with
 | lit c =>
  have h' : Has m c.toNat:=h
  show 1<=(codeW m c.toNat).length
  rw [codeW_len]
  exact h'.2.1
 | cpy n b =>
  obtain⟨_,_,_,_,_,h6,_⟩:=h
  show 1<=(sayW m _ _ _++sayW d _ _ _).length
  unfold sayW
  rw [List.length_append,List.length_append,codeW_len]
  have:=h6.2.1
  omega
theorem toks_len {m d:List Nat} : ∀(ts:List Tok) (out:List UInt8),ToksOk m d out ts->ts.length<=(toksW m d ts).length:=by
 intro ts
 induction ts with
 | nil=>intro out _; exact Nat.zero_le _
 | cons t l ih =>
  intro out h
  have h1:=tok_one h.1
  have h2:=ih _ h.2
  have e:toksW m d (t::l)=tokW m d t++toksW m d l:=by simp [toksW]
  rw [e,List.length_append,List.length_cons]
  omega
theorem ofB_pack (l:List Bool):PBits.ofB (packB l)=l++List.replicate ((l.length+7) / 8 * 8 - l.length) false:=by
 apply PBits.num_inj
 ·rw [PBits.ofB_length,List.length_append,List.length_replicate]
  unfold packB
  rw [PBits.bytesOf_length]
  omega
 ·rw [PBits.num_ofB,PBits.num_append,PBits.num_false]
  unfold packB
  rw [PBits.le_bytesOf,Nat.mul_zero,Nat.add_zero]
  refine Nat.mod_eq_of_lt (Nat.lt_of_lt_of_le (PBits.num_lt l) ?_)
  rw [show(256:Nat)=2 ^ 8 by decide,<- Nat.pow_mul]
  exact Nat.pow_le_pow_right (by decide) (by omega)
theorem packB_len (l:List Bool):(packB l).length=(l.length+7) / 8:=PBits.bytesOf_length _ _
end PI
open Go.RowKit Go.MapKept
abbrev Three:=UInt8 × UInt8 × UInt8
def key3 (k:Three):Value:=.agg #[.int .u8 (k.1.toNat:Int),.int .u8 (k.2.1.toNat:Int),.int .u8 (k.2.2.toNat:Int)]
theorem keyed3:Maps.Keyed Tryz.prog 216 :=
 Maps.Keyed.of_law (deep_law_laid (m:=2) (by kernel_rfl) (by decide) (by decide +kernel) (by kernel_rfl) (by kernel_rfl))
theorem wf8 (a:UInt8):(Lit.int .u8 (a.toNat:Int)).wf=true:=by
 have:=a.toNat_lt
 have h1:IntKind.u8.min=0:=rfl
 have h2:IntKind.u8.max=255:=rfl
 simp only [Lit.wf,h1,h2,Bool.and_eq_true,decide_eq_true_eq]
 omega
theorem key3_of (k:Three):∃l,keyOf Tryz.prog 216 (key3 k)=some l:=by
 have h1:Tryz.prog.underlying 216=some (.array 3 5):=by kernel_rfl
 have h2:Tryz.prog.keyType 216=true:=by kernel_rfl
 have h4:Tryz.prog.underlying 5=some (.int .u8):=by kernel_rfl
 have h5:Tryz.prog.cellsOf 216=3:=by kernel_rfl
 have h6:Tryz.prog.cellsOf 5=1:=by kernel_rfl
 have h3:(key3 k).formed Tryz.prog 216=true:=by
  simp [key3,Value.formed,h1,h5]
 obtain⟨n,hn⟩:∃n,Tryz.prog.types.size=n+1:=⟨Tryz.prog.types.size - 1,by
  have:0<Tryz.prog.types.size:=by decide +kernel
  omega⟩
 unfold keyOf
 rw [h1]
 simp only [h2,h3,Bool.and_self,if_true,hn]
 have h7:Tryz.prog.keyLits (n+1+1) 216 (key3 k).cells.toList=some [.int .u8 (k.1.toNat:Int),.int .u8 (k.2.1.toNat:Int),.int .u8 (k.2.2.toNat:Int)]:=by
  simp [Program.keyLits,h1,h4,h5,h6,key3,Value.cells,List.range_succ,wf8]
 rw [h7]
 exact⟨_,rfl⟩
structure MapOk (es:Array MapEntry) (clock:Nat):Prop where
 st:Stamped es clock
 ks:∀e ∈ es.toList,∃k,e.key=key3 k
theorem MapOk.empty:MapOk #[] 0:=⟨stamped_empty 0,by simp⟩
theorem MapOk.push {es:Array MapEntry} {clock:Nat} (h:MapOk es clock) {k:Three} (v:Value) (hk:∀e ∈ es.toList,e.key≠key3 k):MapOk (es.push ⟨key3 k,v,clock⟩) (clock+1) :=
 ⟨stamped_push h.st hk,fun e he=>by
  simp only [Array.toList_push,List.mem_append,List.mem_singleton] at he
  rcases he with he | rfl
  ·exact h.ks e he
  ·exact⟨k,rfl⟩⟩
theorem MapOk.modify {es:Array MapEntry} {clock:Nat} (h:MapOk es clock) (j:Nat) (v:Value):MapOk (es.modify j fun e=>{ e with val:=v }) clock :=
 ⟨stamped_modify h.st _ _ (fun _ _=>rfl) (fun _ _ _=>rfl),fun e he=>by
  obtain⟨i,hi,rfl⟩:=List.getElem_of_mem he
  have hi2:i<es.toList.length:=by simpa using hi
  obtain⟨k,hk⟩:=h.ks es.toList[i] (List.getElem_mem hi2)
  refine⟨k,?_⟩
  rw [<- hk]
  simp only [Array.toList_modify]
  rw [List.getElem_modify]
  split <;> rfl⟩
section
variable {w:World} {b:Nat} {es:Array MapEntry} {clock:Nat} {k:Three}
theorem MapOk.find (h:MapOk es clock) (w:World) (k:Three) :
  ((Instr.findKey 216 (key3 k) es.toList).run Tryz.prog w=.ok none w/\∀e ∈ es.toList,e.key≠key3 k) ∨
   ∃j e,(Instr.findKey 216 (key3 k) es.toList).run Tryz.prog w=.ok (some (j,e.val)) w/\es.toList[j]?=some e/\e.key=key3 k:=by
 obtain⟨l,hl⟩:=key3_of k
 exact keyed3.find w hl es.toList fun e he=>by
  obtain⟨k',hk'⟩:=h.ks e he
  rw [hk']
  exact key3_of k'
theorem MapOk.find_none (h:MapOk es clock) (w:World) (hk:∀e ∈ es.toList,e.key≠key3 k):(Instr.findKey 216 (key3 k) es.toList).run Tryz.prog w=.ok none w:=by
 rcases h.find w k with ⟨h1,_⟩ | ⟨j,e,_,h2,h3⟩
 ·exact h1
 ·exact absurd h3 (hk e (List.mem_of_getElem? h2))
theorem MapOk.find_some (h:MapOk es clock) (w:World) {j:Nat} {e:MapEntry} (hj:es.toList[j]?=some e) (hk:e.key=key3 k):(Instr.findKey 216 (key3 k) es.toList).run Tryz.prog w=.ok (some (j,e.val)) w:=by
 rcases h.find w k with ⟨_,h1⟩ | ⟨i,e',h1,h2,h3⟩
 ·exact absurd hk (h1 e (List.mem_of_getElem? hj))
 ·have hn:=((stamped_iff es clock).1 h.st).2.2
  have hij:i=j:=by
   obtain⟨hi,he⟩:=List.getElem?_eq_some_iff.1 h2
   obtain⟨hj',he2⟩:=List.getElem?_eq_some_iff.1 hj
   rcases Nat.lt_trichotomy i j with hlt | hlt | hlt
   ·exact absurd (by rw [he,he2,h3,hk]) (List.pairwise_iff_getElem.1 hn i j hi hj' hlt)
   ·exact hlt
   ·exact absurd (by rw [he,he2,h3,hk]) (List.pairwise_iff_getElem.1 hn j i hj' hi hlt)
  subst hij
  rw [hj] at h2
  cases h2
  exact h1
theorem map_ty:Tryz.prog.underlying 211=some (.map 216 147):=by kernel_rfl
theorem entry_new (h:MapOk es clock) (hb:w.heap[b]?=some (.map es clock)) (hk:∀e ∈ es.toList,e.key≠key3 k) :
  (Instr.mapEntry 211 (.map (some b)) (key3 k)).run Tryz.prog w=.ok (.tuple #[.slice none 0 0,.int .i64 (clock:Int)]) { w with heap:=w.heap.setIfInBounds b (.map (es.push ⟨key3 k,.slice none 0 0,clock⟩) (clock+1)) }:=by
 obtain⟨l,hl⟩:=key3_of k
 simp [Instr.mapEntry,run_underlying map_ty,MapKept.run_getObj_map hb,keyed3.check w false hl,h.find_none w hk,MapKept.run_setObj_map _ hb,Result.andThen,goInt]
theorem store_new (h:MapOk es clock) (v:Value) (hb:w.heap[b]?=some (.map (es.push ⟨key3 k,.slice none 0 0,clock⟩) (clock+1))) (hk:∀e ∈ es.toList,e.key≠key3 k) :
  (Instr.entryStore 211 (.map (some b)) (.int .i64 (clock:Int)) v).run Tryz.prog w=.ok () { w with heap:=w.heap.setIfInBounds b (.map (es.push ⟨key3 k,v,clock⟩) (clock+1)) }:=by
 have hs:=(h.push (.slice none 0 0) hk).st
 have hidx:(es.push ⟨key3 k,.slice none 0 0,clock⟩).findIdx? (fun e=>((e.born:Nat):Int) == ((clock:Nat):Int))=some es.size:=by
  rw [WideElems.findIdx_arr]
  exact WideElems.findIdx_born (l:=(es.push ⟨key3 k,.slice none 0 0,clock⟩).toList) (j:=es.size) (e0:=⟨key3 k,.slice none 0 0,clock⟩) hs.2.1 (by simp)
 have hmod:(es.push ⟨key3 k,.slice none 0 0,clock⟩).modify es.size (fun e=>{ e with val:=v })=es.push ⟨key3 k,v,clock⟩:=by
  apply Array.ext'
  rw [Array.toList_modify,Array.toList_push,Array.toList_push,<- Array.length_toList,WideElems.modify_last]
 simp [Instr.entryStore,MapKept.run_getObj_map hb,asInt,asIntOf,hidx,hmod,MapKept.run_setObj_map _ hb,Result.andThen]
theorem entry_old (h:MapOk es clock) (hb:w.heap[b]?=some (.map es clock)) {j:Nat} {e:MapEntry} (hj:es.toList[j]?=some e) (hk:e.key=key3 k) :
  (Instr.mapEntry 211 (.map (some b)) (key3 k)).run Tryz.prog w=.ok (.tuple #[e.val,.int .i64 (e.born:Int)]) { w with heap:=w.heap.setIfInBounds b (.map es clock) }:=by
 obtain⟨l,hl⟩:=key3_of k
 have hj2:es[j]?=some e:=by simpa using hj
 have hsame:es.modify j (fun e=>{ e with key:=key3 k })=es:=by
  apply Array.ext'
  rw [Array.toList_modify,ChangeMaps.modify_eq_set _ _ _ _ hj]
  have:({ e with key:=key3 k } : MapEntry)=e:=by rw [<- hk]
  rw [this]
  exact WideElems.set_self _ _ _ hj
 simp [Instr.mapEntry,run_underlying map_ty,MapKept.run_getObj_map hb,keyed3.check w false hl,h.find_some w hj hk,hj2,hk,keyed3.stays w hl,hsame,MapKept.run_setObj_map _ hb,Result.andThen,goInt]
theorem store_old (h:MapOk es clock) (v:Value) (hb:w.heap[b]?=some (.map es clock)) {j:Nat} {e:MapEntry} (hj:es.toList[j]?=some e) :
  (Instr.entryStore 211 (.map (some b)) (.int .i64 (e.born:Int)) v).run Tryz.prog w=.ok () { w with heap:=w.heap.setIfInBounds b (.map (es.modify j fun e=>{ e with val:=v }) clock) }:=by
 have hidx:es.findIdx? (fun x=>((x.born:Nat):Int) == ((e.born:Nat):Int))=some j:=by
  rw [WideElems.findIdx_arr]
  exact WideElems.findIdx_born h.st.2.1 hj
 simp [Instr.entryStore,MapKept.run_getObj_map hb,asInt,asIntOf,hidx,MapKept.run_setObj_map _ hb,Result.andThen]
theorem look_new (h:MapOk es clock) (hb:w.heap[b]?=some (.map es clock)) (hk:∀e ∈ es.toList,e.key≠key3 k) :
  (Instr.lookup 211 (.map (some b)) (key3 k) false).run Tryz.prog w=.ok (.slice none 0 0) w:=by
 obtain⟨l,hl⟩:=key3_of k
 simp [Instr.lookup,run_underlying map_ty,MapKept.run_getObj_map hb,keyed3.check w _ hl,h.find_none w hk,Result.andThen]
theorem look_old (h:MapOk es clock) (hb:w.heap[b]?=some (.map es clock)) {j:Nat} {e:MapEntry} (hj:es.toList[j]?=some e) (hk:e.key=key3 k) :
  (Instr.lookup 211 (.map (some b)) (key3 k) false).run Tryz.prog w=.ok e.val w:=by
 obtain⟨l,hl⟩:=key3_of k
 simp [Instr.lookup,run_underlying map_ty,MapKept.run_getObj_map hb,keyed3.check w _ hl,h.find_some w hj hk,Result.andThen]
end
namespace PM
def at3 (B:List UInt8) (i:Nat):Three:=(B.getD i 0,B.getD (i+1) 0,B.getD (i+2) 0)
def places (B:List UInt8) (n:Nat) (k:Three):List Nat:=(List.range n).filter (fun i=>at3 B i == k)
theorem places_succ (B:List UInt8) (n:Nat) (k:Three):places B (n+1) k=if at3 B n=k then places B n k++[n] else places B n k:=by
 unfold places
 rw [List.range_succ,List.filter_append]
 by_cases h:at3 B n=k
 ·rw [if_pos h]; simp [h]
 ·rw [if_neg h]; simp [h]
theorem places_lt {B:List UInt8} {n:Nat} {k:Three} {i:Nat} (h:i ∈ places B n k):i<n:=by
 have:=(List.mem_filter.1 h).1
 simpa using this
theorem places_none {B:List UInt8} {n:Nat} {k:Three} (h:∀i,i<n->at3 B i≠k):places B n k=[]:=by
 unfold places
 rw [List.filter_eq_nil_iff]
 intro i hi
 have:=h i (by simpa using hi)
 simpa using this
theorem places_len (B:List UInt8) (n:Nat) (k:Three):(places B n k).length<=n:=by
 have:=List.length_filter_le (fun i=>at3 B i == k) (List.range n)
 rwa [List.length_range] at this
def mlenN (B:List UInt8) (p q:Nat):Nat->Nat
 | 0=>0
 | m+1=>if q<B.length/\B.getD p 0=B.getD q 0 then mlenN B (p+1) (q+1) m+1 else 0
def mlen (B:List UInt8) (p q:Nat):Nat:=mlenN B p q 258
theorem mlenN_le (B:List UInt8) (p q m:Nat):mlenN B p q m<=m:=by
 induction m generalizing p q with
 | zero=>exact Nat.le_refl _
 | succ m ih =>
  unfold mlenN
  split
  ·have:=ih (p+1) (q+1); omega
  ·omega
theorem mlenN_in (B:List UInt8) (p q m:Nat) (h:q<=B.length):q+mlenN B p q m<=B.length:=by
 induction m generalizing p q with
 | zero=>exact h
 | succ m ih =>
  unfold mlenN
  split
  ·rename_i h2
   have:=ih (p+1) (q+1) h2.1; omega
  ·omega
theorem mlenN_same (B:List UInt8) (p q m i:Nat) (h:i<mlenN B p q m):B.getD (p+i) 0=B.getD (q+i) 0:=by
 induction m generalizing p q i with
 | zero=>exact absurd h (Nat.not_lt_zero _)
 | succ m ih =>
  unfold mlenN at h
  split at h
  ·rename_i h2
   cases i with
   | zero=>exact h2.2
   | succ i =>
    have:=ih (p+1) (q+1) i (by omega)
    rwa [show p+(i+1)=p+1+i by omega,show q+(i+1)=q+1+i by omega]
  ·omega
theorem mlenN_stop (B:List UInt8) (p q m:Nat) (h:mlenN B p q m<m):¬ (q+mlenN B p q m<B.length/\B.getD (p+mlenN B p q m) 0=B.getD (q+mlenN B p q m) 0):=by
 induction m generalizing p q with
 | zero=>exact absurd h (Nat.not_lt_zero _)
 | succ m ih =>
  unfold mlenN at h ⊢
  split
  ·rename_i h2
   rw [if_pos h2] at h
   have:=ih (p+1) (q+1) (by omega)
   rwa [show p+(mlenN B (p+1) (q+1) m+1)=p+1+mlenN B (p+1) (q+1) m by omega,show q+(mlenN B (p+1) (q+1) m+1)=q+1+mlenN B (p+1) (q+1) m by omega]
  ·rename_i h2
   simpa using h2
theorem mlen_of (B:List UInt8) (p q n:Nat) (hn:n<=258) (hs:∀i,i<n->q+i<B.length/\B.getD (p+i) 0=B.getD (q+i) 0) (he:n=258∨¬ (q+n<B.length/\B.getD (p+n) 0=B.getD (q+n) 0)):mlen B p q=n:=by
 have h1:=mlenN_le B p q 258
 rcases Nat.lt_trichotomy (mlen B p q) n with h | h | h
 ·exact absurd (hs _ h) (mlenN_stop B p q 258 (by unfold mlen at h; omega))
 ·exact h
 ·rcases he with he | he
  ·unfold mlen at h; omega
  ·refine absurd ⟨?_,mlenN_same B p q 258 n h⟩ he
   have h3:q<B.length:=by
    rcases Nat.lt_or_ge q B.length with h4 | h4
    ·exact h4
    ·unfold mlen mlenN at h
     rw [if_neg (by omega)] at h
     omega
   have:=mlenN_in B p q 258 (by omega)
   unfold mlen at h
   omega
end PM
namespace PM
def go (B:List UInt8) (q:Nat):List Nat->Nat->Nat × Nat->Nat × Nat
 | [],_,b=>b
 | p::ps,d,b=>if d=0 then b else if 32768<q - p then b else go B q ps (d - 1) (if b.1<mlen B p q then (mlen B p q,q - p) else b)
theorem go_zero (B:List UInt8) (q:Nat) (ps:List Nat) (b:Nat × Nat):go B q ps 0 b=b:=by cases ps <;> rfl
def best (B:List UInt8) (q d:Nat):Nat × Nat:=if q+3<=B.length then go B q (places B q (at3 B q)).reverse d (0,0) else (0,0)
theorem places_mem {B:List UInt8} {n:Nat} {k:Three} {i:Nat} : i ∈ places B n k↔i<n/\at3 B i=k:=by
 unfold places
 rw [List.mem_filter,List.mem_range,beq_iff_eq]
theorem mlen_three {B:List UInt8} {p q:Nat} (h:q+3<=B.length):3<=mlen B p q↔at3 B p=at3 B q:=by
 have e:at3 B p=at3 B q↔B.getD p 0=B.getD q 0/\B.getD (p+1) 0=B.getD (q+1) 0/\B.getD (p+2) 0=B.getD (q+2) 0:=by
  simp [at3]
 rw [e]
 constructor
 ·intro k
  have:=fun i hi=>mlenN_same B p q 258 i (Nat.lt_of_lt_of_le hi k)
  exact⟨this 0 (by omega),this 1 (by omega),this 2 (by omega)⟩
 ·rintro⟨h0,h1,h2⟩
  rcases Nat.lt_or_ge (mlen B p q) 3 with k | k
  ·exfalso
   have hs:=mlenN_stop B p q 258 (by unfold mlen at k; omega)
   unfold mlen at k
   generalize mlenN B p q 258=m at k hs
   refine hs ⟨by omega,?_⟩
   match m,k with
   | 0,_=>exact h0
   | 1,_=>exact h1
   | 2,_=>exact h2
  ·exact k
theorem mlen_in {B:List UInt8} {p q:Nat} (h:q<=B.length):q+mlen B p q<=B.length:=mlenN_in B p q 258 h
theorem mlen_le (B:List UInt8) (p q:Nat):mlen B p q<=258:=mlenN_le B p q 258
theorem mlen_same {B:List UInt8} {p q i:Nat} (h:i<mlen B p q):B.getD (p+i) 0=B.getD (q+i) 0:=mlenN_same B p q 258 i h
theorem go_is {B:List UInt8} {q:Nat} (P:Nat × Nat->Prop) (ps:List Nat) (d:Nat) (b:Nat × Nat) (hb:P b) (hp:∀p ∈ ps,q - p<=32768->P (mlen B p q,q - p)):P (go B q ps d b):=by
 induction ps generalizing d b with
 | nil=>exact hb
 | cons p ps ih =>
  unfold go
  split
  ·exact hb
  ·split
   ·exact hb
   ·refine ih _ _ ?_ fun p' h'=>hp p' (List.mem_cons_of_mem _ h')
    split
    ·exact hp p (List.mem_cons_self ..) (by omega)
    ·exact hb
theorem best_is (B:List UInt8) (q d:Nat):best B q d=(0,0)∨∃far,1<=far/\far<=32768/\far<=q/\q+3<=B.length/\best B q d=(mlen B (q - far) q,far)/\3<=mlen B (q - far) q:=by
 unfold best
 split
 ·rename_i h
  refine go_is (fun b=>b=(0,0)∨∃far,1<=far/\far<=32768/\far<=q/\q+3<=B.length/\b=(mlen B (q - far) q,far)/\3<=mlen B (q - far) q) _ d _ (.inl rfl) fun p hp hf=>.inr ?_
  rw [List.mem_reverse,places_mem] at hp
  refine⟨q - p,by omega,hf,by omega,h,?_,?_⟩
  ·rw [show q - (q - p)=p by omega]
  ·rw [show q - (q - p)=p by omega,mlen_three h]; exact hp.2
 ·exact .inl rfl
abbrev St:=Nat × Nat × UInt8
def cut (B:List UInt8) (d:Nat):Nat->Nat->List St
 | 0,_=>[]
 | f+1,q =>
  if q<B.length then
   if (best B q d).1=0∨(best B q d).1<(best B (q+1) d).1 then (0,0,B.getD q 0)::cut B d f (q+1)
   else ((best B q d).1,(best B q d).2,0)::cut B d f (q+(best B q d).1)
  else []
def Cut (B:List UInt8) (d:Nat):List St:=cut B d B.length 0
theorem cut_end (B:List UInt8) (d f q:Nat) (h:B.length<=q):cut B d f q=[]:=by
 cases f with
 | zero=>rfl
 | succ f=>unfold cut; rw [if_neg (by omega)]
theorem cut_fuel (B:List UInt8) (d f q:Nat) (h:B.length<=q+f):cut B d (f+1) q=cut B d f q:=by
 induction f generalizing q with
 | zero=>exact(cut_end B d _ q (by omega)).trans (cut_end B d _ q (by omega)).symm
 | succ f ih =>
  rw [cut.eq_2 B d q (f+1),cut.eq_2 B d q f]
  split
  ·split
   ·rw [ih (q+1) (by omega)]
   ·rw [ih _ (by omega)]
  ·rfl
def cutAt (B:List UInt8) (d q:Nat):List St:=cut B d (B.length - q) q
theorem cut_more (B:List UInt8) (d f q:Nat) (h:B.length<=q+f):cut B d f q=cutAt B d q:=by
 unfold cutAt
 obtain⟨m,rfl⟩:∃m,f=(B.length - q)+m:=⟨f - (B.length - q),by omega⟩
 clear h
 induction m with
 | zero=>rfl
 | succ m ih=>rw [show B.length - q+(m+1)=(B.length - q+m)+1 by omega,cut_fuel B d _ q (by omega),ih]
theorem cutAt_end (B:List UInt8) (d q:Nat) (h:B.length<=q):cutAt B d q=[]:=cut_end B d _ q h
theorem cutAt_lit (B:List UInt8) (d q:Nat) (h:q<B.length) (k:(best B q d).1=0∨(best B q d).1<(best B (q+1) d).1):cutAt B d q=(0,0,B.getD q 0)::cutAt B d (q+1):=by
 rw [<- cut_more B d (B.length - q - 1+1) q (by omega),cut.eq_2,if_pos h,if_pos k,cut_more _ _ _ _ (by omega)]
theorem cutAt_copy (B:List UInt8) (d q:Nat) (h:q<B.length) (k:¬ ((best B q d).1=0∨(best B q d).1<(best B (q+1) d).1)):cutAt B d q=((best B q d).1,(best B q d).2,0)::cutAt B d (q+(best B q d).1):=by
 rw [<- cut_more B d (B.length - q - 1+1) q (by omega),cut.eq_2,if_pos h,if_neg k,cut_more _ _ _ _ (by omega)]
theorem Cut_at (B:List UInt8) (d:Nat):Cut B d=cutAt B d 0:=rfl
def made (s:St):Nat:=max s.1 1
def fits (s:St) (n:Nat):Prop:=(s.1=0/\s.2.1=0)∨(3<=s.1/\s.1<=258/\1<=s.2.1/\s.2.1<=32768/\s.2.1<=n/\s.2.2=0)
theorem cutAt_ind {B:List UInt8} {d:Nat} (P:Nat->List St->Prop) (hend:∀q,B.length<=q->P q [])
  (hlit:∀q l,q<B.length->P (q+1) l->P q ((0,0,B.getD q 0)::l))
  (hcopy:∀q far l,q<B.length->1<=far->far<=32768->far<=q->3<=mlen B (q - far) q->best B q d=(mlen B (q - far) q,far)->P (q+mlen B (q - far) q) l->P q ((mlen B (q - far) q,far,0)::l)) (q:Nat):P q (cutAt B d q):=by
 obtain⟨m,hm⟩:∃m,B.length - q<=m:=⟨_,Nat.le_refl _⟩
 induction m generalizing q with
 | zero=>rw [cutAt_end _ _ _ (by omega)]; exact hend q (by omega)
 | succ m ih =>
  rcases Nat.lt_or_ge q B.length with h | h
  ·by_cases k:(best B q d).1=0∨(best B q d).1<(best B (q+1) d).1
   ·rw [cutAt_lit B d q h k]
    exact hlit q _ h (ih (q+1) (by omega))
   ·rw [cutAt_copy B d q h k]
    rcases best_is B q d with h0 | ⟨far,h1,h2,h3,h4,h5,h6⟩
    ·exact absurd (.inl (by rw [h0])) k
    ·rw [h5]
     exact hcopy q far _ h h1 h2 h3 h6 h5 (ih _ (by omega))
  ·rw [cutAt_end _ _ _ h]; exact hend q h
end PM
end Go.Proofs.YtloijdbkikccgaaGreatDoor

