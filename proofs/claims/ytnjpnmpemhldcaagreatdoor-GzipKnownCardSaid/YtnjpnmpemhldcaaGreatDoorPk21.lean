/- A pack. -/
import Derived.Test.YtnjpnmpemhldcaaGreatDoorPk20
set_option linter.all false
set_option maxRecDepth 100000
set_option maxHeartbeats 8000000
namespace Go.Proofs.YtnjpnmpemhldcaaGreatDoor
namespace PI
def At (B:List Bool) (a:Nat) (w:List Bool):Prop:=a+w.length<=B.length/\(B.drop a).take w.length=w
theorem At.left {B:List Bool} {a:Nat} {u v:List Bool} (h:At B a (u++v)):At B a u:=by
 obtain⟨c,b⟩:=h;rw [List.length_append] at c b;refine⟨by omega,?_⟩;have:=congrArg (List.take u.length) b;rw [List.take_take,Nat.min_eq_left (by omega),List.take_left] at this;exact this
theorem At.right {B:List Bool} {a:Nat} {u v:List Bool} (h:At B a (u++v)):At B (a+u.length) v:=by
 obtain⟨c,b⟩:=h;rw [List.length_append] at c b;refine⟨by omega,?_⟩;have:=congrArg (List.drop u.length) b;rw [List.drop_take,List.drop_drop,List.drop_left,show u.length+v.length - u.length=v.length by omega] at this;exact this
theorem At.mid (p w r:List Bool):At (p++w++r) p.length w:=by
 refine⟨by simp,?_⟩;rw [List.append_assoc,List.drop_left,List.take_left]
theorem At.le {B:List Bool} {a:Nat} {w:List Bool} (h:At B a w):a+w.length<=B.length:=h.1
theorem At.drop {B:List Bool} {a:Nat} {w:List Bool} (h:At B a w):B.drop a=w++B.drop (a+w.length):=by
 have:=List.take_append_drop w.length (B.drop a);rw [h.2,List.drop_drop] at this;exact this.symm
theorem number_at {B:List Bool} {a n k:Nat} (h:At B a (PBits.bitsOf n k)) (hn:n<2 ^ k):number B a k=.ok (a+k,n):=by
 obtain⟨b,c⟩:=h;rw [PBits.bitsOf_length] at b c;unfold number numAt;rw [if_pos b,c,PBits.num_bitsOf,Nat.mod_eq_of_lt hn]
def Has (m:List Nat) (s:Nat):Prop:=s<m.length/\1<=m.getD s 0/\m.getD s 0<=mostN m
def codeW (m:List Nat) (s:Nat):List Bool:=PH.bitsC (m.getD s 0) (PH.codeAt m s)
theorem codeW_len (m:List Nat) (s:Nat):(codeW m s).length=m.getD s 0:=PH.bitsC_len _ _
theorem sign_at {B:List Bool} {m:List Nat} {a s:Nat} (h:At B a (codeW m s)) (hs:Has m s) (hm:PH.sum m<=32768):sign B m a=.ok (a+(codeW m s).length,s):=by
 obtain⟨c,f,g⟩:=hs;obtain⟨p,b⟩:∃p,m.getD s 0=p+1:=⟨m.getD s 0 - 1,by omega⟩;have e:=h.drop;unfold codeW at e;rw [b] at e;have d:=PH.next_code m s p (mostN m) (B.drop (a+(PH.bitsC (p+1) (PH.codeAt m s)).length)) c b (by omega) (mostN_le m) hm;unfold sign;rw [e,d,if_pos rfl];unfold codeW;rw [PH.bitsC_len,b]
def sayW (m:List Nat) (s more bits:Nat):List Bool:=codeW m s++PBits.bitsOf more bits
/-! Tokens. -/
inductive Tok
 | lit (c:UInt8)
 | cpy (n back:Nat)
def findT (t:List (Nat × Nat)) (n:Nat):Nat->Nat
 | 0=>0
 | k+1=>if (t.getD (k+1) (0,0)).1<=n then k+1 else findT t n k
def longS (n:Nat):Nat × Nat × Nat:=if n=258 then (28,0,0) else (findT lengthsT n 27,(lengthsT.getD (findT lengthsT n 27) (0,0)).2,n - (lengthsT.getD (findT lengthsT n 27) (0,0)).1)
def farS (n:Nat):Nat × Nat × Nat:=(findT awayT n 29,(awayT.getD (findT awayT n 29) (0,0)).2,n - (awayT.getD (findT awayT n 29) (0,0)).1)
theorem findT_spec (t:List (Nat × Nat)) (n:Nat):∀k,(t.getD 0 (0,0)).1<=n->findT t n k<=k/\(t.getD (findT t n k) (0,0)).1<=n/\(findT t n k<k->n<(t.getD (findT t n k+1) (0,0)).1):=by
 intro k a;induction k with
 | zero=>exact⟨Nat.le_refl _,a,fun h=>by unfold findT at h; omega⟩
 | succ k ih =>
  unfold findT;split
  ·rename_i h; exact⟨Nat.le_refl _,h,fun h=>by omega⟩
  ·rename_i h
   obtain⟨d,b,c⟩:=ih;refine⟨by omega,b,fun _=>?_⟩;by_cases e:findT t n k<k
   ·exact c e
   ·rw [show findT t n k=k by omega]; omega
def stepsT (t:List (Nat × Nat)):Prop:=∀k,k+1<t.length->(t.getD (k+1) (0,0)).1=(t.getD k (0,0)).1+2 ^ (t.getD k (0,0)).2
theorem lengths_steps:stepsT lengthsT:=by
 intro k a;have:∀k,k<27->(lengthsT.getD (k+1) (0,0)).1=(lengthsT.getD k (0,0)).1+2 ^ (lengthsT.getD k (0,0)).2:=by decide +kernel
 exact this k (by simp [lengthsT] at a; omega)
theorem away_steps:stepsT awayT:=by
 intro k a;have:∀k,k<29->(awayT.getD (k+1) (0,0)).1=(awayT.getD k (0,0)).1+2 ^ (awayT.getD k (0,0)).2:=by decide +kernel
 exact this k (by simp [awayT] at a; omega)
theorem longS_lt (n:Nat) (h1:3<=n) (h2:n<=258):(longS n).1<=28/\(longS n).2.2<2 ^ (longS n).2.1/\(longS n).2.1<=5:=by
 unfold longS;split
 ·exact⟨Nat.le_refl _,by decide,by decide⟩
 ·rename_i h
  obtain⟨b,c,a⟩:=findT_spec lengthsT n 27 h1;refine⟨by show findT _ _ _<=28; omega,?_,?_⟩
  ·show n - (lengthsT.getD (findT lengthsT n 27) (0,0)).1<2 ^ (lengthsT.getD (findT lengthsT n 27) (0,0)).2;by_cases e:findT lengthsT n 27<27
   ·have d:=lengths_steps (findT lengthsT n 27) (by show _<28; omega);have f:=a e;omega
   ·rw [show findT lengthsT n 27=27 by omega];show n - 227<32;omega
  ·have:∀k,k<28->(lengthsT.getD k (0,0)).2<=5:=by decide +kernel
   exact this _ (by omega)
theorem farS_lt (n:Nat) (h1:1<=n) (h2:n<=32768):(farS n).1<=29/\(farS n).2.2<2 ^ (farS n).2.1/\(farS n).2.1<=13:=by
 unfold farS;obtain⟨a,c,b⟩:=findT_spec awayT n 29 h1;refine⟨a,?_,?_⟩
 ·show n - (awayT.getD (findT awayT n 29) (0,0)).1<2 ^ (awayT.getD (findT awayT n 29) (0,0)).2;by_cases e:findT awayT n 29<29
  ·have d:=away_steps (findT awayT n 29) (by show _<30; omega);have f:=b e;omega
  ·rw [show findT awayT n 29=29 by omega];show n - 24577<8192;omega
 ·have:∀k,k<30->(awayT.getD k (0,0)).2<=13:=by decide +kernel
  exact this _ (by omega)
theorem length_at {B:List Bool} {a n:Nat} (h:At B a (PBits.bitsOf (longS n).2.2 (longS n).2.1)) (h1:3<=n) (h2:n<=258):length B (longS n).1 a=.ok (a+(longS n).2.1,n):=by
 have g:=longS_lt n h1 h2;unfold length;by_cases e:n=258
 ·subst e; rfl
 ·have b:(longS n).1=findT lengthsT n 27:=by unfold longS; rw [if_neg e]
  have d:(longS n).2=((lengthsT.getD (findT lengthsT n 27) (0,0)).2,n - (lengthsT.getD (findT lengthsT n 27) (0,0)).1):=by unfold longS; rw [if_neg e]
  obtain⟨f,i,j⟩:=findT_spec lengthsT n 27 h1;have c:=number_at h g.2.1;rw [if_neg (by rw [b]; omega),b];unfold count;rw [d] at c ⊢;rw [if_pos (by show _<28; omega),c];show Except.ok (_,_)=_;simp only;congr 2;omega
theorem far_at {B:List Bool} {a n:Nat} (h:At B a (PBits.bitsOf (farS n).2.2 (farS n).2.1)) (h1:1<=n) (h2:n<=32768):count B awayT (farS n).1 a=.ok (a+(farS n).2.1,n):=by
 have g:=farS_lt n h1 h2;obtain⟨c,d,e⟩:=findT_spec awayT n 29 h1;have b:=number_at h g.2.1;unfold count;rw [if_pos (by show _<30; omega),show(awayT.getD (farS n).1 (0,0)).2=(farS n).2.1 from rfl,b];show Except.ok (_,_)=_;congr 2;show(awayT.getD (findT awayT n 29) (0,0)).1+(n - (awayT.getD (findT awayT n 29) (0,0)).1)=n;omega
def tokW (m d:List Nat):Tok->List Bool
 | .lit c=>codeW m c.toNat
 | .cpy n back=>sayW m (257+(longS n).1) (longS n).2.2 (longS n).2.1++sayW d (farS back).1 (farS back).2.2 (farS back).2.1
def toksW (m d:List Nat) (l:List Tok):List Bool:=l.flatMap (tokW m d)++codeW m 256
def tokO (out:List UInt8):Tok->List UInt8
 | .lit c=>out++[c]
 | .cpy n back=>copy back n out
def toksO (out:List UInt8) (l:List Tok):List UInt8:=l.foldl tokO out
def TokOk (m d:List Nat) (out:List UInt8):Tok->Prop
 | .lit c=>Has m c.toNat
 | .cpy n back=>3<=n/\n<=258/\1<=back/\back<=32768/\back<=out.length/\Has m (257+(longS n).1)/\Has d (farS back).1
def ToksOk (m d:List Nat):List UInt8->List Tok->Prop
 | _,[]=>Has m 256
 | out,t::l=>TokOk m d out t/\ToksOk m d (tokO out t) l
theorem tokO_len (out:List UInt8) (t:Tok):out.length<=(tokO out t).length:=by
 cases t with
 | lit c=>simp [tokO]
 | cpy n b=>simp [tokO,copy_len]
theorem toksO_len (out:List UInt8) (l:List Tok):out.length<=(toksO out l).length:=by
 induction l generalizing out with
 | nil=>exact Nat.le_refl _
 | cons t l ih=>exact Nat.le_trans (tokO_len out t) (ih _)
theorem step_at {B:List Bool} {most a:Nat} {m d:List Nat} {out:List UInt8} {t:Tok} (h:At B a (tokW m d t)) (ht:TokOk m d out t) (hm:PH.sum m<=32768) (hd:PH.sum d<=32768) (ho:(tokO out t).length<=most) :
  stepP B most m d a out=.ok (false,a+(tokW m d t).length,tokO out t):=by
 unfold stepP;cases t with
 | lit c =>
  have e:=sign_at h ht hm;have f:c.toNat<256:=c.toNat_lt;rw [e];show(if c.toNat=256 then _ else if c.toNat<256 then _ else _)=_;have g:out.length+1<=most:=by simpa [tokO] using ho
  rw [if_neg (by omega),if_pos f,if_neg (by omega)];show Except.ok (false,_,out++[UInt8.ofNat c.toNat])=_;rw [UInt8.ofNat_toNat];rfl
 | cpy n back =>
  obtain⟨i,j,k,l,w,o,p⟩:=ht;have q:tokW m d (.cpy n back)=codeW m (257+(longS n).1)++PBits.bitsOf (longS n).2.2 (longS n).2.1++(codeW d (farS back).1++PBits.bitsOf (farS back).2.2 (farS back).2.1):=rfl;rw [q] at h ⊢;have r:=sign_at h.left.left o hm;have s:=length_at h.left.right i j;have b:=h.right;rw [List.length_append,PBits.bitsOf_length,<- Nat.add_assoc] at b;have u:=sign_at b.left p hd;have v:=far_at b.right k l;rw [r];show(if 257+(longS n).1=256 then _ else if 257+(longS n).1<256 then _ else (length B (257+(longS n).1 - 257) (a+(codeW m (257+(longS n).1)).length)).bind _)=_;rw [if_neg (by omega),if_neg (by omega),Nat.add_sub_cancel_left,s];show(sign B d (a+(codeW m (257+(longS n).1)).length+(longS n).2.1)).bind _=_;rw [u];show(count B awayT (farS back).1 (a+(codeW m (257+(longS n).1)).length+(longS n).2.1+(codeW d (farS back).1).length)).bind _=_;rw [v];have g:out.length+n<=most:=by rw [show tokO out (.cpy n back)=copy back n out from rfl,copy_len] at ho; exact ho
  show(if out.length<back then _ else if most - out.length<n then _ else Except.ok (false,_,copy back n out))=_;rw [if_neg (by omega),if_neg (by omega)];simp only [List.length_append,PBits.bitsOf_length,tokO];congr 3;omega
theorem pressed_at {B:List Bool} {most:Nat} {m d:List Nat} (hm:PH.sum m<=32768) (hd:PH.sum d<=32768):∀(l:List Tok) (f a:Nat) (out:List UInt8),At B a (toksW m d l)->ToksOk m d out l->(toksO out l).length<=most->l.length<f ->
  pressed B most m d f a out=.ok (a+(toksW m d l).length,toksO out l):=by
 intro l;induction l with
 | nil =>
  intro f a out h c j g;cases f with
  | zero=>simp at g
  | succ f =>
   have k : At B a (codeW m 256):=by simpa [toksW] using h
   have i:=sign_at k c hm;rw [pressed];unfold stepP;rw [i];show Except.ok _=_;simp [toksW,toksO]
 | cons t l ih =>
  intro f a out h c j g;cases f with
  | zero=>simp at g
  | succ f =>
   have e:toksW m d (t::l)=tokW m d t++toksW m d l:=by simp [toksW]
   rw [e] at h ⊢;have b : (toksO (tokO out t) l).length<=most:=j;have i:=step_at (most:=most) h.left c.1 hm hd (Nat.le_trans (toksO_len _ _) b);rw [pressed,i];show pressed B most m d f (a+(tokW m d t).length) (tokO out t)=_;rw [ih f _ _ h.right c.2 b (by simp at g; omega),List.length_append,Nat.add_assoc];rfl
/-! The lengths, told. -/
def tellB (s:Nat):Nat:=if s=16 then 2 else if s=17 then 3 else if s=18 then 7 else 0
def tellO (acc:List Nat) (t:Nat × Nat):List Nat :=
 if t.1=16 then acc++List.replicate (3+t.2) (acc.getD (acc.length - 1) 0) else if t.1=17 then acc++List.replicate (3+t.2) 0 else if t.1=18 then acc++List.replicate (11+t.2) 0 else acc++List.replicate 1 t.1
def tellsO (acc:List Nat) (l:List (Nat × Nat)):List Nat:=l.foldl tellO acc
def tellW (m:List Nat) (t:Nat × Nat):List Bool:=sayW m t.1 t.2 (tellB t.1)
def tellsW (m:List Nat) (l:List (Nat × Nat)):List Bool:=l.flatMap (tellW m)
def TellsOk (m:List Nat):List Nat->List (Nat × Nat)->Prop
 | _,[]=>True
 | acc,t::l=>(Has m t.1/\t.2<2 ^ tellB t.1/\(t.1=16->acc≠[]))/\TellsOk m (tellO acc t) l
theorem tellO_len (acc:List Nat) (t:Nat × Nat):acc.length<(tellO acc t).length:=by
 unfold tellO;split
 ·simp; omega
 split
 ·simp; omega
 split
 ·simp; omega
 ·simp
theorem tellsO_len (acc:List Nat) (l:List (Nat × Nat)):acc.length+l.length<=(tellsO acc l).length:=by
 induction l generalizing acc with
 | nil=>exact Nat.le_refl _
 | cons t l ih =>
  have a:=tellO_len acc t;have b:=ih (tellO acc t);show _<=(tellsO (tellO acc t) l).length;simp only [List.length_cons];omega
theorem fill_at {many a v k:Nat} {acc:List Nat} (h:acc.length+k<=many):fill many acc v k a=.ok (a,acc++List.replicate k v):=by
 unfold fill;rw [if_neg (by omega)]
theorem stepL_at {B:List Bool} {m:List Nat} {many a:Nat} {acc:List Nat} {t:Nat × Nat} (h:At B a (tellW m t)) (hm:PH.sum m<=32768) (ht:Has m t.1/\t.2<2 ^ tellB t.1/\(t.1=16->acc≠[])) (hl:(tellO acc t).length<=many) :
  stepL B m many a acc=.ok (a+(tellW m t).length,tellO acc t):=by
 obtain⟨i,j,k⟩:=ht;have l:=sign_at h.left i hm;have b:=number_at h.right j;have e:(tellW m t).length=(codeW m t.1).length+tellB t.1:=by unfold tellW sayW; rw [List.length_append,PBits.bitsOf_length]
 rw [e,<- Nat.add_assoc];unfold stepL;rw [l];show(if t.1=16 then _ else if t.1=17 then _ else if t.1=18 then _ else fill many acc t.1 1 (a+(codeW m t.1).length))=_;unfold tellO at hl ⊢;unfold tellB at b ⊢;by_cases c:t.1=16
 ·simp only [if_pos c] at b hl ⊢;have g:acc.length≠0:=by simpa using k c
  rw [if_neg g,b];exact fill_at (by simpa using hl)
 ·simp only [if_neg c] at b hl ⊢;by_cases d:t.1=17
  ·simp only [if_pos d] at b hl ⊢;rw [b];exact fill_at (by simpa using hl)
  ·simp only [if_neg d] at b hl ⊢;by_cases f:t.1=18
   ·simp only [if_pos f] at b hl ⊢;rw [b];exact fill_at (by simpa using hl)
   ·simp only [if_neg f] at hl ⊢;exact fill_at (by simpa using hl)
theorem lens_at {B:List Bool} {m:List Nat} {many:Nat} (hm:PH.sum m<=32768):∀(l:List (Nat × Nat)) (f a:Nat) (acc:List Nat),At B a (tellsW m l)->TellsOk m acc l->(tellsO acc l).length=many->l.length<f ->
  lens B m many f a acc=.ok (a+(tellsW m l).length,tellsO acc l):=by
 intro l;induction l with
 | nil =>
  intro f a acc h d g c;cases f with
  | zero=>simp at c
  | succ f =>
   have b : acc.length=many:=g;rw [lens,if_neg (by omega)];rfl
 | cons t l ih =>
  intro f a acc h d g c;cases f with
  | zero=>simp at c
  | succ f =>
   have e:tellsW m (t::l)=tellW m t++tellsW m l:=by simp [tellsW]
   have b : (tellsO (tellO acc t) l).length=many:=g;have i:=tellO_len acc t;have j:=tellsO_len (tellO acc t) l;rw [e] at h ⊢;rw [lens,if_pos (by omega),stepL_at h.left hm d.1 (by omega)];show lens B m many f (a+(tellW m t).length) (tellO acc t)=_;rw [ih f _ _ h.right d.2 b (by simp at c; omega),List.length_append,Nat.add_assoc];rfl
theorem PH.nat_cast (m:List Nat):PH.nat (castI m)=m:=by
 unfold PH.nat castI;rw [List.map_map];exact(List.map_congr_left fun n _=>by simp).trans (List.map_id m)
theorem PH.may_cast {m:List Nat} (h:m.length<=1024) (h15:∀x ∈ m,x<=15):PH.may (castI m)=true:=by
 unfold PH.may castI;simp only [Bool.and_eq_true,decide_eq_true_eq,Bool.not_eq_true',List.any_eq_false];refine⟨by simpa using h,fun x hx=>?_⟩;obtain⟨n,a,rfl⟩:=List.mem_map.1 hx;have:=h15 n a;unfold PH.bad;simp only [decide_eq_true_eq];omega
theorem PBits.ofB_append (a b:List UInt8):PBits.ofB (a++b)=PBits.ofB a++PBits.ofB b:=by
 induction a with
 | nil=>rfl
 | cons c a ih=>rw [List.cons_append,PBits.ofB,PBits.ofB,ih,List.append_assoc]
/-! The head of a dynamic block. -/
def firstsW (first:List Nat) (c:List Nat):List Bool:=c.flatMap fun s=>PBits.bitsOf (first.getD s 0) 3
def layF (first:List Nat) (f:List Nat) (c:List Nat):List Nat:=c.foldl (fun f s=>f.set s (first.getD s 0)) f
theorem firsts_at {B:List Bool} (first:List Nat) (h8:∀x ∈ first,x<8):∀(c:List Nat) (a:Nat) (f:List Nat),At B a (firstsW first c)->firsts B c a f=.ok (a+(firstsW first c).length,layF first f c):=by
 intro c;induction c with
 | nil=>intro a f h; rfl
 | cons s c ih =>
  intro a f h;have e:firstsW first (s::c)=PBits.bitsOf (first.getD s 0) 3++firstsW first c:=by simp [firstsW]
  rw [e] at h ⊢;have d:first.getD s 0<2 ^ 3:=by
   rw [List.getD_eq_getElem?_getD];cases hg:first[s]? with
   | none=>simp
   | some x=>exact h8 x (List.mem_of_getElem? hg)
  have b:=h.right;rw [PBits.bitsOf_length] at b;rw [firsts,number_at h.left d];show firsts B c (a+3) (f.set s (first.getD s 0))=_;rw [ih _ _ b,List.length_append,PBits.bitsOf_length,Nat.add_assoc];rfl
theorem layF_len (first:List Nat):∀(c f:List Nat),(layF first f c).length=f.length:=by
 intro c;induction c with
 | nil=>intro f; rfl
 | cons s c ih=>intro f; show(layF first (f.set s _) c).length=_; rw [ih,List.length_set]
theorem layF_get (first:List Nat) (i:Nat):∀(c f:List Nat),i<f.length->(layF first f c).getD i 0=if i ∈ c then first.getD i 0 else f.getD i 0:=by
 intro c;induction c with
 | nil=>intro f _; simp [layF]
 | cons s c ih =>
  intro f d;show(layF first (f.set s _) c).getD i 0=_;rw [ih _ (by simpa using d)];by_cases a:i ∈ c
  ·rw [if_pos a,if_pos (List.mem_cons_of_mem _ a)]
  ·rw [if_neg a];by_cases b:i=s
   ·subst b;rw [if_pos (List.mem_cons_self ..)];simp [List.getD_eq_getElem?_getD,d]
   ·rw [if_neg (by simp [a,b])];simp [List.getD_eq_getElem?_getD,List.getElem?_set,Ne.symm b]
theorem layF_all (first:List Nat) (n:Nat) (hl:first.length=19) (hz:∀i,i<19->i ∉ orderT.take n->first.getD i 0=0):layF first (List.replicate 19 0) (orderT.take n)=first:=by
 apply List.ext_getElem
 ·rw [layF_len,List.length_replicate,hl]
 ·intro i b c;have a:i<19:=by omega
  have e:=layF_get first i (orderT.take n) (List.replicate 19 0) (by simpa using a)
  have d:(layF first (List.replicate 19 0) (orderT.take n)).getD i 0=(layF first (List.replicate 19 0) (orderT.take n))[i]:=by rw [List.getD_eq_getElem?_getD,List.getElem?_eq_getElem b]; rfl
  have f:first.getD i 0=first[i]:=by rw [List.getD_eq_getElem?_getD,List.getElem?_eq_getElem c]; rfl
  rw [<- d,<- f,e];split
  ·rfl
  ·rename_i h5
   rw [hz i a h5];rw [List.getD_eq_getElem?_getD,List.getElem?_replicate,if_pos a]; rfl
def headW (first:List Nat) (c l d:Nat) (rows:List (Nat × Nat)):List Bool :=
 PBits.bitsOf (l - 257) 5++(PBits.bitsOf (d - 1) 5++(PBits.bitsOf (c - 4) 4++(firstsW first (orderT.take c)++tellsW first rows)))
theorem book_sum {m:List Nat} (h:book m=true):PH.sum m<=32768:=by
 unfold book PH.okB at h;simp only [Bool.and_eq_true] at h;rw [PI.PH.nat_cast] at h;exact PH.mayBook_sum m h.2
theorem dynamic_at {B:List Bool} {a c l d:Nat} {first L D:List Nat} {rows:List (Nat × Nat)} (h:At B a (headW first c l d rows)) (hl1:257<=l) (hl2:l<=286) (hd1:1<=d) (hd2:d<=30) (hc1:4<=c) (hc2:c<=19)
  (h8:∀x ∈ first,x<8) (hfl:first.length=19) (hz:∀i,i<19->i ∉ orderT.take c->first.getD i 0=0) (hb:book first=true) (ht:TellsOk first [] rows) (hr:tellsO [] rows=L++D) (hL:L.length=l) (hD:D.length=d)
  (h256:L.getD 256 0≠0) (hbL:book L=true) (hbD:book D=true):dynamic B a=.ok (a+(headW first c l d rows).length,L,D):=by
 unfold headW at h ⊢;have n:=number_at h.left (show l - 257<2 ^ 5 by omega);have f:=h.right;rw [PBits.bitsOf_length] at f;have o:=number_at f.left (show d - 1<2 ^ 5 by omega);have g:=f.right;rw [PBits.bitsOf_length] at g;have p:=number_at g.left (show c - 4<2 ^ 4 by omega);have j:=g.right;rw [PBits.bitsOf_length] at j;have k:=firsts_at first h8 _ _ (List.replicate 19 0) j.left
 rw [layF_all first c hfl hz] at k;have b:(L++D).length=l+d:=by rw [List.length_append,hL,hD]
 have e:=tellsO_len [] rows;rw [hr,b] at e;have m:=lens_at (book_sum hb) (many:=l+d) rows (l+d+1) _ [] j.right ht (by rw [hr,b]) (by simp at e; omega);rw [hr] at m;unfold dynamic;rw [n];show(number B (a+5) 5).bind _=_;rw [o];show(number B (a+5+5) 4).bind _=_;rw [p];show(if 286<l - 257+257∨30<d - 1+1 then _ else (firsts B (orderT.take (c - 4+4)) (a+5+5+4) (List.replicate 19 0)).bind _)=_;rw [if_neg (by omega),show c - 4+4=c by omega,k];show(if book first=true then (lens B first (l - 257+257+(d - 1+1)) (l - 257+257+(d - 1+1)+1) (a+5+5+4+(firstsW first (orderT.take c)).length) []).bind _ else _)=_;rw [if_pos hb,show l - 257+257=l by omega,show d - 1+1=d by omega,m];have q:(L++D).take l=L:=by rw [<- hL,List.take_left]
 have r:(L++D).drop l=D:=by rw [<- hL,List.drop_left]
 have s:(L++D).getD 256 0=L.getD 256 0:=by
  rw [List.getD_eq_getElem?_getD,List.getD_eq_getElem?_getD,List.getElem?_append_left (by omega)]
 show(if (L++D).getD 256 0=0 then _ else if book ((L++D).take l)=true then if book ((L++D).drop l)=true then Except.ok (_,(L++D).take l,(L++D).drop l) else _ else _)=_;rw [q,r,s,if_neg h256,if_pos hbL,if_pos hbD];simp only [List.length_append,PBits.bitsOf_length];congr 2;omega
/-! Blocks. -/
theorem fixed_has (s:Nat) (h:s<288):Has fixedL s:=by
 have:∀s,s<288->(s<fixedL.length/\1<=fixedL.getD s 0/\fixedL.getD s 0<=mostN fixedL):=by decide +kernel
 exact this s h
theorem fixed_hasD (s:Nat) (h:s<32):Has fixedD s:=by
 have:∀s,s<32->(s<fixedD.length/\1<=fixedD.getD s 0/\fixedD.getD s 0<=mostN fixedD):=by decide +kernel
 exact this s h
theorem fixed_sum:PH.sum fixedL<=32768:=by decide +kernel
theorem fixed_sumD:PH.sum fixedD<=32768:=by decide +kernel
theorem fixed_at {B:List Bool} {most a:Nat} {out:List UInt8} {l:List Tok} (h:At B a (toksW fixedL fixedD l)) (ht:ToksOk fixedL fixedD out l) (ho:(toksO out l).length<=most) (hl:l.length<=B.length) :
  body B most 1 a out=.ok (a+(toksW fixedL fixedD l).length,toksO out l):=by
 unfold body;rw [if_neg (by decide),if_pos rfl];exact pressed_at fixed_sum fixed_sumD l _ a out h ht ho (by omega)
theorem dyn_at {B:List Bool} {most a c l d:Nat} {first L D:List Nat} {rows:List (Nat × Nat)} {out:List UInt8} {ts:List Tok} (h:At B a (headW first c l d rows++toksW L D ts)) (hd:dynamic B a=.ok (a+(headW first c l d rows).length,L,D))
  (hL:book L=true) (hD:book D=true) (ht:ToksOk L D out ts) (ho:(toksO out ts).length<=most) (hl:ts.length<=B.length) :
  body B most 2 a out=.ok (a+(headW first c l d rows++toksW L D ts).length,toksO out ts):=by
 unfold body;rw [if_neg (by decide),if_neg (by decide),if_pos rfl,hd];show pressed B most L D (B.length+1) (a+(headW first c l d rows).length) out=_;rw [pressed_at (book_sum hL) (book_sum hD) ts _ _ out h.right ht ho (by omega),List.length_append,Nat.add_assoc]
theorem bytes_at {B:List Bool} {a:Nat} : ∀(l:List UInt8),At B a (PBits.ofB l)->bytesAt B a l.length=l:=by
 intro l h;apply List.ext_getElem
 ·rw [bytesAt_len]
 ·intro i f b;have e:l=l.take i++(l[i]::l.drop (i+1)):=by
   rw [<- List.drop_eq_getElem_cons b,List.take_append_drop]
  have g:PBits.ofB l=PBits.ofB (l.take i)++(PBits.bitsOf l[i].toNat 8++PBits.ofB (l.drop (i+1))):=by
   conv=>lhs; rw [e]
   rw [PI.PBits.ofB_append];rfl
  rw [g] at h;have c:=h.right.left;rw [PBits.ofB_length,List.length_take,Nat.min_eq_left (by omega)] at c;have j:=number_at c (show l[i].toNat<2 ^ 8 from l[i].toNat_lt);have k:=(number_ok j).1;have m:numAt B (a+8 * i) 8=l[i].toNat:=by
   have:=congrArg Prod.snd k;exact this.symm
  have d:(bytesAt B a l.length)[i]?=some l[i]:=by
   unfold bytesAt;rw [List.getElem?_map,List.getElem?_range b,Option.map_some,m,UInt8.ofNat_toNat]
  rw [List.getElem?_eq_getElem f] at d;exact Option.some.inj d
def storedW (l:List UInt8):List Bool:=PBits.bitsOf l.length 16++(PBits.bitsOf (65535 - l.length) 16++PBits.ofB l)
theorem stored_at {B:List Bool} {most a:Nat} {out l:List UInt8} (h:At B ((a+7) / 8 * 8) (storedW l)) (hl:l.length<=65535) (ho:(out++l).length<=most) :
  body B most 0 a out=.ok ((a+7) / 8 * 8+(storedW l).length,out++l):=by
 unfold storedW at h ⊢;have d:=number_at h.left (show l.length<2 ^ 16 by omega);have b:=h.right;rw [PBits.bitsOf_length] at b;have e:=number_at b.left (show 65535 - l.length<2 ^ 16 by omega);have c:=b.right;rw [PBits.bitsOf_length] at c;have f:=c.le;rw [PBits.ofB_length] at f;unfold body;rw [if_pos rfl];unfold stored;rw [d];show(number B ((a+7) / 8 * 8+16) 16).bind _=_;rw [e];rw [List.length_append] at ho;show(if 65535 - l.length≠65535 - l.length then _ else if (B.length - ((a+7) / 8 * 8+16+16)) / 8<l.length then _ else if most - out.length<l.length then _ else Except.ok ((a+7) / 8 * 8+16+16+8 * l.length,out++bytesAt B ((a+7) / 8 * 8+16+16) l.length))=_;rw [if_neg (by simp),if_neg (by omega),if_neg (by omega),bytes_at l c];simp only [List.length_append,PBits.bitsOf_length,PBits.ofB_length];congr 2;omega
theorem block_at {B:List Bool} {most a kind a' : Nat} {last:Bool} {out out' : List UInt8} (h:At B a ([last]++PBits.bitsOf kind 2)) (hk:kind<4) (hb:body B most kind (a+3) out=.ok (a',out')) :
  block B most a out=.ok (last,kind,a',out'):=by
 have e:([last]:List Bool)=PBits.bitsOf last.toNat 1:=by cases last <;> rfl
 rw [e] at h;have c:=number_at h.left (show last.toNat<2 ^ 1 by cases last <;> decide)
 have b:=h.right;rw [PBits.bitsOf_length] at b;have d:=number_at b (show kind<2 ^ 2 by omega);unfold block;rw [c];show(number B (a+1) 2).bind _=_;rw [d];show(body B most kind (a+1+2) out).bind _=_;rw [show a+1+2=a+3 by omega,hb];show Except.ok (last.toNat == 1,kind,a',out')=_;cases last <;> rfl
theorem blocks_at {B:List Bool} {most n:Nat} (A K:Nat->Nat) (O:Nat->List UInt8) (h:∀i,i<n->block B most (A i) (O i)=.ok (decide (i+1=n),K i,A (i+1),O (i+1))) :
  ∀(k i f:Nat) (bl:List Blk),i+k=n->0<k->k<=f->blocks B most f (A i) (O i) bl=.ok (A n,O n,bl++(List.range k).map fun j=>⟨K (i+j),decide (i+j+1=n),(O (i+j)).length,(O (i+j+1)).length⟩):=by
 intro k;induction k with
 | zero=>intro i f bl a b; omega
 | succ k ih =>
  intro i f bl a b c;cases f with
  | zero=>omega
  | succ f =>
   rw [blocks,h i (by omega)];show(if decide (i+1=n)=true then _ else blocks B most f (A (i+1)) (O (i+1)) (bl++[⟨K i,decide (i+1=n),(O i).length,(O (i+1)).length⟩]))=_;rw [List.range_succ_eq_map,List.map_cons,List.map_map];by_cases e:i+1=n
   ·rw [if_pos (by simpa using e)];obtain rfl:k=0:=by omega
    subst e;simp
   ·rw [if_neg (by simpa using e),ih (i+1) f _ (by omega) (by omega) (by omega)];congr 3;rw [List.append_assoc,List.singleton_append];congr 2;refine List.map_congr_left fun j _=>?_;show _=Blk.mk (K (i+(j+1))) _ _ _;rw [show i+1+j=i+(j+1) by omega]
end PI
namespace PI
def cnts (n:Nat) (l:List Nat):List Nat:=(List.range n).map fun i=>l.count i
theorem cnts_len (n:Nat) (l:List Nat):(cnts n l).length=n:=by simp [cnts]
theorem cnts_get (n i:Nat) (l:List Nat) (h:i<n):(cnts n l).getD i 0=l.count i:=by simp [cnts,List.getD_eq_getElem?_getD,h]
theorem items_le (cs:List Nat):(PL.items cs).length<=cs.length:=PL.itemsTo_len cs cs.length
theorem lens_fits (n m:Nat) (l:List Nat) (h1:1<=m) (h15:m<=15) (hn:n<=2 ^ m) (hn2:n<=1024) :
  book (PL.lens (cnts n l) m)=true/\(PL.lens (cnts n l) m).length=n/\(∀x ∈ PL.lens (cnts n l) m,x<=m)/\(∀s ∈ l,s<n->Has (PL.lens (cnts n l) m) s)/\∀s,s ∉ l->(PL.lens (cnts n l) m).getD s 0=0:=by
 have d:(PL.items (cnts n l)).length<=2 ^ m:=Nat.le_trans (items_le _) (by rw [cnts_len]; exact hn);obtain⟨f,k,o,g,p,q,h⟩:=PL.lens_book (cnts n l) m h1 h15 d;have a:(PL.lens (cnts n l) m).length=n:=by rw [PL.lens_len,cnts_len]
 have b:∀x ∈ PL.lens (cnts n l) m,x<=m:=fun x hx=>by
  obtain⟨i,e,rfl⟩:=List.getElem_of_mem hx;have:=(PL.lens_in (cnts n l) m i h1 d (by rw [cnts_len,<- a]; exact e)).2.2
  rwa [List.getD_eq_getElem?_getD,List.getElem?_eq_getElem e] at this
 refine⟨?_,a,b,fun s hs hsn=>?_,fun s hs=>?_⟩
 ·unfold book PH.okB;rw [PI.PH.nat_cast,f,Bool.and_true];exact PI.PH.may_cast (by rw [a]; exact hn2) (fun x hx=>Nat.le_trans (b x hx) h15)
 ·have c:=PL.lens_in (cnts n l) m s h1 d (by rw [cnts_len]; exact hsn);rw [cnts_get n s l hsn] at c;have r:=h s (by rw [cnts_len]; exact hsn);have j:=mostN_of (PL.lens (cnts n l) m);refine⟨by rw [a]; exact hsn,c.1 (List.count_pos_iff.2 hs),?_⟩;rw [g] at j;omega
 ·by_cases hsn:s<n
  ·have c:=PL.lens_in (cnts n l) m s h1 d (by rw [cnts_len]; exact hsn);rw [cnts_get n s l hsn] at c;exact c.2.1 (List.count_eq_zero.2 hs)
  ·rw [List.getD_eq_getElem?_getD,List.getElem?_eq_none (by omega)]; rfl
def symsOf:List Tok->List Nat
 | []=>[256]
 | .lit c::l=>c.toNat::symsOf l
 | .cpy n _::l=>(257+(longS n).1)::symsOf l
def farsOf:List Tok->List Nat
 | []=>[]
 | .lit _::l=>farsOf l
 | .cpy _ b::l=>(farS b).1::farsOf l
def Good:List UInt8->List Tok->Prop
 | _,[]=>True
 | out,.lit c::l=>Good (out++[c]) l
 | out,.cpy n b::l=>(3<=n/\n<=258/\1<=b/\b<=32768/\b<=out.length)/\Good (copy b n out) l
theorem Good.has {m d:List Nat} : ∀(l:List Tok) (out:List UInt8),Good out l->(∀s ∈ symsOf l,s<286->Has m s)->(∀s ∈ farsOf l,s<30->Has d s)->ToksOk m d out l:=by
 intro l;induction l with
 | nil=>intro out h a e; exact a 256 (by simp [symsOf]) (by decide)
 | cons t l ih =>
  intro out h a e;cases t with
  | lit c =>
   have p:=c.toNat_lt;exact⟨a c.toNat (by simp [symsOf]) (by omega),ih _ h (fun s hs=>a s (by simp [symsOf,hs])) (fun s hs=>e s (by simpa [farsOf] using hs))⟩
  | cpy n b =>
   obtain⟨⟨f,g,i,j,k⟩,o⟩:=h;have q:=longS_lt n f g;have r:=farS_lt b i j;exact⟨⟨f,g,i,j,k,a _ (by simp [symsOf]) (by omega),e _ (by simp [farsOf]) (by omega)⟩,ih _ o (fun s hs=>a s (by simp [symsOf,hs])) (fun s hs=>e s (by simp [farsOf,hs]))⟩
theorem syms_end (l:List Tok):256 ∈ symsOf l:=by
 induction l with
 | nil=>simp [symsOf]
 | cons t l ih=>cases t <;> simp [symsOf,ih]
/-! A row of lengths, told as the law tells it. -/
def runL (x:Nat):List Nat->Nat
 | []=>0
 | y::l=>if y=x then runL x l+1 else 0
theorem runL_le (x:Nat) (l:List Nat):runL x l<=l.length:=by
 induction l with
 | nil=>exact Nat.le_refl _
 | cons y l ih=>unfold runL; split <;> simp <;> omega
theorem runL_take (x:Nat):∀(l:List Nat) (k:Nat),k<=runL x l->l.take k=List.replicate k x:=by
 intro l;induction l with
 | nil =>
  intro k h;obtain rfl:k=0:=by simpa [runL] using h
  rfl
 | cons y l ih =>
  intro k h;cases k with
  | zero=>rfl
  | succ k =>
   unfold runL at h;split at h
   ·rename_i e
    rw [List.take_succ_cons,ih k (by omega),e]; rfl
   ·omega
theorem tellB_small (x:Nat) (h:x<=15):tellB x=0:=by
 unfold tellB;rw [if_neg (by omega),if_neg (by omega),if_neg (by omega)]
theorem tellO_lit (acc:List Nat) (x y:Nat) (h:x<=15):tellO acc (x,y)=acc++[x]:=by
 unfold tellO;simp only;rw [if_neg (by omega),if_neg (by omega),if_neg (by omega)];rfl
/-! Parts. -/
structure WPart where
 kind:Nat
 bytes:List UInt8
 copies:List (Nat × Nat)
def cps:List (Nat × Nat)->List UInt8->List Tok
 | [],_=>[]
 | c::r,out=>if out.length=0 then [] else .cpy (3+c.1 % 256) (1+c.2 % min out.length 32768)::cps r (copy (1+c.2 % min out.length 32768) (3+c.1 % 256) out)
def lits (l:List UInt8):List Tok:=l.map Tok.lit
def toks (x:WPart) (out:List UInt8):List Tok:=lits (x.bytes.take 80)++cps (x.copies.take 6) (out++x.bytes.take 80)
def lensA (ts:List Tok):List Nat:=PL.lens (cnts 286 (symsOf ts)) 15
def lensB (ts:List Tok):List Nat:=PL.lens (cnts 30 (farsOf ts)) 15
def firstOf (rows:List (Nat × Nat)):List Nat:=PL.lens (cnts 19 (rows.map Prod.fst)) 7
def packB (l:List Bool):List UInt8:=PBits.bytesOf (PBits.num l) ((l.length+7) / 8)
theorem tok_one {m d:List Nat} {out:List UInt8} {t:Tok} (h:TokOk m d out t):1<=(tokW m d t).length:=by
 cases t with
 | lit c =>
  have a : Has m c.toNat:=h;show 1<=(codeW m c.toNat).length;rw [codeW_len];exact a.2.1
 | cpy n b =>
  obtain⟨_,_,_,_,_,e,_⟩:=h;show 1<=(sayW m _ _ _++sayW d _ _ _).length;unfold sayW;rw [List.length_append,List.length_append,codeW_len];have:=e.2.1;omega
theorem toks_len {m d:List Nat} : ∀(ts:List Tok) (out:List UInt8),ToksOk m d out ts->ts.length<=(toksW m d ts).length:=by
 intro ts;induction ts with
 | nil=>intro out _; exact Nat.zero_le _
 | cons t l ih =>
  intro out h;have a:=tok_one h.1;have b:=ih _ h.2;have e:toksW m d (t::l)=tokW m d t++toksW m d l:=by simp [toksW]
  rw [e,List.length_append,List.length_cons];omega
theorem ofB_pack (l:List Bool):PBits.ofB (packB l)=l++List.replicate ((l.length+7) / 8 * 8 - l.length) false:=by
 apply PBits.num_inj
 ·rw [PBits.ofB_length,List.length_append,List.length_replicate];unfold packB;rw [PBits.bytesOf_length];omega
 ·rw [PBits.num_ofB,PBits.num_append,PBits.num_false];unfold packB;rw [PBits.le_bytesOf,Nat.mul_zero,Nat.add_zero];refine Nat.mod_eq_of_lt (Nat.lt_of_lt_of_le (PBits.num_lt l) ?_);rw [show(256:Nat)=2 ^ 8 by decide,<- Nat.pow_mul];exact Nat.pow_le_pow_right (by decide) (by omega)
theorem packB_len (l:List Bool):(packB l).length=(l.length+7) / 8:=PBits.bytesOf_length _ _
end PI
end Go.Proofs.YtnjpnmpemhldcaaGreatDoor

