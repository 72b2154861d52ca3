/- A pack. -/
import Derived.Test.YteajimobgkempaaGreatDoorPk17
set_option linter.all false
set_option maxRecDepth 100000
set_option maxHeartbeats 8000000
namespace Go.Proofs.YteajimobgkempaaGreatDoor
namespace PI
def Er (e:Nat):Prop:=e=0∨e=4∨e=20∨e=22
structure Fine {Y:Type} (a o:Nat) (F:List Bool->Nat->Except Nat Y) (ps ol:Y->Nat):Prop where
 err:∀B most,a<=B.length->o<=most->∀e,F B most=.error e->Er e
 pos:∀B most,a<=B.length->o<=most->∀y,F B most=.ok y->a<=ps y/\ps y<=B.length/\o<=ol y/\ol y<=most
 ext:∀B most,a<=B.length->o<=most->∀y,F B most=.ok y->∀B' most',B'.take (ps y)=B.take (ps y)->ps y<=B'.length->ol y<=most'->F B' most'=.ok y
 short:∀B most,a<=B.length->o<=most->∀y,F B most=.ok y->∀p,a<=p->p<ps y->F (B.take p) most=.error 4
 cap:∀B most,a<=B.length->o<=most->∀y,F B most=.ok y->∀most',o<=most'->most' < ol y->F B most'=.error 22
section
variable {Y Z:Type} {a o:Nat}
theorem take_less {B B' : List Bool} {p q:Nat} (h:B'.take q=B.take q) (hp:p<=q):B'.take p=B.take p:=by
 have a:B'.take p=(B'.take q).take p:=by rw [List.take_take,Nat.min_eq_left hp]
 have b:B.take p=(B.take q).take p:=by rw [List.take_take,Nat.min_eq_left hp]
 rw [a,b,h]
theorem Fine.bind {F:List Bool->Nat->Except Nat Y} {G:Y->List Bool->Nat->Except Nat Z} {p1 o1:Y->Nat} {p2 o2:Z->Nat} (hF:Fine a o F p1 o1) (hG:∀y,Fine (p1 y) (o1 y) (G y) p2 o2) :
  Fine a o (fun B most=>(F B most).bind fun y=>G y B most) p2 o2:=by
 refine⟨fun B most ha ho e h=>?_,fun B most ha ho z h=>?_,fun B most ha ho z h B' most' ht hl hm=>?_,fun B most ha ho z h p hap hp=>?_,fun B most ha ho z h most' hm hm2=>?_⟩
 ·cases hf:F B most with
  | error e' =>
   simp only [hf] at h;cases h
   exact hF.err B most ha ho _ hf
  | ok y =>
   simp only [hf] at h;obtain⟨f,b,g,c⟩:=hF.pos B most ha ho y hf;exact(hG y).err B most b c e h
 ·obtain⟨y,hf,h⟩:=bind_ok h;obtain⟨f,b,g,c⟩:=hF.pos B most ha ho y hf;obtain⟨i,j,n,k⟩:=(hG y).pos B most b c z h;exact⟨by omega,j,by omega,k⟩
 ·obtain⟨y,hf,h⟩:=bind_ok h;obtain⟨f,b,g,c⟩:=hF.pos B most ha ho y hf;obtain⟨i,j,n,k⟩:=(hG y).pos B most b c z h;have d:=hF.ext B most ha ho y hf B' most' (take_less ht i) (by omega) (by omega);show(F B' most').bind _=_;rw [d];exact(hG y).ext B most b c z h B' most' ht hl hm
 ·obtain⟨y,hf,h⟩:=bind_ok h;obtain⟨f,b,g,c⟩:=hF.pos B most ha ho y hf;obtain⟨i,j,n,k⟩:=(hG y).pos B most b c z h;show(F (B.take p) most).bind _=_;by_cases l:p<p1 y
  ·rw [hF.short B most ha ho y hf p hap l]; rfl
  ·have d:=hF.ext B most ha ho y hf (B.take p) most (by rw [List.take_take,Nat.min_eq_left (by omega)]) (by rw [List.length_take]; omega) c;rw [d];exact(hG y).short B most b c z h p (by omega) hp
 ·obtain⟨y,hf,h⟩:=bind_ok h;obtain⟨f,b,g,c⟩:=hF.pos B most ha ho y hf;show(F B most').bind _=_;by_cases m:most' < o1 y
  ·rw [hF.cap B most ha ho y hf most' hm m]; rfl
  ·have d:=hF.ext B most ha ho y hf B most' rfl b (by omega);rw [d];exact(hG y).cap B most b c z h most' (by omega) hm2
theorem Fine.ok (y:Y) (p2 o2:Y->Nat) (hp:p2 y=a) (ho:o2 y=o):Fine a o (fun _ _=>.ok y) p2 o2 :=
 ⟨fun _ _ _ _ _ h=>(by cases h),fun B most ha hb z h=>by cases h; omega,fun B most ha hb z h B' most' _ _ _=>h,fun B most ha hb z h p h1 h2=>by cases h; omega,fun B most ha hb z h m h1 h2=>by cases h; omega⟩
theorem Fine.error (e:Nat) (p2 o2:Y->Nat) (he:Er e):Fine a o (fun _ _=>(.error e:Except Nat Y)) p2 o2 :=
 ⟨fun _ _ _ _ _ h=>(by cases h; exact he),fun _ _ _ _ z h=>(by cases h),fun _ _ _ _ z h=>(by cases h),fun _ _ _ _ z h=>(by cases h),fun _ _ _ _ z h=>(by cases h)⟩
theorem Fine.ite {c:Prop} [Decidable c] {F G:List Bool->Nat->Except Nat Y} {p2 o2:Y->Nat} (hF:c->Fine a o F p2 o2) (hG:¬ c->Fine a o G p2 o2):Fine a o (fun B most=>if c then F B most else G B most) p2 o2:=by
 by_cases h:c
 ·have e:(fun B most=>if c then F B most else G B most)=F:=by funext B most; rw [if_pos h]
  rw [e]; exact hF h
 ·have e:(fun B most=>if c then F B most else G B most)=G:=by funext B most; rw [if_neg h]
  rw [e]; exact hG h
theorem Fine.room (n:Nat) (y:Y) (p2 o2:Y->Nat) (hp:p2 y=a) (ho:o2 y=o+n):Fine a o (fun _ most=>if most - o<n then .error 22 else .ok y) p2 o2:=by
 refine⟨fun B most ha h0 e h=>?_,fun B most ha h0 z h=>?_,fun B most ha h0 z h B' most' _ _ hm=>?_,fun B most ha h0 z h p h1 h2=>?_,fun B most ha h0 z h m h1 h2=>?_⟩
 ·split at h <;> cases h; exact .inr (.inr (.inr rfl))
 ·split at h <;> cases h; omega
 ·split at h <;> cases h
  rw [if_neg (by omega)]
 ·split at h <;> cases h; omega
 ·split at h <;> cases h
  rw [if_pos (by omega)]
theorem Fine.number (b k:Nat) (hb:a<=b):Fine a o (fun B _=>number B b k) (fun r=>r.1) (fun _=>o):=by
 refine⟨fun B most ha h0 e h=>?_,fun B most ha h0 z h=>?_,fun B most ha h0 z h B' most' ht hl hm=>?_,fun B most ha h0 z h p h1 h2=>?_,fun B most ha h0 z h m h1 h2=>?_⟩
 ·exact .inr (.inl (number_err h).1)
 ·obtain⟨rfl,h2⟩:=ZG h;exact⟨by show a<=b+k; omega,h2,Nat.le_refl _,h0⟩
 ·obtain⟨rfl,h2⟩:=ZG h;have c : b+k<=B'.length:=hl;have d : B'.take (b+k)=B.take (b+k):=ht;have e:(B'.drop b).take k=(B.drop b).take k:=by
   rw [List.take_drop,List.take_drop,d]
  show PI.number B' b k=_;unfold PI.number numAt;rw [if_pos c,e]
 ·obtain⟨rfl,g⟩:=ZG h;have f : p<b+k:=h2;show PI.number (B.take p) b k=_;unfold PI.number;rw [if_neg (by rw [List.length_take]; omega)]
 ·omega
theorem next_ext (m:List Nat) (l l' : List Bool) (c s:Nat):∀k n,n+k<=15->n<=l.length->PH.nextFrom m l k n=(c,0,s)->l'.take c=l.take c->c<=l'.length->PH.nextFrom m l' k n=(c,0,s):=by
 intro k;induction k with
 | zero=>intro n _ _ h; simp [PH.nextFrom] at h
 | succ k ih =>
  intro n f g h d i;have b:n+1<=c:=by
   have a:=PH.nextFrom_err m l (k+1) n g (by omega) (.inr trivial);rw [h] at a;rcases a.2.2 with a | a | a
   ·exact a.2
   ·simp at a
   ·simp at a
  have e:=take_less d b;rw [PH.nextFrom] at h ⊢;rw [if_neg (by omega),e];split at h
  ·simp at h
  split at h
  ·rename_i h3; rw [if_pos h3]; exact h
  ·rename_i h2 h3
   rw [if_neg h3];exact ih (n+1) (by omega) (by omega) h d i
theorem next_short (m:List Nat) (l:List Bool) (c s p:Nat):∀k n,n+k<=15->n<=l.length->PH.nextFrom m l k n=(c,0,s)->n<=p->p<c->(PH.nextFrom m (l.take p) k n).2.1=4:=by
 intro k;induction k with
 | zero=>intro n _ _ h; simp [PH.nextFrom] at h
 | succ k ih =>
  intro n b e h f a;rw [PH.nextFrom];by_cases d:p=n
  ·rw [if_pos (by rw [List.length_take]; omega)]
  ·rw [PH.nextFrom] at h;split at h
   ·simp at h
   rename_i h2
   rw [if_neg (by rw [List.length_take]; omega),List.take_take,Nat.min_eq_left (by omega)];split at h
   ·simp only [Prod.mk.injEq] at h; omega
   ·rename_i h3
    rw [if_neg h3];exact ih (n+1) (by omega) (by omega) h (by omega) a
theorem Fine.sign (m:List Nat):Fine a o (fun B _=>PI.sign B m a) (fun r=>r.1) (fun _=>o):=by
 refine⟨fun B most ha h0 e h=>?_,fun B most ha h0 z h=>?_,fun B most ha h0 z h B' most' ht hl hm=>?_,fun B most ha h0 z h p h1 h2=>?_,fun B most ha h0 z h m h1 h2=>?_⟩
 ·rcases sign_err h with h | h
  ·exact .inr (.inl h)
  ·exact .inr (.inr (.inl h))
 ·obtain⟨h1,h2⟩:=sign_ok ha h;exact⟨by show a<=z.1; omega,h2,Nat.le_refl _,h0⟩
 ·obtain⟨t,u⟩:=sign_ok ha h;have g : B'.take z.1=B.take z.1:=ht;have i : z.1<=B'.length:=hl;show PI.sign B' m a=_;have b:PI.sign B m a=.ok z:=h;unfold PI.sign at b;obtain⟨⟨c,k,s⟩,d⟩:∃r,PH.nextFrom m (B.drop a) (mostN m) 0=r:=⟨_,rfl⟩;rw [d] at b;simp only at b;split at b
  ·rename_i h0e
   subst h0e;cases b
   have l:a+c<=B'.length:=i;have j:B'.take (a+c)=B.take (a+c):=g;have e:=next_ext m (B.drop a) (B'.drop a) c s (mostN m) 0 (by have:=mostN_le m; omega) (Nat.zero_le _) d (by rw [List.take_drop,List.take_drop,j]) (by rw [List.length_drop]; omega);unfold PI.sign;rw [e];rfl
  ·cases b
 ·have b:PI.sign B m a=.ok z:=h;have f : p<z.1:=h2;show PI.sign (B.take p) m a=_;unfold PI.sign at b;obtain⟨⟨c,k,s⟩,d⟩:∃r,PH.nextFrom m (B.drop a) (mostN m) 0=r:=⟨_,rfl⟩;rw [d] at b;simp only at b;split at b
  ·rename_i h0e
   subst h0e;cases b
   have n:p<a+c:=f;have e:=next_short m (B.drop a) c s (p - a) (mostN m) 0 (by have:=mostN_le m; omega) (Nat.zero_le _) d (Nat.zero_le _) (by omega);have q:(B.take p).drop a=(B.drop a).take (p - a):=by rw [List.drop_take]
   unfold PI.sign;rw [q,e];rfl
  ·cases b
 ·have f : m<o:=h2;omega
theorem Fine.count (t:List (Nat × Nat)) (s:Nat):Fine a o (fun B _=>PI.count B t s a) (fun r=>r.1) (fun _=>o):=by
 unfold PI.count;refine Fine.ite (fun _=>?_) (fun _=>Fine.error 20 _ _ (.inr (.inr (.inl rfl))));exact Fine.bind (Fine.number a _ (Nat.le_refl _)) fun y=>Fine.ok _ _ _ rfl rfl
theorem Fine.length (s:Nat):Fine a o (fun B _=>PI.length B s a) (fun r=>r.1) (fun _=>o):=by
 unfold PI.length;exact Fine.ite (fun _=>Fine.ok _ _ _ rfl rfl) (fun _=>Fine.count _ _)
theorem Fine.stepP (m d:List Nat) (out:List UInt8) (ho:out.length=o):Fine a o (fun B most=>PI.stepP B most m d a out) (fun r=>r.2.1) (fun r=>r.2.2.length):=by
 subst ho;unfold PI.stepP;refine Fine.bind (Fine.sign m) fun r=>?_;refine Fine.ite (fun _=>Fine.ok _ _ _ rfl rfl) fun _=>?_;refine Fine.ite (fun _=>Fine.room 1 _ _ _ rfl (by simp)) fun _=>?_;refine Fine.bind (Fine.length _) fun n=>?_;refine Fine.bind (Fine.sign d) fun t=>?_;refine Fine.bind (Fine.count _ _) fun k=>?_;refine Fine.ite (fun _=>Fine.error 20 _ _ (.inr (.inr (.inl rfl)))) fun _=>?_;exact Fine.room n.2 _ _ _ rfl (copy_len _ _ _)
theorem Fine.pressedF (m d:List Nat):∀(f a:Nat) (out:List UInt8),Fine a out.length (fun B most=>PI.pressed B most m d f a out) (fun r=>r.1) (fun r=>r.2.length):=by
 intro f;induction f with
 | zero=>intro a out; exact Fine.error 0 _ _ (.inl rfl)
 | succ f ih =>
  intro a out;unfold PI.pressed;refine Fine.bind (Fine.stepP m d out rfl) fun r=>?_;exact Fine.ite (fun _=>Fine.ok _ _ _ rfl rfl) fun _=>ih _ _
theorem Fine.fuel {F:Nat->List Bool->Nat->Except Nat Y} {p2 o2:Y->Nat} (h:∀f,Fine a o (F f) p2 o2)
  (more:∀f g B most,a<=B.length->o<=most->B.length<a+f->B.length<a+g->F f B most=F g B most):Fine a o (fun B most=>F (B.length+1) B most) p2 o2:=by
 refine⟨fun B most ha h0 e k=>(h _).err B most ha h0 e k,fun B most ha h0 z k=>(h _).pos B most ha h0 z k,fun B most ha h0 z k B' most' ht hl hm=>?_,fun B most ha h0 z k p h1 h2=>?_,fun B most ha h0 z k m h1 h2=>(h _).cap B most ha h0 z k m h1 h2⟩
 ·obtain⟨c,d,i,j⟩:=(h _).pos B most ha h0 z k;have l:=more (B.length+1) (B.length+B'.length+1) B most ha h0 (by omega) (by omega);have b:=(h (B.length+B'.length+1)).ext B most ha h0 z (by rw [<- l]; exact k) B' most' ht hl hm;show F (B'.length+1) B' most'=_;rw [more (B'.length+1) (B.length+B'.length+1) B' most' (by omega) (by omega) (by omega) (by omega)];exact b
 ·obtain⟨c,d,i,j⟩:=(h _).pos B most ha h0 z k;have n:(B.take p).length=p:=by rw [List.length_take]; omega
  have b:=(h (B.length+1)).short B most ha h0 z k p h1 h2;show F ((B.take p).length+1) (B.take p) most=_;rw [more ((B.take p).length+1) (B.length+1) (B.take p) most (by omega) h0 (by omega) (by omega)];exact b
theorem Fine.pressed (m d:List Nat) (out:List UInt8) (ho:out.length=o):Fine a o (fun B most=>PI.pressed B most m d (B.length+1) a out) (fun r=>r.1) (fun r=>r.2.length):=by
 subst ho;exact Fine.fuel (F:=fun f B most=>PI.pressed B most m d f a out) (fun f=>Fine.pressedF m d f a out) (fun f g B most h1 _ h2 h3=>pressed_more f g a out h1 h2 h3)
theorem Fine.fill (many:Nat) (acc:List Nat) (v k:Nat):Fine a o (fun _ _=>PI.fill many acc v k a) (fun r=>r.1) (fun _=>o):=by
 unfold PI.fill;exact Fine.ite (fun _=>Fine.error 20 _ _ (.inr (.inr (.inl rfl)))) (fun _=>Fine.ok _ _ _ rfl rfl)
theorem Fine.stepL (m:List Nat) (many:Nat) (acc:List Nat):Fine a o (fun B _=>PI.stepL B m many a acc) (fun r=>r.1) (fun _=>o):=by
 unfold PI.stepL;refine Fine.bind (Fine.sign m) fun r=>?_;refine Fine.ite (fun _=>Fine.ite (fun _=>Fine.error 20 _ _ (.inr (.inr (.inl rfl)))) fun _=>?_) fun _=>?_
 ·exact Fine.bind (Fine.number _ _ (Nat.le_refl _)) fun n=>Fine.fill _ _ _ _
 refine Fine.ite (fun _=>?_) fun _=>?_
 ·exact Fine.bind (Fine.number _ _ (Nat.le_refl _)) fun n=>Fine.fill _ _ _ _
 refine Fine.ite (fun _=>?_) fun _=>Fine.fill _ _ _ _
 ·exact Fine.bind (Fine.number _ _ (Nat.le_refl _)) fun n=>Fine.fill _ _ _ _
theorem Fine.lens (m:List Nat) (many:Nat):∀(f a:Nat) (acc:List Nat),Fine a o (fun B _=>PI.lens B m many f a acc) (fun r=>r.1) (fun _=>o):=by
 intro f;induction f with
 | zero=>intro a acc; exact Fine.error 0 _ _ (.inl rfl)
 | succ f ih =>
  intro a acc;unfold PI.lens;refine Fine.ite (fun _=>?_) fun _=>Fine.ok _ _ _ rfl rfl;exact Fine.bind (Fine.stepL m many acc) fun r=>ih _ _
theorem Fine.firsts:∀(l:List Nat) (a:Nat) (f:List Nat),Fine a o (fun B _=>PI.firsts B l a f) (fun r=>r.1) (fun _=>o):=by
 intro l;induction l with
 | nil=>intro a f; exact Fine.ok _ _ _ rfl rfl
 | cons s l ih =>
  intro a f;unfold PI.firsts;exact Fine.bind (Fine.number _ _ (Nat.le_refl _)) fun r=>ih _ _
theorem Fine.dynamic:Fine a o (fun B _=>PI.dynamic B a) (fun r=>r.1) (fun _=>o):=by
 unfold PI.dynamic;have b:Er 20:=.inr (.inr (.inl rfl));refine Fine.bind (Fine.number _ _ (Nat.le_refl _)) fun l=>?_;refine Fine.bind (Fine.number _ _ (Nat.le_refl _)) fun d=>?_;refine Fine.bind (Fine.number _ _ (Nat.le_refl _)) fun c=>?_;refine Fine.ite (fun _=>Fine.error 20 _ _ b) fun _=>?_;refine Fine.bind (Fine.firsts _ _ _) fun f=>?_;refine Fine.ite (fun _=>?_) fun _=>Fine.error 20 _ _ b;refine Fine.bind (Fine.lens _ _ _ _ _) fun r=>?_;refine Fine.ite (fun _=>Fine.error 20 _ _ b) fun _=>?_;refine Fine.ite (fun _=>?_) fun _=>Fine.error 20 _ _ b;exact Fine.ite (fun _=>Fine.ok _ _ _ rfl rfl) fun _=>Fine.error 20 _ _ b
theorem bytesAt_len (B:List Bool) (a n:Nat):(bytesAt B a n).length=n:=by simp [bytesAt]
theorem bytesAt_ext {B B' : List Bool} {a n:Nat} (h:B'.take (a+8 * n)=B.take (a+8 * n)):bytesAt B' a n=bytesAt B a n:=by
 unfold bytesAt;refine List.map_congr_left fun i hi=>?_;have hi:=List.mem_range.1 hi;have e:=take_less h (p:=a+8 * i+8) (by omega);unfold numAt;rw [List.take_drop,List.take_drop,e]
theorem Fine.laid (n:Nat) (out:List UInt8) (ho:out.length=o):Fine a o (fun B most=>if (B.length - a) / 8<n then (if most - out.length<(B.length - a) / 8 then .error 22 else .error 4) else
  if most - out.length<n then .error 22 else .ok (a+8 * n,out++bytesAt B a n)) (fun r=>r.1) (fun r=>r.2.length):=by
 subst ho;refine⟨fun B most ha h0 e h=>?_,fun B most ha h0 z h=>?_,fun B most ha h0 z h B' most' ht hl hm=>?_,fun B most ha h0 z h p h1 h2=>?_,fun B most ha h0 z h m h1 h2=>?_⟩
 ·skip
  split at h
  ·split at h <;> cases h
   ·exact .inr (.inr (.inr rfl))
   ·exact .inr (.inl rfl)
  ·split at h <;> cases h
   exact .inr (.inr (.inr rfl))
 ·skip
  split at h
  ·split at h <;> cases h
  ·split at h <;> cases h
   simp only [List.length_append,bytesAt_len];omega
 ·skip
  split at h
  ·split at h <;> cases h
  ·split at h <;> cases h
   simp only [List.length_append,bytesAt_len] at hm hl ht;rw [if_neg (by omega),if_neg (by omega),bytesAt_ext ht]
 ·skip
  split at h
  ·split at h <;> cases h
  ·split at h <;> cases h
   simp only at h2;have b:(B.take p).length=p:=by rw [List.length_take]; omega
   rw [b,if_pos (by omega),if_neg (by omega)]
 ·skip
  split at h
  ·split at h <;> cases h
  ·split at h <;> cases h
   simp only [List.length_append,bytesAt_len] at h2;rw [if_neg (by omega),if_pos (by omega)]
theorem Fine.stored (out:List UInt8) (ho:out.length=o):Fine a o (fun B most=>PI.stored B most a out) (fun r=>r.1) (fun r=>r.2.length):=by
 unfold PI.stored;refine Fine.bind (Fine.number _ _ (by omega)) fun n=>?_;refine Fine.bind (Fine.number _ _ (Nat.le_refl _)) fun k=>?_;refine Fine.ite (fun _=>Fine.error 20 _ _ (.inr (.inr (.inl rfl)))) fun _=>?_;exact Fine.laid n.2 out ho
theorem Fine.body (kind:Nat) (out:List UInt8) (ho:out.length=o):Fine a o (fun B most=>PI.body B most kind a out) (fun r=>r.1) (fun r=>r.2.length):=by
 unfold PI.body;refine Fine.ite (fun _=>Fine.stored out ho) fun _=>?_;refine Fine.ite (fun _=>Fine.pressed _ _ out ho) fun _=>?_;refine Fine.ite (fun _=>?_) fun _=>Fine.error 20 _ _ (.inr (.inr (.inl rfl)));exact Fine.bind Fine.dynamic fun r=>Fine.pressed _ _ out ho
theorem Fine.block (out:List UInt8) (ho:out.length=o):Fine a o (fun B most=>PI.block B most a out) (fun r=>r.2.2.1) (fun r=>r.2.2.2.length):=by
 unfold PI.block;refine Fine.bind (Fine.number _ _ (Nat.le_refl _)) fun l=>?_;refine Fine.bind (Fine.number _ _ (Nat.le_refl _)) fun k=>?_;refine Fine.bind (Fine.body _ out ho) fun r=>?_;exact Fine.ok _ _ _ rfl rfl
theorem Fine.blocksF:∀(f a:Nat) (out:List UInt8) (bl:List Blk),Fine a out.length (fun B most=>PI.blocks B most f a out bl) (fun r=>r.1) (fun r=>r.2.1.length):=by
 intro f;induction f with
 | zero=>intro a out bl; exact Fine.error 0 _ _ (.inl rfl)
 | succ f ih =>
  intro a out bl;unfold PI.blocks;refine Fine.bind (Fine.block out rfl) fun r=>?_;exact Fine.ite (fun _=>Fine.ok _ _ _ rfl rfl) fun _=>ih _ _ _
theorem block_ok {B:List Bool} {most a:Nat} {out:List UInt8} {r:Bool × Nat × Nat × List UInt8} (ho:out.length<=most) (h:PI.block B most a out=.ok r):a<r.2.2.1/\r.2.2.1<=B.length/\r.2.2.2.length<=most/\out.length<=r.2.2.2.length:=by
 unfold PI.block at h;obtain⟨l,c,h⟩:=bind_ok h;obtain⟨k,d,h⟩:=bind_ok h;obtain⟨b,e,h⟩:=bind_ok h;obtain⟨rfl,m⟩:=ZG c;obtain⟨rfl,f⟩:=ZG d;obtain⟨n,g,i,j⟩:=(Fine.body (a:=a+1+2) (o:=out.length) (PI.numAt B (a+1) 2) out rfl).pos B most f ho b e;cases h
 exact⟨by show a<b.1; omega,g,j,i⟩
theorem blocks_more {B:List Bool} {most:Nat} : ∀(f g a:Nat) (out:List UInt8) (bl:List Blk),a<=B.length->out.length<=most->B.length<a+f->B.length<a+g->PI.blocks B most f a out bl=PI.blocks B most g a out bl:=by
 intro f;induction f with
 | zero=>intro g a out bl c b d; omega
 | succ f ih =>
  intro g a out bl c b d j;cases g with
  | zero=>omega
  | succ g =>
   rw [PI.blocks,PI.blocks];cases hs:PI.block B most a out with
   | error e=>rfl
   | ok r =>
    obtain⟨k,h,i,l⟩:=block_ok b hs;show(if r.1 then _ else _)=(if r.1 then _ else _);split
    ·rfl
    ·exact ih g _ _ _ h i (by omega) (by omega)
theorem Fine.all:Fine 0 0 (fun B most=>PI.all B most) (fun r=>r.1) (fun r=>r.2.1.length) :=
 Fine.fuel (F:=fun f B most=>PI.blocks B most f 0 [] []) (fun f=>Fine.blocksF f 0 [] []) (fun f g B most h1 h2 h3 h4=>blocks_more f g 0 [] [] h1 h2 h3 h4)
end
end PI
namespace PL
theorem mrg_behind {P Q:List Pk} {y:Pk} (hP:∀x ∈ P,keyP x<=keyP y) (v:List Pk) (hv:∀z ∈ v,keyP y<=keyP z):SS.mrg keyP (P++y::Q) v=P++y::SS.mrg keyP Q v:=by
 induction v generalizing Q with
 | nil=>rfl
 | cons z v ih =>
  have a:=hv z (List.mem_cons_self ..);have b:SS.put keyP (P++y::Q) z=P++y::SS.put keyP Q z:=by
   have h:=SS.put_back (key:=keyP) (s:=P++[y]) (t:=Q) (y:=z) (fun x hx=>by
    rcases List.mem_append.1 hx with hx | hx
    ·exact Int.le_trans (hP x hx) a
    ·rw [List.mem_singleton.1 hx]; exact a)
   simpa using h
  show SS.mrg keyP (SS.put keyP (P++y::Q) z) v=_;rw [b,ih fun x hx=>hv x (List.mem_cons_of_mem _ hx)];rfl
theorem parted {A:List Pk} (hA:SS.Srt keyP A) (y:Pk):∃P Q,A=P++Q/\(∀x ∈ P,keyP x<=keyP y)/\∀x ∈ Q,keyP y<keyP x:=by
 induction A with
 | nil=>exact⟨[],[],rfl,(fun x hx=>by cases hx),(fun x hx=>by cases hx)⟩
 | cons x A ih =>
  have a:=List.pairwise_cons.1 hA;by_cases hx:keyP x<=keyP y
  ·obtain⟨P,Q,e,b,c⟩:=ih a.2;refine⟨x::P,Q,by rw [e]; rfl,fun z hz=>?_,c⟩;rcases List.mem_cons.1 hz with rfl | hz
   ·exact hx
   ·exact b z hz
  ·refine⟨[],x::A,rfl,(fun z hz=>by cases hz),(fun z hz=>?_)⟩;rcases List.mem_cons.1 hz with rfl | hz
   ·omega
   ·have:=a.1 z hz; omega
theorem mrg_take (A B:List Pk) (hA:SS.Srt keyP A) (hB:SS.Srt keyP B) (t:Nat) (ht:t<=A.length+B.length) :
  ∃a b,a+b=t/\a<=A.length/\b<=B.length/\(∀f,wt f ((SS.mrg keyP A B).take t)=wt f (A.take a)+wt f (B.take b))/\(∀p ∈ A.take a,p ∈ (SS.mrg keyP A B).take t)/\∀x y,A[a]?=some x->0<b->B[b - 1]?=some y->y.1<x.1:=by
 induction B generalizing A t with
 | nil=>exact⟨t,0,rfl,by simpa using ht,Nat.zero_le _,fun f=>by simp [SS.mrg,wt],fun p hp=>hp,fun x y _ h _=>by omega⟩
 | cons y B ih =>
  obtain⟨P,Q,rfl,e,g⟩:=parted hA y;have i:=List.pairwise_cons.1 hB;have j:SS.mrg keyP (P++Q) (y::B)=P++y::SS.mrg keyP Q B:=by
   show SS.mrg keyP (SS.put keyP (P++Q) y) B=_;rw [SS.put_at e g];exact mrg_behind e B i.1
  rw [j];by_cases c:t<=P.length
  ·refine⟨t,0,rfl,by rw [List.length_append]; omega,Nat.zero_le _,fun f=>?_,fun p hp=>?_,fun x y _ h _=>by omega⟩
   ·rw [List.take_append_of_le_length c,List.take_append_of_le_length c,List.take_zero]; simp [wt]
   ·rw [List.take_append_of_le_length c] at hp ⊢; exact hp
  ·obtain⟨s,rfl⟩:∃s,t=P.length+(s+1):=⟨t - P.length - 1,by omega⟩;have d:SS.Srt keyP Q:=(List.pairwise_append.1 hA).2.1;obtain⟨a,b,rfl,n,o,k,l,m⟩:=ih Q d i.2 s (by rw [List.length_append,List.length_cons] at ht; omega);refine⟨P.length+a,b+1,by omega,by rw [List.length_append]; omega,by rw [List.length_cons]; omega,fun f=>?_,fun p hp=>?_,fun x z hx _ hz=>?_⟩
   ·rw [List.take_length_add_append,List.take_length_add_append,List.take_succ_cons,List.take_succ_cons,wt_append,wt_append];have:=k f;show wt f P+(f y+wt f _)=wt f P+wt f _+(f y+wt f _);omega
   ·rw [List.take_length_add_append] at hp ⊢;rcases List.mem_append.1 hp with hp | hp
    ·exact List.mem_append_left _ hp
    ·rw [List.take_succ_cons];exact List.mem_append_right _ (List.mem_cons_of_mem _ (l p hp))
   ·rw [List.getElem?_append_right (by omega),show P.length+a - P.length=a by omega] at hx;rw [Nat.add_sub_cancel] at hz;cases b with
    | zero =>
     have:y=z:=by simpa using hz
     subst this;have:=g x (List.mem_of_getElem? hx);unfold keyP at this;omega
    | succ b=>exact m x z hx (by omega) (by simpa using hz)
theorem srt_getD {l:List Pk} (h:SS.Srt keyP l) {i j:Nat} (hij:i<=j) (hj:j<l.length):(l.getD i pk0).1<=(l.getD j pk0).1:=by
 rw [List.getD_eq_getElem?_getD,List.getD_eq_getElem?_getD,List.getElem?_eq_getElem hj,List.getElem?_eq_getElem (show i<l.length by omega)];rcases Nat.lt_or_eq_of_le hij with h2 | rfl
 ·have:=List.pairwise_iff_getElem.1 h i j (by omega) hj h2;unfold keyP at this;show l[i].1<=l[j].1;omega
 ·exact Nat.le_refl _
theorem mem_take_le {l:List Pk} (h:SS.Srt keyP l) {n:Nat} {x:Pk} (hx:x ∈ l.take n) (hn:n<=l.length):0<n/\x.1<=(l.getD (n - 1) pk0).1:=by
 obtain⟨i,a,rfl⟩:=List.getElem_of_mem hx;rw [List.length_take] at a;have:=srt_getD h (i:=i) (j:=n - 1) (by omega) (by omega);refine⟨by omega,?_⟩;rw [List.getElem_take]
 rwa [List.getD_eq_getElem?_getD,List.getElem?_eq_getElem (show i<l.length by omega)] at this
theorem srt_pairsTo {l:List Pk} (h:SS.Srt keyP l) (j:Nat) (hj:j<=l.length / 2):SS.Srt keyP (pairsTo l j):=by
 induction j with
 | zero=>exact List.Pairwise.nil
 | succ j ih =>
  rw [pairsTo_succ];refine List.pairwise_append.2 ⟨ih (by omega),List.pairwise_singleton _ _,fun x hx y hy=>?_⟩;rw [List.mem_singleton.1 hy];unfold pairsTo at hx;obtain⟨i,a,rfl⟩:=List.mem_map.1 hx;have a:=List.mem_range.1 a;have b:=srt_getD h (i:=2 * i) (j:=2 * j) (by omega) (by omega);have c:=srt_getD h (i:=2 * i+1) (j:=2 * j+1) (by omega) (by omega);unfold keyP comb;simp only;omega
theorem take_pairs (l:List Pk) (b:Nat) (hb:b<=l.length / 2):(pairs l).take b=pairsTo l b:=by
 unfold pairs pairsTo;rw [<- List.map_take,List.take_range,Nat.min_eq_left hb]
theorem nxt_of {it:List Pk} (hs:SS.isort keyP it=it) (l:List Pk):nxt it l=SS.mrg keyP it (pairs l):=by
 unfold nxt;rw [SS.isort_app,hs]
theorem srt_lst {it:List Pk} (hs:SS.isort keyP it=it) (i:Nat):SS.Srt keyP (lst it i):=by
 cases i with
 | zero=>rw [<- hs]; exact SS.srt_isort _
 | succ i=>exact SS.srt_isort _
def val:List Nat->Nat
 | []=>0
 | a::us=>a * 2 ^ us.length+val us
theorem cut (it:List Pk) (hs:SS.isort keyP it=it) (i t:Nat) (ht:t<=(lst it i).length) :
  ∃us:List Nat,us.length=i+1/\us.Pairwise (fun x y=>y<=x)/\(∀a ∈ us,a<=it.length)/\val us=t * 2 ^ i/\(∀f:Pk->Nat,(∀a b,f (comb a b)=f a+f b)->wt f ((lst it i).take t)=(us.map fun a=>wt f (it.take a)).sum)/\∀a,us.head?=some a->∀p ∈ it.take a,p ∈ (lst it i).take t:=by
 induction i generalizing t with
 | zero =>
  refine⟨[t],rfl,List.pairwise_singleton _ _,fun a ha=>?_,by simp [val],fun f _=>by simp [lst],fun a ha p hp=>?_⟩
  ·rw [List.mem_singleton.1 ha]; exact ht
  ·injection ha with ha
   subst ha; exact hp
 | succ i ih =>
  have e:=srt_lst hs i;have s:lst it (i+1)=SS.mrg keyP it (pairs (lst it i)):=nxt_of hs _;have hit:SS.Srt keyP it:=srt_lst hs 0;rw [lst_len] at ht;obtain⟨a,b,u,v,j,w,A,B⟩:=mrg_take it (pairs (lst it i)) hit (srt_pairsTo e _ (Nat.le_refl _)) t (by rw [pairs_len]; exact ht);rw [pairs_len] at j;obtain⟨us,k,q,r,C,D,E⟩:=ih (2 * b) (by omega);rw [s];refine⟨a::us,by rw [List.length_cons,k],?_,fun x hx=>?_,?_,fun f hf=>?_,fun x hx p hp=>?_⟩
  ·have l:∀x,us.head?=some x->x<=a:=fun x hx=>by
    rcases Nat.lt_or_ge a x with hlt | h
    ·have F:x<=it.length:=r x (List.mem_of_mem_head? hx);have g:a<it.length:=by omega
     have m:it[a] ∈ it.take x:=by
      refine List.mem_of_getElem? (i:=a) ?_;rw [List.getElem?_take_of_lt hlt,List.getElem?_eq_getElem g]
     have I:=mem_take_le e (E x hx _ m) (by omega);have n:0<b:=by omega
     have o:(pairs (lst it i))[b - 1]?=some (comb ((lst it i).getD (2 * (b - 1)) pk0) ((lst it i).getD (2 * (b - 1)+1) pk0)):=by
      unfold pairs pairsTo;rw [List.getElem?_map,List.getElem?_range (by omega)]; rfl
     have d:=B _ _ (List.getElem?_eq_getElem g) n o;rw [show 2 * (b - 1)+1=2 * b - 1 by omega] at d;unfold comb at d;simp only at d;omega
    ·exact h
   cases us with
   | nil=>simp at k
   | cons c cs =>
    have G:=l c rfl;have H:=List.pairwise_cons.1 q;refine List.pairwise_cons.2 ⟨fun z hz=>?_,q⟩;rcases List.mem_cons.1 hz with rfl | hz
    ·exact G
    ·have:=H.1 z hz; omega
  ·rcases List.mem_cons.1 hx with rfl | hx
   ·exact v
   ·exact r x hx
  ·show a * 2 ^ us.length+val us=t * 2 ^ (i+1);rw [k,C,<- u,Nat.add_mul,Nat.pow_succ];have:2 * b * 2 ^ i=b * (2 ^ i * 2):=by rw [Nat.mul_comm 2 b,Nat.mul_assoc,Nat.mul_comm 2]
   omega
  ·rw [w f,take_pairs _ _ j,wt_pairsTo f hf _ _ j,D f hf];rfl
  ·injection hx with hx
   subst hx;exact A p hp
def ranks (us:List Nat) (r:Nat):Nat:=us.countP fun a=>decide (r<a)
def gain:List Nat->Nat->Nat
 | [],_=>0
 | a::us,r=>(if r<a then 2 ^ us.length else 0)+gain us r
theorem gain_zero {us:List Nat} {r:Nat} (h:∀a ∈ us,a<=r):gain us r=0/\ranks us r=0:=by
 induction us with
 | nil=>exact⟨rfl,rfl⟩
 | cons a us ih =>
  obtain⟨c,b⟩:=ih fun x hx=>h x (List.mem_cons_of_mem _ hx);have:=h a (List.mem_cons_self ..);constructor
  ·show(if r<a then _ else 0)+gain us r=0;rw [if_neg (by omega),c]
  ·unfold ranks at b ⊢;rw [List.countP_cons_of_neg (by simp; omega),b]
theorem ranks_le (us:List Nat) (r:Nat):ranks us r<=us.length:=List.countP_le_length
theorem gain_rank {us:List Nat} (h:us.Pairwise fun x y=>y<=x) (r:Nat):gain us r+2 ^ (us.length - ranks us r)=2 ^ us.length:=by
 induction us with
 | nil=>rfl
 | cons a us ih =>
  have c:=List.pairwise_cons.1 h;by_cases d:r<a
  ·have e:=ih c.2;have b:ranks (a::us) r=ranks us r+1:=by unfold ranks; rw [List.countP_cons_of_pos (by simpa using d)]
   show(if r<a then 2 ^ us.length else 0)+gain us r+2 ^ (us.length+1 - ranks (a::us) r)=2 ^ (us.length+1);rw [if_pos d,b,Nat.add_sub_add_right,Nat.pow_succ];omega
  ·obtain⟨e,b⟩:=gain_zero (us:=a::us) (r:=r) (fun x hx=>by
    rcases List.mem_cons.1 hx with rfl | hx
    ·omega
    ·have:=c.1 x hx; omega)
   rw [e,b]; simp
theorem sum_add {α:Type} (l:List α) (f g:α->Nat):(l.map fun x=>f x+g x).sum=(l.map f).sum+(l.map g).sum:=by
 induction l with
 | nil=>rfl
 | cons x l ih=>simp only [List.map_cons,List.sum_cons,ih]; omega
theorem sum_const {α:Type} (l:List α) (c:Nat):(l.map fun _=>c).sum=l.length * c:=by
 induction l with
 | nil=>simp
 | cons x l ih=>rw [List.map_cons,List.sum_cons,ih,List.length_cons,Nat.succ_mul]; omega
theorem sum_below (k a c:Nat) (h:a<=k):((List.range k).map fun r=>if r<a then c else 0).sum=a * c:=by
 induction k with
 | zero =>
  obtain rfl:a=0:=by omega
  simp
 | succ k ih =>
  rw [List.range_succ,List.map_append,List.sum_append];rcases Nat.lt_or_ge k a with h1 | h1
  ·obtain rfl:a=k+1:=by omega
   have:((List.range k).map fun r=>if r<k+1 then c else 0)=(List.range k).map fun r=>if r<k then c else 0:=List.map_congr_left fun r hr=>by
    have:=List.mem_range.1 hr;rw [if_pos (by omega),if_pos this]
   rw [this];have b:((List.range k).map fun r=>if r<k then c else 0).sum=k * c:=by
    clear ih h h1 this;have:((List.range k).map fun r=>if r<k then c else 0)=(List.range k).map fun _=>c:=List.map_congr_left fun r hr=>by rw [if_pos (List.mem_range.1 hr)]
    rw [this,sum_const,List.length_range]
   rw [b];simp [Nat.succ_mul]
  ·rw [ih h1]; simp; omega
theorem gain_val {us:List Nat} {k:Nat} (h:∀a ∈ us,a<=k):((List.range k).map (gain us)).sum=val us:=by
 induction us with
 | nil =>
  show((List.range k).map fun _=>0).sum=0;rw [sum_const,Nat.mul_zero]
 | cons a us ih =>
  show((List.range k).map fun r=>(if r<a then 2 ^ us.length else 0)+gain us r).sum=a * 2 ^ us.length+val us;rw [sum_add,sum_below _ _ _ (h a (List.mem_cons_self ..)),ih fun x hx=>h x (List.mem_cons_of_mem _ hx)]
theorem val_le {us:List Nat} {c:Nat} (h:∀a ∈ us,a<=c):val us+c<=c * 2 ^ us.length:=by
 induction us with
 | nil=>simp [val]
 | cons a us ih =>
  have d:=ih fun x hx=>h x (List.mem_cons_of_mem _ hx);have b:=h a (List.mem_cons_self ..);show a * 2 ^ us.length+val us+c<=c * 2 ^ (us.length+1);have e:a * 2 ^ us.length<=c * 2 ^ us.length:=Nat.mul_le_mul_right _ b;rw [Nat.pow_succ,<- Nat.mul_assoc];omega
theorem kraft {us:List Nat} {k m:Nat} (hm:us.length=m+1) (hc:us.Pairwise fun x y=>y<=x) (hk:∀a ∈ us,a<=k) (h2:2<=k) (hv:val us=(2 * k - 2) * 2 ^ m) :
  ((List.range k).map fun r=>2 ^ (m+1 - ranks us r)).sum=2 ^ (m+1)/\∀r,r<k->1<=ranks us r:=by
 constructor
 ·have c:=gain_val hk;have b:=sum_add (List.range k) (gain us) (fun r=>2 ^ (m+1 - ranks us r));have e:((List.range k).map fun r=>gain us r+2 ^ (m+1 - ranks us r))=(List.range k).map fun _=>2 ^ (m+1):=List.map_congr_left fun r _=>by
   have:=gain_rank hc r;rw [hm] at this;exact this
  have f:((List.range k).map fun _=>2 ^ (m+1)).sum=k * 2 ^ (m+1):=by rw [sum_const,List.length_range]
  rw [e,f,c,hv] at b;obtain⟨q,rfl⟩:∃q,k=q+1:=⟨k - 1,by omega⟩;have d:(2 * (q+1) - 2) * 2 ^ m=q * 2 ^ (m+1):=by
   rw [show 2 * (q+1) - 2=q * 2 by omega,Nat.mul_assoc,Nat.mul_comm 2,<- Nat.pow_succ]
  rw [d,Nat.succ_mul] at b;omega
 ·intro r i;cases us with
  | nil=>simp at hm
  | cons a us =>
   have g:a=k:=by
    have j:=hk a (List.mem_cons_self ..);rcases Nat.lt_or_ge a k with h | h
    ·exfalso;have c:∀x ∈ a::us,x<=k - 1:=fun x hx=>by
      rcases List.mem_cons.1 hx with rfl | hx
      ·omega
      ·have:=(List.pairwise_cons.1 hc).1 x hx; omega
     have b:=val_le c;rw [hv,hm] at b;have d:(2 * k - 2) * 2 ^ m=(k - 1) * 2 ^ (m+1):=by
      rw [show 2 * k - 2=(k - 1) * 2 by omega,Nat.mul_assoc,Nat.mul_comm 2,<- Nat.pow_succ]
     omega
    ·omega
   unfold ranks;rw [List.countP_cons_of_pos (by simp; omega)];omega
end PL
end Go.Proofs.YteajimobgkempaaGreatDoor

