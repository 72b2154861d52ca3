/- A pack of texts: InfFine HuffMin HuffMinB HuffWord HuffWordB. -/
import Derived.Test.YtloijdbkikccgaaDoorPk10
import Derived.Test.YtloijdbkikccgaaDoorPk11
namespace Go.Proofs.YtloijdbkikccgaaDoor
set_option linter.unusedVariables false
set_option linter.unusedSimpArgs false
namespace PI
def Er (e:Nat):Prop:=e=0∨e=4∨e=20∨e=22
structure Fine {Y:Type} (a o:Nat) (F:List Bool->Nat->Except Nat Y) (ps ol:Y->Nat):Prop where
 err:∀B most,a<=B.length->o<=most->∀e,F B most=.error e->Er e
 pos:∀B most,a<=B.length->o<=most->∀y,F B most=.ok y->a<=ps y/\ps y<=B.length/\o<=ol y/\ol y<=most
 ext:∀B most,a<=B.length->o<=most->∀y,F B most=.ok y->∀B' most',B'.take (ps y)=B.take (ps y)->ps y<=B'.length->ol y<=most'->F B' most'=.ok y
 short:∀B most,a<=B.length->o<=most->∀y,F B most=.ok y->∀p,a<=p->p<ps y->F (B.take p) most=.error 4
 cap:∀B most,a<=B.length->o<=most->∀y,F B most=.ok y->∀most',o<=most'->most' < ol y->F B most'=.error 22
section
variable {Y Z:Type} {a o:Nat}
theorem take_less {B B' : List Bool} {p q:Nat} (h:B'.take q=B.take q) (hp:p<=q):B'.take p=B.take p:=by
 have e1:B'.take p=(B'.take q).take p:=by rw [List.take_take,Nat.min_eq_left hp]
 have e2:B.take p=(B.take q).take p:=by rw [List.take_take,Nat.min_eq_left hp]
 rw [e1,e2,h]
theorem Fine.bind {F:List Bool->Nat->Except Nat Y} {G:Y->List Bool->Nat->Except Nat Z} {p1 o1:Y->Nat} {p2 o2:Z->Nat} (hF:Fine a o F p1 o1) (hG:∀y,Fine (p1 y) (o1 y) (G y) p2 o2) :
  Fine a o (fun B most=>(F B most).bind fun y=>G y B most) p2 o2:=by
 refine⟨fun B most ha ho e h=>?_,fun B most ha ho z h=>?_,fun B most ha ho z h B' most' ht hl hm=>?_,fun B most ha ho z h p hap hp=>?_,fun B most ha ho z h most' hm hm2=>?_⟩
 ·cases hf:F B most with
  | error e' =>
   simp only [hf] at h
   cases h
   exact hF.err B most ha ho _ hf
  | ok y =>
   simp only [hf] at h
   obtain⟨q1,q2,q3,q4⟩:=hF.pos B most ha ho y hf
   exact(hG y).err B most q2 q4 e h
 ·obtain⟨y,hf,h⟩:=bind_ok h
  obtain⟨q1,q2,q3,q4⟩:=hF.pos B most ha ho y hf
  obtain⟨r1,r2,r3,r4⟩:=(hG y).pos B most q2 q4 z h
  exact⟨by omega,r2,by omega,r4⟩
 ·obtain⟨y,hf,h⟩:=bind_ok h
  obtain⟨q1,q2,q3,q4⟩:=hF.pos B most ha ho y hf
  obtain⟨r1,r2,r3,r4⟩:=(hG y).pos B most q2 q4 z h
  have e1:=hF.ext B most ha ho y hf B' most' (take_less ht r1) (by omega) (by omega)
  show(F B' most').bind _=_
  rw [e1]
  exact(hG y).ext B most q2 q4 z h B' most' ht hl hm
 ·obtain⟨y,hf,h⟩:=bind_ok h
  obtain⟨q1,q2,q3,q4⟩:=hF.pos B most ha ho y hf
  obtain⟨r1,r2,r3,r4⟩:=(hG y).pos B most q2 q4 z h
  show(F (B.take p) most).bind _=_
  by_cases hpy:p<p1 y
  ·rw [hF.short B most ha ho y hf p hap hpy]; rfl
  ·have e1:=hF.ext B most ha ho y hf (B.take p) most (by rw [List.take_take,Nat.min_eq_left (by omega)]) (by rw [List.length_take]; omega) q4
   rw [e1]
   exact(hG y).short B most q2 q4 z h p (by omega) hp
 ·obtain⟨y,hf,h⟩:=bind_ok h
  obtain⟨q1,q2,q3,q4⟩:=hF.pos B most ha ho y hf
  show(F B most').bind _=_
  by_cases hmy:most' < o1 y
  ·rw [hF.cap B most ha ho y hf most' hm hmy]; rfl
  ·have e1:=hF.ext B most ha ho y hf B most' rfl q2 (by omega)
   rw [e1]
   exact(hG y).cap B most q2 q4 z h most' (by omega) hm2
theorem Fine.ok (y:Y) (p2 o2:Y->Nat) (hp:p2 y=a) (ho:o2 y=o):Fine a o (fun _ _=>.ok y) p2 o2 :=
 ⟨fun _ _ _ _ _ h=>(by cases h),fun B most ha hb z h=>by cases h; omega,fun B most ha hb z h B' most' _ _ _=>h,fun B most ha hb z h p h1 h2=>by cases h; omega,fun B most ha hb z h m h1 h2=>by cases h; omega⟩
theorem Fine.error (e:Nat) (p2 o2:Y->Nat) (he:Er e):Fine a o (fun _ _=>(.error e:Except Nat Y)) p2 o2 :=
 ⟨fun _ _ _ _ _ h=>(by cases h; exact he),fun _ _ _ _ z h=>(by cases h),fun _ _ _ _ z h=>(by cases h),fun _ _ _ _ z h=>(by cases h),fun _ _ _ _ z h=>(by cases h)⟩
theorem Fine.ite {c:Prop} [Decidable c] {F G:List Bool->Nat->Except Nat Y} {p2 o2:Y->Nat} (hF:c->Fine a o F p2 o2) (hG:¬ c->Fine a o G p2 o2):Fine a o (fun B most=>if c then F B most else G B most) p2 o2:=by
 by_cases h:c
 ·have e:(fun B most=>if c then F B most else G B most)=F:=by funext B most; rw [if_pos h]
  rw [e]; exact hF h
 ·have e:(fun B most=>if c then F B most else G B most)=G:=by funext B most; rw [if_neg h]
  rw [e]; exact hG h
theorem Fine.room (n:Nat) (y:Y) (p2 o2:Y->Nat) (hp:p2 y=a) (ho:o2 y=o+n):Fine a o (fun _ most=>if most - o<n then .error 22 else .ok y) p2 o2:=by
 refine⟨fun B most ha h0 e h=>?_,fun B most ha h0 z h=>?_,fun B most ha h0 z h B' most' _ _ hm=>?_,fun B most ha h0 z h p h1 h2=>?_,fun B most ha h0 z h m h1 h2=>?_⟩
 ·split at h <;> cases h; exact .inr (.inr (.inr rfl))
 ·split at h <;> cases h; omega
 ·split at h <;> cases h
  rw [if_neg (by omega)]
 ·split at h <;> cases h; omega
 ·split at h <;> cases h
  rw [if_pos (by omega)]
theorem Fine.number (b k:Nat) (hb:a<=b):Fine a o (fun B _=>number B b k) (fun r=>r.1) (fun _=>o):=by
 refine⟨fun B most ha h0 e h=>?_,fun B most ha h0 z h=>?_,fun B most ha h0 z h B' most' ht hl hm=>?_,fun B most ha h0 z h p h1 h2=>?_,fun B most ha h0 z h m h1 h2=>?_⟩
 ·exact .inr (.inl (number_err h).1)
 ·obtain⟨rfl,h2⟩:=number_ok h
  exact⟨by show a<=b+k; omega,h2,Nat.le_refl _,h0⟩
 ·obtain⟨rfl,h2⟩:=number_ok h
  have hl' : b+k<=B'.length:=hl
  have ht' : B'.take (b+k)=B.take (b+k):=ht
  have e:(B'.drop b).take k=(B.drop b).take k:=by
   rw [List.take_drop,List.take_drop,ht']
  show PI.number B' b k=_
  unfold PI.number numAt
  rw [if_pos hl',e]
 ·obtain⟨rfl,h3⟩:=number_ok h
  have h2' : p<b+k:=h2
  show PI.number (B.take p) b k=_
  unfold PI.number
  rw [if_neg (by rw [List.length_take]; omega)]
 ·omega
theorem next_ext (m:List Nat) (l l' : List Bool) (c s:Nat):∀k n,n+k<=15->n<=l.length->PH.nextFrom m l k n=(c,0,s)->l'.take c=l.take c->c<=l'.length->PH.nextFrom m l' k n=(c,0,s):=by
 intro k
 induction k with
 | zero=>intro n _ _ h; simp [PH.nextFrom] at h
 | succ k ih =>
  intro n h15 hn h ht hc
  have hc1:n+1<=c:=by
   have h9:=PH.nextFrom_err m l (k+1) n hn (by omega) (.inr trivial)
   rw [h] at h9
   rcases h9.2.2 with h9 | h9 | h9
   ·exact h9.2
   ·simp at h9
   ·simp at h9
  have e:=take_less ht hc1
  rw [PH.nextFrom] at h ⊢
  rw [if_neg (by omega),e]
  split at h
  ·simp at h
  split at h
  ·rename_i h3; rw [if_pos h3]; exact h
  ·rename_i h2 h3
   rw [if_neg h3]
   exact ih (n+1) (by omega) (by omega) h ht hc
theorem next_short (m:List Nat) (l:List Bool) (c s p:Nat):∀k n,n+k<=15->n<=l.length->PH.nextFrom m l k n=(c,0,s)->n<=p->p<c->(PH.nextFrom m (l.take p) k n).2.1=4:=by
 intro k
 induction k with
 | zero=>intro n _ _ h; simp [PH.nextFrom] at h
 | succ k ih =>
  intro n h15 hn h hp hpc
  rw [PH.nextFrom]
  by_cases hpn:p=n
  ·rw [if_pos (by rw [List.length_take]; omega)]
  ·rw [PH.nextFrom] at h
   split at h
   ·simp at h
   rename_i h2
   rw [if_neg (by rw [List.length_take]; omega),List.take_take,Nat.min_eq_left (by omega)]
   split at h
   ·simp only [Prod.mk.injEq] at h; omega
   ·rename_i h3
    rw [if_neg h3]
    exact ih (n+1) (by omega) (by omega) h (by omega) hpc
theorem Fine.sign (m:List Nat):Fine a o (fun B _=>PI.sign B m a) (fun r=>r.1) (fun _=>o):=by
 refine⟨fun B most ha h0 e h=>?_,fun B most ha h0 z h=>?_,fun B most ha h0 z h B' most' ht hl hm=>?_,fun B most ha h0 z h p h1 h2=>?_,fun B most ha h0 z h m h1 h2=>?_⟩
 ·rcases sign_err h with h | h
  ·exact .inr (.inl h)
  ·exact .inr (.inr (.inl h))
 ·obtain⟨h1,h2⟩:=sign_ok ha h
  exact⟨by show a<=z.1; omega,h2,Nat.le_refl _,h0⟩
 ·obtain⟨h3,h4⟩:=sign_ok ha h
  have ht' : B'.take z.1=B.take z.1:=ht
  have hl' : z.1<=B'.length:=hl
  show PI.sign B' m a=_
  have h5:PI.sign B m a=.ok z:=h
  unfold PI.sign at h5
  obtain⟨⟨c,ee,s⟩,hr⟩:∃r,PH.nextFrom m (B.drop a) (mostN m) 0=r:=⟨_,rfl⟩
  rw [hr] at h5
  simp only at h5
  split at h5
  ·rename_i h0e
   subst h0e
   cases h5
   have hl2:a+c<=B'.length:=hl'
   have ht2:B'.take (a+c)=B.take (a+c):=ht'
   have e:=next_ext m (B.drop a) (B'.drop a) c s (mostN m) 0 (by have:=mostN_le m; omega) (Nat.zero_le _) hr (by rw [List.take_drop,List.take_drop,ht2]) (by rw [List.length_drop]; omega)
   unfold PI.sign
   rw [e]
   rfl
  ·cases h5
 ·have h5:PI.sign B m a=.ok z:=h
  have h2' : p<z.1:=h2
  show PI.sign (B.take p) m a=_
  unfold PI.sign at h5
  obtain⟨⟨c,ee,s⟩,hr⟩:∃r,PH.nextFrom m (B.drop a) (mostN m) 0=r:=⟨_,rfl⟩
  rw [hr] at h5
  simp only at h5
  split at h5
  ·rename_i h0e
   subst h0e
   cases h5
   have h2q:p<a+c:=h2'
   have e:=next_short m (B.drop a) c s (p - a) (mostN m) 0 (by have:=mostN_le m; omega) (Nat.zero_le _) hr (Nat.zero_le _) (by omega)
   have e2:(B.take p).drop a=(B.drop a).take (p - a):=by rw [List.drop_take]
   unfold PI.sign
   rw [e2,e]
   rfl
  ·cases h5
 ·have h2' : m<o:=h2
  omega
theorem Fine.count (t:List (Nat × Nat)) (s:Nat):Fine a o (fun B _=>PI.count B t s a) (fun r=>r.1) (fun _=>o):=by
 unfold PI.count
 refine Fine.ite (fun _=>?_) (fun _=>Fine.error 20 _ _ (.inr (.inr (.inl rfl))))
 exact Fine.bind (Fine.number a _ (Nat.le_refl _)) fun y=>Fine.ok _ _ _ rfl rfl
theorem Fine.length (s:Nat):Fine a o (fun B _=>PI.length B s a) (fun r=>r.1) (fun _=>o):=by
 unfold PI.length
 exact Fine.ite (fun _=>Fine.ok _ _ _ rfl rfl) (fun _=>Fine.count _ _)
theorem Fine.stepP (m d:List Nat) (out:List UInt8) (ho:out.length=o):Fine a o (fun B most=>PI.stepP B most m d a out) (fun r=>r.2.1) (fun r=>r.2.2.length):=by
 subst ho
 unfold PI.stepP
 refine Fine.bind (Fine.sign m) fun r=>?_
 refine Fine.ite (fun _=>Fine.ok _ _ _ rfl rfl) fun _=>?_
 refine Fine.ite (fun _=>Fine.room 1 _ _ _ rfl (by simp)) fun _=>?_
 refine Fine.bind (Fine.length _) fun n=>?_
 refine Fine.bind (Fine.sign d) fun t=>?_
 refine Fine.bind (Fine.count _ _) fun k=>?_
 refine Fine.ite (fun _=>Fine.error 20 _ _ (.inr (.inr (.inl rfl)))) fun _=>?_
 exact Fine.room n.2 _ _ _ rfl (copy_len _ _ _)
theorem Fine.pressedF (m d:List Nat):∀(f a:Nat) (out:List UInt8),Fine a out.length (fun B most=>PI.pressed B most m d f a out) (fun r=>r.1) (fun r=>r.2.length):=by
 intro f
 induction f with
 | zero=>intro a out; exact Fine.error 0 _ _ (.inl rfl)
 | succ f ih =>
  intro a out
  unfold PI.pressed
  refine Fine.bind (Fine.stepP m d out rfl) fun r=>?_
  exact Fine.ite (fun _=>Fine.ok _ _ _ rfl rfl) fun _=>ih _ _
theorem Fine.fuel {F:Nat->List Bool->Nat->Except Nat Y} {p2 o2:Y->Nat} (h:∀f,Fine a o (F f) p2 o2)
  (more:∀f g B most,a<=B.length->o<=most->B.length<a+f->B.length<a+g->F f B most=F g B most):Fine a o (fun B most=>F (B.length+1) B most) p2 o2:=by
 refine⟨fun B most ha h0 e k=>(h _).err B most ha h0 e k,fun B most ha h0 z k=>(h _).pos B most ha h0 z k,fun B most ha h0 z k B' most' ht hl hm=>?_,fun B most ha h0 z k p h1 h2=>?_,fun B most ha h0 z k m h1 h2=>(h _).cap B most ha h0 z k m h1 h2⟩
 ·obtain⟨q1,q2,q3,q4⟩:=(h _).pos B most ha h0 z k
  have e1:=more (B.length+1) (B.length+B'.length+1) B most ha h0 (by omega) (by omega)
  have e2:=(h (B.length+B'.length+1)).ext B most ha h0 z (by rw [<- e1]; exact k) B' most' ht hl hm
  show F (B'.length+1) B' most'=_
  rw [more (B'.length+1) (B.length+B'.length+1) B' most' (by omega) (by omega) (by omega) (by omega)]
  exact e2
 ·obtain⟨q1,q2,q3,q4⟩:=(h _).pos B most ha h0 z k
  have hlp:(B.take p).length=p:=by rw [List.length_take]; omega
  have e2:=(h (B.length+1)).short B most ha h0 z k p h1 h2
  show F ((B.take p).length+1) (B.take p) most=_
  rw [more ((B.take p).length+1) (B.length+1) (B.take p) most (by omega) h0 (by omega) (by omega)]
  exact e2
theorem Fine.pressed (m d:List Nat) (out:List UInt8) (ho:out.length=o):Fine a o (fun B most=>PI.pressed B most m d (B.length+1) a out) (fun r=>r.1) (fun r=>r.2.length):=by
 subst ho
 exact Fine.fuel (F:=fun f B most=>PI.pressed B most m d f a out) (fun f=>Fine.pressedF m d f a out) (fun f g B most h1 _ h2 h3=>pressed_more f g a out h1 h2 h3)
theorem Fine.fill (many:Nat) (acc:List Nat) (v k:Nat):Fine a o (fun _ _=>PI.fill many acc v k a) (fun r=>r.1) (fun _=>o):=by
 unfold PI.fill
 exact Fine.ite (fun _=>Fine.error 20 _ _ (.inr (.inr (.inl rfl)))) (fun _=>Fine.ok _ _ _ rfl rfl)
theorem Fine.stepL (m:List Nat) (many:Nat) (acc:List Nat):Fine a o (fun B _=>PI.stepL B m many a acc) (fun r=>r.1) (fun _=>o):=by
 unfold PI.stepL
 refine Fine.bind (Fine.sign m) fun r=>?_
 refine Fine.ite (fun _=>Fine.ite (fun _=>Fine.error 20 _ _ (.inr (.inr (.inl rfl)))) fun _=>?_) fun _=>?_
 ·exact Fine.bind (Fine.number _ _ (Nat.le_refl _)) fun n=>Fine.fill _ _ _ _
 refine Fine.ite (fun _=>?_) fun _=>?_
 ·exact Fine.bind (Fine.number _ _ (Nat.le_refl _)) fun n=>Fine.fill _ _ _ _
 refine Fine.ite (fun _=>?_) fun _=>Fine.fill _ _ _ _
 ·exact Fine.bind (Fine.number _ _ (Nat.le_refl _)) fun n=>Fine.fill _ _ _ _
theorem Fine.lens (m:List Nat) (many:Nat):∀(f a:Nat) (acc:List Nat),Fine a o (fun B _=>PI.lens B m many f a acc) (fun r=>r.1) (fun _=>o):=by
 intro f
 induction f with
 | zero=>intro a acc; exact Fine.error 0 _ _ (.inl rfl)
 | succ f ih =>
  intro a acc
  unfold PI.lens
  refine Fine.ite (fun _=>?_) fun _=>Fine.ok _ _ _ rfl rfl
  exact Fine.bind (Fine.stepL m many acc) fun r=>ih _ _
theorem Fine.firsts:∀(l:List Nat) (a:Nat) (f:List Nat),Fine a o (fun B _=>PI.firsts B l a f) (fun r=>r.1) (fun _=>o):=by
 intro l
 induction l with
 | nil=>intro a f; exact Fine.ok _ _ _ rfl rfl
 | cons s l ih =>
  intro a f
  unfold PI.firsts
  exact Fine.bind (Fine.number _ _ (Nat.le_refl _)) fun r=>ih _ _
theorem Fine.dynamic:Fine a o (fun B _=>PI.dynamic B a) (fun r=>r.1) (fun _=>o):=by
 unfold PI.dynamic
 have e20:Er 20:=.inr (.inr (.inl rfl))
 refine Fine.bind (Fine.number _ _ (Nat.le_refl _)) fun l=>?_
 refine Fine.bind (Fine.number _ _ (Nat.le_refl _)) fun d=>?_
 refine Fine.bind (Fine.number _ _ (Nat.le_refl _)) fun c=>?_
 refine Fine.ite (fun _=>Fine.error 20 _ _ e20) fun _=>?_
 refine Fine.bind (Fine.firsts _ _ _) fun f=>?_
 refine Fine.ite (fun _=>?_) fun _=>Fine.error 20 _ _ e20
 refine Fine.bind (Fine.lens _ _ _ _ _) fun r=>?_
 refine Fine.ite (fun _=>Fine.error 20 _ _ e20) fun _=>?_
 refine Fine.ite (fun _=>?_) fun _=>Fine.error 20 _ _ e20
 exact Fine.ite (fun _=>Fine.ok _ _ _ rfl rfl) fun _=>Fine.error 20 _ _ e20
theorem bytesAt_len (B:List Bool) (a n:Nat):(bytesAt B a n).length=n:=by simp [bytesAt]
theorem bytesAt_ext {B B' : List Bool} {a n:Nat} (h:B'.take (a+8 * n)=B.take (a+8 * n)):bytesAt B' a n=bytesAt B a n:=by
 unfold bytesAt
 refine List.map_congr_left fun i hi=>?_
 have hi:=List.mem_range.1 hi
 have e:=take_less h (p:=a+8 * i+8) (by omega)
 unfold numAt
 rw [List.take_drop,List.take_drop,e]
theorem Fine.laid (n:Nat) (out:List UInt8) (ho:out.length=o):Fine a o (fun B most=>if (B.length - a) / 8<n then (if most - out.length<(B.length - a) / 8 then .error 22 else .error 4) else
  if most - out.length<n then .error 22 else .ok (a+8 * n,out++bytesAt B a n)) (fun r=>r.1) (fun r=>r.2.length):=by
 subst ho
 refine⟨fun B most ha h0 e h=>?_,fun B most ha h0 z h=>?_,fun B most ha h0 z h B' most' ht hl hm=>?_,fun B most ha h0 z h p h1 h2=>?_,fun B most ha h0 z h m h1 h2=>?_⟩
 ·skip
  split at h
  ·split at h <;> cases h
   ·exact .inr (.inr (.inr rfl))
   ·exact .inr (.inl rfl)
  ·split at h <;> cases h
   exact .inr (.inr (.inr rfl))
 ·skip
  split at h
  ·split at h <;> cases h
  ·split at h <;> cases h
   simp only [List.length_append,bytesAt_len]
   omega
 ·skip
  split at h
  ·split at h <;> cases h
  ·split at h <;> cases h
   simp only [List.length_append,bytesAt_len] at hm hl ht
   rw [if_neg (by omega),if_neg (by omega),bytesAt_ext ht]
 ·skip
  split at h
  ·split at h <;> cases h
  ·split at h <;> cases h
   simp only at h2
   have hlp:(B.take p).length=p:=by rw [List.length_take]; omega
   rw [hlp,if_pos (by omega),if_neg (by omega)]
 ·skip
  split at h
  ·split at h <;> cases h
  ·split at h <;> cases h
   simp only [List.length_append,bytesAt_len] at h2
   rw [if_neg (by omega),if_pos (by omega)]
theorem Fine.stored (out:List UInt8) (ho:out.length=o):Fine a o (fun B most=>PI.stored B most a out) (fun r=>r.1) (fun r=>r.2.length):=by
 unfold PI.stored
 refine Fine.bind (Fine.number _ _ (by omega)) fun n=>?_
 refine Fine.bind (Fine.number _ _ (Nat.le_refl _)) fun k=>?_
 refine Fine.ite (fun _=>Fine.error 20 _ _ (.inr (.inr (.inl rfl)))) fun _=>?_
 exact Fine.laid n.2 out ho
theorem Fine.body (kind:Nat) (out:List UInt8) (ho:out.length=o):Fine a o (fun B most=>PI.body B most kind a out) (fun r=>r.1) (fun r=>r.2.length):=by
 unfold PI.body
 refine Fine.ite (fun _=>Fine.stored out ho) fun _=>?_
 refine Fine.ite (fun _=>Fine.pressed _ _ out ho) fun _=>?_
 refine Fine.ite (fun _=>?_) fun _=>Fine.error 20 _ _ (.inr (.inr (.inl rfl)))
 exact Fine.bind Fine.dynamic fun r=>Fine.pressed _ _ out ho
theorem Fine.block (out:List UInt8) (ho:out.length=o):Fine a o (fun B most=>PI.block B most a out) (fun r=>r.2.2.1) (fun r=>r.2.2.2.length):=by
 unfold PI.block
 refine Fine.bind (Fine.number _ _ (Nat.le_refl _)) fun l=>?_
 refine Fine.bind (Fine.number _ _ (Nat.le_refl _)) fun k=>?_
 refine Fine.bind (Fine.body _ out ho) fun r=>?_
 exact Fine.ok _ _ _ rfl rfl
theorem Fine.blocksF:∀(f a:Nat) (out:List UInt8) (bl:List Blk),Fine a out.length (fun B most=>PI.blocks B most f a out bl) (fun r=>r.1) (fun r=>r.2.1.length):=by
 intro f
 induction f with
 | zero=>intro a out bl; exact Fine.error 0 _ _ (.inl rfl)
 | succ f ih =>
  intro a out bl
  unfold PI.blocks
  refine Fine.bind (Fine.block out rfl) fun r=>?_
  exact Fine.ite (fun _=>Fine.ok _ _ _ rfl rfl) fun _=>ih _ _ _
theorem block_ok {B:List Bool} {most a:Nat} {out:List UInt8} {r:Bool × Nat × Nat × List UInt8} (ho:out.length<=most) (h:PI.block B most a out=.ok r):a<r.2.2.1/\r.2.2.1<=B.length/\r.2.2.2.length<=most/\out.length<=r.2.2.2.length:=by
 unfold PI.block at h
 obtain⟨l,hl,h⟩:=bind_ok h
 obtain⟨k,hk,h⟩:=bind_ok h
 obtain⟨b,hb,h⟩:=bind_ok h
 obtain⟨rfl,h1⟩:=number_ok hl
 obtain⟨rfl,h2⟩:=number_ok hk
 obtain⟨q1,q2,q3,q4⟩:=(Fine.body (a:=a+1+2) (o:=out.length) (PI.numAt B (a+1) 2) out rfl).pos B most h2 ho b hb
 cases h
 exact⟨by show a<b.1; omega,q2,q4,q3⟩
theorem blocks_more {B:List Bool} {most:Nat} : ∀(f g a:Nat) (out:List UInt8) (bl:List Blk),a<=B.length->out.length<=most->B.length<a+f->B.length<a+g->PI.blocks B most f a out bl=PI.blocks B most g a out bl:=by
 intro f
 induction f with
 | zero=>intro g a out bl h1 ho h2; omega
 | succ f ih =>
  intro g a out bl h1 ho h2 h3
  cases g with
  | zero=>omega
  | succ g =>
   rw [PI.blocks,PI.blocks]
   cases hs:PI.block B most a out with
   | error e=>rfl
   | ok r =>
    obtain⟨h4,h5,h6,h7⟩:=block_ok ho hs
    show(if r.1 then _ else _)=(if r.1 then _ else _)
    split
    ·rfl
    ·exact ih g _ _ _ h5 h6 (by omega) (by omega)
theorem Fine.all:Fine 0 0 (fun B most=>PI.all B most) (fun r=>r.1) (fun r=>r.2.1.length) :=
 Fine.fuel (F:=fun f B most=>PI.blocks B most f 0 [] []) (fun f=>Fine.blocksF f 0 [] []) (fun f g B most h1 h2 h3 h4=>blocks_more f g 0 [] [] h1 h2 h3 h4)
end
end PI
namespace PL
theorem mrg_behind {P Q:List Pk} {y:Pk} (hP:∀x ∈ P,keyP x<=keyP y) (v:List Pk) (hv:∀z ∈ v,keyP y<=keyP z):SS.mrg keyP (P++y::Q) v=P++y::SS.mrg keyP Q v:=by
 induction v generalizing Q with
 | nil=>rfl
 | cons z v ih =>
  have hz:=hv z (List.mem_cons_self ..)
  have h1:SS.put keyP (P++y::Q) z=P++y::SS.put keyP Q z:=by
   have h:=SS.put_back (key:=keyP) (s:=P++[y]) (t:=Q) (y:=z) (fun x hx=>by
    rcases List.mem_append.1 hx with hx | hx
    ·exact Int.le_trans (hP x hx) hz
    ·rw [List.mem_singleton.1 hx]; exact hz)
   simpa using h
  show SS.mrg keyP (SS.put keyP (P++y::Q) z) v=_
  rw [h1,ih fun x hx=>hv x (List.mem_cons_of_mem _ hx)]
  rfl
theorem parted {A:List Pk} (hA:SS.Srt keyP A) (y:Pk):∃P Q,A=P++Q/\(∀x ∈ P,keyP x<=keyP y)/\∀x ∈ Q,keyP y<keyP x:=by
 induction A with
 | nil=>exact⟨[],[],rfl,(fun x hx=>by cases hx),(fun x hx=>by cases hx)⟩
 | cons x A ih =>
  have h2:=List.pairwise_cons.1 hA
  by_cases hx:keyP x<=keyP y
  ·obtain⟨P,Q,e,h3,h4⟩:=ih h2.2
   refine⟨x::P,Q,by rw [e]; rfl,fun z hz=>?_,h4⟩
   rcases List.mem_cons.1 hz with rfl | hz
   ·exact hx
   ·exact h3 z hz
  ·refine⟨[],x::A,rfl,(fun z hz=>by cases hz),(fun z hz=>?_)⟩
   rcases List.mem_cons.1 hz with rfl | hz
   ·omega
   ·have:=h2.1 z hz; omega
theorem mrg_take (A B:List Pk) (hA:SS.Srt keyP A) (hB:SS.Srt keyP B) (t:Nat) (ht:t<=A.length+B.length) :
  ∃a b,a+b=t/\a<=A.length/\b<=B.length/\(∀f,wt f ((SS.mrg keyP A B).take t)=wt f (A.take a)+wt f (B.take b))/\(∀p ∈ A.take a,p ∈ (SS.mrg keyP A B).take t)/\∀x y,A[a]?=some x->0<b->B[b - 1]?=some y->y.1<x.1:=by
 induction B generalizing A t with
 | nil=>exact⟨t,0,rfl,by simpa using ht,Nat.zero_le _,fun f=>by simp [SS.mrg,wt],fun p hp=>hp,fun x y _ h _=>by omega⟩
 | cons y B ih =>
  obtain⟨P,Q,rfl,hP,hQ⟩:=parted hA y
  have h2:=List.pairwise_cons.1 hB
  have hm:SS.mrg keyP (P++Q) (y::B)=P++y::SS.mrg keyP Q B:=by
   show SS.mrg keyP (SS.put keyP (P++Q) y) B=_
   rw [SS.put_at hP hQ]
   exact mrg_behind hP B h2.1
  rw [hm]
  by_cases hc:t<=P.length
  ·refine⟨t,0,rfl,by rw [List.length_append]; omega,Nat.zero_le _,fun f=>?_,fun p hp=>?_,fun x y _ h _=>by omega⟩
   ·rw [List.take_append_of_le_length hc,List.take_append_of_le_length hc,List.take_zero]; simp [wt]
   ·rw [List.take_append_of_le_length hc] at hp ⊢; exact hp
  ·obtain⟨s,rfl⟩:∃s,t=P.length+(s+1):=⟨t - P.length - 1,by omega⟩
   have hQs:SS.Srt keyP Q:=(List.pairwise_append.1 hA).2.1
   obtain⟨a,b,rfl,h3,h4,h5,h6,h7⟩:=ih Q hQs h2.2 s (by rw [List.length_append,List.length_cons] at ht; omega)
   refine⟨P.length+a,b+1,by omega,by rw [List.length_append]; omega,by rw [List.length_cons]; omega,fun f=>?_,fun p hp=>?_,fun x z hx _ hz=>?_⟩
   ·rw [List.take_length_add_append,List.take_length_add_append,List.take_succ_cons,List.take_succ_cons,wt_append,wt_append]
    have:=h5 f
    show wt f P+(f y+wt f _)=wt f P+wt f _+(f y+wt f _)
    omega
   ·rw [List.take_length_add_append] at hp ⊢
    rcases List.mem_append.1 hp with hp | hp
    ·exact List.mem_append_left _ hp
    ·rw [List.take_succ_cons]
     exact List.mem_append_right _ (List.mem_cons_of_mem _ (h6 p hp))
   ·rw [List.getElem?_append_right (by omega),show P.length+a - P.length=a by omega] at hx
    rw [Nat.add_sub_cancel] at hz
    cases b with
    | zero =>
     have:y=z:=by simpa using hz
     subst this
     have:=hQ x (List.mem_of_getElem? hx)
     unfold keyP at this
     omega
    | succ b=>exact h7 x z hx (by omega) (by simpa using hz)
theorem srt_getD {l:List Pk} (h:SS.Srt keyP l) {i j:Nat} (hij:i<=j) (hj:j<l.length):(l.getD i pk0).1<=(l.getD j pk0).1:=by
 rw [List.getD_eq_getElem?_getD,List.getD_eq_getElem?_getD,List.getElem?_eq_getElem hj,List.getElem?_eq_getElem (show i<l.length by omega)]
 rcases Nat.lt_or_eq_of_le hij with h2 | rfl
 ·have:=List.pairwise_iff_getElem.1 h i j (by omega) hj h2
  unfold keyP at this
  show l[i].1<=l[j].1
  omega
 ·exact Nat.le_refl _
theorem mem_take_le {l:List Pk} (h:SS.Srt keyP l) {n:Nat} {x:Pk} (hx:x ∈ l.take n) (hn:n<=l.length):0<n/\x.1<=(l.getD (n - 1) pk0).1:=by
 obtain⟨i,hi,rfl⟩:=List.getElem_of_mem hx
 rw [List.length_take] at hi
 have:=srt_getD h (i:=i) (j:=n - 1) (by omega) (by omega)
 refine⟨by omega,?_⟩
 rw [List.getElem_take]
 rwa [List.getD_eq_getElem?_getD,List.getElem?_eq_getElem (show i<l.length by omega)] at this
theorem srt_pairsTo {l:List Pk} (h:SS.Srt keyP l) (j:Nat) (hj:j<=l.length / 2):SS.Srt keyP (pairsTo l j):=by
 induction j with
 | zero=>exact List.Pairwise.nil
 | succ j ih =>
  rw [pairsTo_succ]
  refine List.pairwise_append.2 ⟨ih (by omega),List.pairwise_singleton _ _,fun x hx y hy=>?_⟩
  rw [List.mem_singleton.1 hy]
  unfold pairsTo at hx
  obtain⟨i,hi,rfl⟩:=List.mem_map.1 hx
  have hi:=List.mem_range.1 hi
  have h1:=srt_getD h (i:=2 * i) (j:=2 * j) (by omega) (by omega)
  have h2:=srt_getD h (i:=2 * i+1) (j:=2 * j+1) (by omega) (by omega)
  unfold keyP comb
  simp only
  omega
theorem take_pairs (l:List Pk) (b:Nat) (hb:b<=l.length / 2):(pairs l).take b=pairsTo l b:=by
 unfold pairs pairsTo
 rw [<- List.map_take,List.take_range,Nat.min_eq_left hb]
theorem nxt_of {it:List Pk} (hs:SS.isort keyP it=it) (l:List Pk):nxt it l=SS.mrg keyP it (pairs l):=by
 unfold nxt
 rw [SS.isort_app,hs]
theorem srt_lst {it:List Pk} (hs:SS.isort keyP it=it) (i:Nat):SS.Srt keyP (lst it i):=by
 cases i with
 | zero=>rw [<- hs]; exact SS.srt_isort _
 | succ i=>exact SS.srt_isort _
def val:List Nat->Nat
 | []=>0
 | a::us=>a * 2 ^ us.length+val us
theorem cut (it:List Pk) (hs:SS.isort keyP it=it) (i t:Nat) (ht:t<=(lst it i).length) :
  ∃us:List Nat,us.length=i+1/\us.Pairwise (fun x y=>y<=x)/\(∀a ∈ us,a<=it.length)/\val us=t * 2 ^ i/\(∀f:Pk->Nat,(∀a b,f (comb a b)=f a+f b)->wt f ((lst it i).take t)=(us.map fun a=>wt f (it.take a)).sum)/\∀a,us.head?=some a->∀p ∈ it.take a,p ∈ (lst it i).take t:=by
 induction i generalizing t with
 | zero =>
  refine⟨[t],rfl,List.pairwise_singleton _ _,fun a ha=>?_,by simp [val],fun f _=>by simp [lst],fun a ha p hp=>?_⟩
  ·rw [List.mem_singleton.1 ha]; exact ht
  ·injection ha with ha
   subst ha; exact hp
 | succ i ih =>
  have hsl:=srt_lst hs i
  have hM:lst it (i+1)=SS.mrg keyP it (pairs (lst it i)):=nxt_of hs _
  have hit:SS.Srt keyP it:=srt_lst hs 0
  rw [lst_len] at ht
  obtain⟨a,b,h1,h2,h3,h4,h5,h6⟩:=mrg_take it (pairs (lst it i)) hit (srt_pairsTo hsl _ (Nat.le_refl _)) t (by rw [pairs_len]; exact ht)
  rw [pairs_len] at h3
  obtain⟨us,g1,g2,g3,g4,g5,g6⟩:=ih (2 * b) (by omega)
  rw [hM]
  refine⟨a::us,by rw [List.length_cons,g1],?_,fun x hx=>?_,?_,fun f hf=>?_,fun x hx p hp=>?_⟩
  ·have hle:∀x,us.head?=some x->x<=a:=fun x hx=>by
    rcases Nat.lt_or_ge a x with hlt | h
    ·have hxi:x<=it.length:=g3 x (List.mem_of_mem_head? hx)
     have hai:a<it.length:=by omega
     have hin:it[a] ∈ it.take x:=by
      refine List.mem_of_getElem? (i:=a) ?_
      rw [List.getElem?_take_of_lt hlt,List.getElem?_eq_getElem hai]
     have h9:=mem_take_le hsl (g6 x hx _ hin) (by omega)
     have hb0:0<b:=by omega
     have hpb:(pairs (lst it i))[b - 1]?=some (comb ((lst it i).getD (2 * (b - 1)) pk0) ((lst it i).getD (2 * (b - 1)+1) pk0)):=by
      unfold pairs pairsTo
      rw [List.getElem?_map,List.getElem?_range (by omega)]; rfl
     have h10:=h6 _ _ (List.getElem?_eq_getElem hai) hb0 hpb
     rw [show 2 * (b - 1)+1=2 * b - 1 by omega] at h10
     unfold comb at h10
     simp only at h10
     omega
    ·exact h
   cases us with
   | nil=>simp at g1
   | cons c cs =>
    have hc:=hle c rfl
    have g7:=List.pairwise_cons.1 g2
    refine List.pairwise_cons.2 ⟨fun z hz=>?_,g2⟩
    rcases List.mem_cons.1 hz with rfl | hz
    ·exact hc
    ·have:=g7.1 z hz; omega
  ·rcases List.mem_cons.1 hx with rfl | hx
   ·exact h2
   ·exact g3 x hx
  ·show a * 2 ^ us.length+val us=t * 2 ^ (i+1)
   rw [g1,g4,<- h1,Nat.add_mul,Nat.pow_succ]
   have:2 * b * 2 ^ i=b * (2 ^ i * 2):=by rw [Nat.mul_comm 2 b,Nat.mul_assoc,Nat.mul_comm 2]
   omega
  ·rw [h4 f,take_pairs _ _ h3,wt_pairsTo f hf _ _ h3,g5 f hf]
   rfl
  ·injection hx with hx
   subst hx
   exact h5 p hp
def ranks (us:List Nat) (r:Nat):Nat:=us.countP fun a=>decide (r<a)
def gain:List Nat->Nat->Nat
 | [],_=>0
 | a::us,r=>(if r<a then 2 ^ us.length else 0)+gain us r
theorem gain_zero {us:List Nat} {r:Nat} (h:∀a ∈ us,a<=r):gain us r=0/\ranks us r=0:=by
 induction us with
 | nil=>exact⟨rfl,rfl⟩
 | cons a us ih =>
  obtain⟨h1,h2⟩:=ih fun x hx=>h x (List.mem_cons_of_mem _ hx)
  have:=h a (List.mem_cons_self ..)
  constructor
  ·show(if r<a then _ else 0)+gain us r=0
   rw [if_neg (by omega),h1]
  ·unfold ranks at h2 ⊢
   rw [List.countP_cons_of_neg (by simp; omega),h2]
theorem ranks_le (us:List Nat) (r:Nat):ranks us r<=us.length:=List.countP_le_length
theorem gain_rank {us:List Nat} (h:us.Pairwise fun x y=>y<=x) (r:Nat):gain us r+2 ^ (us.length - ranks us r)=2 ^ us.length:=by
 induction us with
 | nil=>rfl
 | cons a us ih =>
  have h2:=List.pairwise_cons.1 h
  by_cases hr:r<a
  ·have h3:=ih h2.2
   have h4:ranks (a::us) r=ranks us r+1:=by unfold ranks; rw [List.countP_cons_of_pos (by simpa using hr)]
   show(if r<a then 2 ^ us.length else 0)+gain us r+2 ^ (us.length+1 - ranks (a::us) r)=2 ^ (us.length+1)
   rw [if_pos hr,h4,Nat.add_sub_add_right,Nat.pow_succ]
   omega
  ·obtain⟨h3,h4⟩:=gain_zero (us:=a::us) (r:=r) (fun x hx=>by
    rcases List.mem_cons.1 hx with rfl | hx
    ·omega
    ·have:=h2.1 x hx; omega)
   rw [h3,h4]; simp
theorem sum_add {α:Type} (l:List α) (f g:α->Nat):(l.map fun x=>f x+g x).sum=(l.map f).sum+(l.map g).sum:=by
 induction l with
 | nil=>rfl
 | cons x l ih=>simp only [List.map_cons,List.sum_cons,ih]; omega
theorem sum_const {α:Type} (l:List α) (c:Nat):(l.map fun _=>c).sum=l.length * c:=by
 induction l with
 | nil=>simp
 | cons x l ih=>rw [List.map_cons,List.sum_cons,ih,List.length_cons,Nat.succ_mul]; omega
theorem sum_below (k a c:Nat) (h:a<=k):((List.range k).map fun r=>if r<a then c else 0).sum=a * c:=by
 induction k with
 | zero =>
  obtain rfl:a=0:=by omega
  simp
 | succ k ih =>
  rw [List.range_succ,List.map_append,List.sum_append]
  rcases Nat.lt_or_ge k a with h1 | h1
  ·obtain rfl:a=k+1:=by omega
   have:((List.range k).map fun r=>if r<k+1 then c else 0)=(List.range k).map fun r=>if r<k then c else 0:=List.map_congr_left fun r hr=>by
    have:=List.mem_range.1 hr
    rw [if_pos (by omega),if_pos this]
   rw [this]
   have h9:((List.range k).map fun r=>if r<k then c else 0).sum=k * c:=by
    clear ih h h1 this
    have:((List.range k).map fun r=>if r<k then c else 0)=(List.range k).map fun _=>c:=List.map_congr_left fun r hr=>by rw [if_pos (List.mem_range.1 hr)]
    rw [this,sum_const,List.length_range]
   rw [h9]
   simp [Nat.succ_mul]
  ·rw [ih h1]; simp; omega
theorem gain_val {us:List Nat} {k:Nat} (h:∀a ∈ us,a<=k):((List.range k).map (gain us)).sum=val us:=by
 induction us with
 | nil =>
  show((List.range k).map fun _=>0).sum=0
  rw [sum_const,Nat.mul_zero]
 | cons a us ih =>
  show((List.range k).map fun r=>(if r<a then 2 ^ us.length else 0)+gain us r).sum=a * 2 ^ us.length+val us
  rw [sum_add,sum_below _ _ _ (h a (List.mem_cons_self ..)),ih fun x hx=>h x (List.mem_cons_of_mem _ hx)]
theorem val_le {us:List Nat} {c:Nat} (h:∀a ∈ us,a<=c):val us+c<=c * 2 ^ us.length:=by
 induction us with
 | nil=>simp [val]
 | cons a us ih =>
  have h1:=ih fun x hx=>h x (List.mem_cons_of_mem _ hx)
  have h2:=h a (List.mem_cons_self ..)
  show a * 2 ^ us.length+val us+c<=c * 2 ^ (us.length+1)
  have h3:a * 2 ^ us.length<=c * 2 ^ us.length:=Nat.mul_le_mul_right _ h2
  rw [Nat.pow_succ,<- Nat.mul_assoc]
  omega
theorem kraft {us:List Nat} {k m:Nat} (hm:us.length=m+1) (hc:us.Pairwise fun x y=>y<=x) (hk:∀a ∈ us,a<=k) (h2:2<=k) (hv:val us=(2 * k - 2) * 2 ^ m) :
  ((List.range k).map fun r=>2 ^ (m+1 - ranks us r)).sum=2 ^ (m+1)/\∀r,r<k->1<=ranks us r:=by
 constructor
 ·have h3:=gain_val hk
  have h4:=sum_add (List.range k) (gain us) (fun r=>2 ^ (m+1 - ranks us r))
  have h5:((List.range k).map fun r=>gain us r+2 ^ (m+1 - ranks us r))=(List.range k).map fun _=>2 ^ (m+1):=List.map_congr_left fun r _=>by
   have:=gain_rank hc r
   rw [hm] at this
   exact this
  have h6:((List.range k).map fun _=>2 ^ (m+1)).sum=k * 2 ^ (m+1):=by rw [sum_const,List.length_range]
  rw [h5,h6,h3,hv] at h4
  obtain⟨q,rfl⟩:∃q,k=q+1:=⟨k - 1,by omega⟩
  have h7:(2 * (q+1) - 2) * 2 ^ m=q * 2 ^ (m+1):=by
   rw [show 2 * (q+1) - 2=q * 2 by omega,Nat.mul_assoc,Nat.mul_comm 2,<- Nat.pow_succ]
  rw [h7,Nat.succ_mul] at h4
  omega
 ·intro r hr
  cases us with
  | nil=>simp at hm
  | cons a us =>
   have hak:a=k:=by
    have h1:=hk a (List.mem_cons_self ..)
    rcases Nat.lt_or_ge a k with h | h
    ·exfalso
     have h3:∀x ∈ a::us,x<=k - 1:=fun x hx=>by
      rcases List.mem_cons.1 hx with rfl | hx
      ·omega
      ·have:=(List.pairwise_cons.1 hc).1 x hx; omega
     have h4:=val_le h3
     rw [hv,hm] at h4
     have h7:(2 * k - 2) * 2 ^ m=(k - 1) * 2 ^ (m+1):=by
      rw [show 2 * k - 2=(k - 1) * 2 by omega,Nat.mul_assoc,Nat.mul_comm 2,<- Nat.pow_succ]
     omega
    ·omega
   unfold ranks
   rw [List.countP_cons_of_pos (by simp; omega)]
   omega
end PL
namespace PL
theorem count_flat (z:Nat) (l:List Pk):(l.flatMap Prod.snd).count z=wt (fun p=>p.2.count z) l:=by
 induction l with
 | nil=>rfl
 | cons p l ih=>rw [List.flatMap_cons,List.count_append,ih]; rfl
theorem isort_sorted (cs:List Nat):SS.isort keyP (sorted cs)=sorted cs:=by unfold sorted; rw [SS.isort_isort]
theorem len_sorted (cs:List Nat):(sorted cs).length=(items cs).length:=SS.len_isort _
def symP (p:Pk):Nat:=p.2.headD 0
def sym (it:List Pk) (r:Nat):Nat:=symP (it.getD r pk0)
theorem wt_range (f:Pk->Nat) (l:List Pk):wt f l=((List.range l.length).map fun r=>f (l.getD r pk0)).sum:=by
 unfold wt
 congr 1
 refine List.ext_getElem (by simp) fun i h1 h2=>?_
 rw [List.length_map] at h1
 rw [List.getElem_map,List.getElem_map,List.getElem_range,List.getD_eq_getElem?_getD,List.getElem?_eq_getElem h1]; rfl
theorem wt_itemsTo (f:Pk->Nat) (cs:List Nat) (k:Nat):wt f (itemsTo cs k)=((List.range k).map fun z=>if 0<cs.getD z 0 then f (cs.getD z 0,[z]) else 0).sum:=by
 induction k with
 | zero=>rfl
 | succ k ih =>
  rw [itemsTo_succ,List.range_succ,List.map_append,List.sum_append,<- ih]
  by_cases h:0<cs.getD k 0
  ·rw [if_pos h,wt_append,List.map_cons,List.map_nil,List.sum_cons,List.sum_nil,if_pos h]
   rfl
  ·rw [if_neg h,List.map_cons,List.map_nil,List.sum_cons,List.sum_nil,if_neg h]
   rfl
theorem wt_sorted (f:Pk->Nat) (cs:List Nat):wt f (sorted cs)=((List.range cs.length).map fun z=>if 0<cs.getD z 0 then f (cs.getD z 0,[z]) else 0).sum:=by
 unfold sorted
 rw [wt_isort]
 exact wt_itemsTo f cs _
theorem mem_sorted {cs:List Nat} {p:Pk} : p ∈ sorted cs↔∃z,z<cs.length/\0<cs.getD z 0/\p=(cs.getD z 0,[z]):=by
 unfold sorted items itemsTo
 rw [SS.mem_isort,List.mem_map]
 constructor
 ·rintro⟨z,hz,rfl⟩
  obtain⟨h1,h2⟩:=List.mem_filter.1 hz
  exact⟨z,List.mem_range.1 h1,of_decide_eq_true h2,rfl⟩
 ·rintro⟨z,h1,h2,rfl⟩
  exact⟨z,List.mem_filter.2 ⟨List.mem_range.2 h1,decide_eq_true h2⟩,rfl⟩
theorem at_sorted {cs:List Nat} {r:Nat} (hr:r<(sorted cs).length):sym (sorted cs) r<cs.length/\0<cs.getD (sym (sorted cs) r) 0/\(sorted cs)[r]=(cs.getD (sym (sorted cs) r) 0,[sym (sorted cs) r]):=by
 obtain⟨z,h1,h2,h3⟩:=mem_sorted.1 (List.getElem_mem hr)
 have:sym (sorted cs) r=z:=by
  unfold sym
  rw [List.getD_eq_getElem?_getD,List.getElem?_eq_getElem hr]
  show symP (sorted cs)[r]=z
  rw [h3]; rfl
 rw [this]
 exact⟨h1,h2,h3⟩
theorem rank_of {cs:List Nat} {z:Nat} (h1:z<cs.length) (h2:0<cs.getD z 0):∃r,r<(sorted cs).length/\sym (sorted cs) r=z:=by
 obtain⟨r,hr,e⟩:=List.getElem_of_mem (mem_sorted.2 ⟨z,h1,h2,rfl⟩)
 refine⟨r,hr,?_⟩
 unfold sym
 rw [List.getD_eq_getElem?_getD,List.getElem?_eq_getElem hr]
 show symP (sorted cs)[r]=z
 rw [e]; rfl
theorem count_all (cs:List Nat) (z k:Nat):((List.range k).map fun i=>if 0<cs.getD i 0 then [i].count z else 0).sum=if z<k/\0<cs.getD z 0 then 1 else 0:=by
 induction k with
 | zero=>simp
 | succ k ih =>
  rw [List.range_succ,List.map_append,List.sum_append,ih,List.map_cons,List.map_nil,List.sum_cons,List.sum_nil,List.count_singleton]
  have e2:∀x:Nat,k≠z->(if 0<x then (if (k == z)=true then 1 else 0) else 0)+0=0:=fun x h=>by
   have e1:(k == z)=false:=by rw [beq_eq_false_iff_ne]; exact h
   rw [e1]; split <;> rfl
  rcases Nat.lt_trichotomy z k with h | h | h
  ·rw [e2 _ (by omega)]
   by_cases h0:0<cs.getD z 0
   ·rw [if_pos ⟨h,h0⟩,if_pos ⟨by omega,h0⟩]
   ·rw [if_neg (fun q=>h0 q.2),if_neg (fun q=>h0 q.2)]
  ·subst h
   have e1:(z == z)=true:=by simp
   rw [e1,if_pos rfl]
   by_cases h0:0<cs.getD z 0
   ·rw [if_neg (fun q=>Nat.lt_irrefl _ q.1),if_pos h0,if_pos ⟨by omega,h0⟩]; omega
   ·rw [if_neg (fun q=>h0 q.2),if_neg h0,if_neg (fun q=>h0 q.2)]; omega
  ·rw [e2 _ (by omega),if_neg (fun q=>by have:=q.1; omega),if_neg (fun q=>by have:=q.1; omega)]
theorem count_take (cs:List Nat) (r a:Nat) (hr:r<(sorted cs).length):wt (fun p=>p.2.count (sym (sorted cs) r)) ((sorted cs).take a)=if r<a then 1 else 0:=by
 obtain⟨z,hz⟩:∃z,sym (sorted cs) r=z:=⟨_,rfl⟩
 have h1:=at_sorted hr
 rw [hz] at h1 ⊢
 have h2:wt (fun p=>p.2.count z) (sorted cs)=1:=by
  rw [wt_sorted]
  show((List.range cs.length).map fun i=>if 0<cs.getD i 0 then [i].count z else 0).sum=1
  rw [count_all,if_pos ⟨h1.1,h1.2.1⟩]
 have h3:=wt_append (fun p=>p.2.count z) ((sorted cs).take a) ((sorted cs).drop a)
 rw [List.take_append_drop,h2] at h3
 have h4:(sorted cs)[r].2.count z=1:=by rw [h1.2.2]; simp
 split
 ·rename_i h
  have h5:(sorted cs)[r].2.count z<=wt (fun p=>p.2.count z) ((sorted cs).take a):=wt_mem (fun p=>p.2.count z) (l:=(sorted cs).take a) (p:=(sorted cs)[r]) (by
   refine List.mem_of_getElem? (i:=r) ?_
   rw [List.getElem?_take_of_lt h,List.getElem?_eq_getElem hr])
  omega
 ·rename_i h
  have h5:(sorted cs)[r].2.count z<=wt (fun p=>p.2.count z) ((sorted cs).drop a):=wt_mem (fun p=>p.2.count z) (l:=(sorted cs).drop a) (p:=(sorted cs)[r]) (by
   refine List.mem_of_getElem? (i:=r - a) ?_
   rw [List.getElem?_drop,show a+(r - a)=r by omega,List.getElem?_eq_getElem hr])
  omega
def taken (cs:List Nat) (m:Nat):List Pk:=if (items cs).length<2 then items cs else (lst (sorted cs) (m - 1)).take (2 * (items cs).length - 2)
theorem flat_taken (cs:List Nat) (m:Nat):flat cs m=(taken cs m).flatMap Prod.snd:=by
 unfold flat taken
 split <;> rfl
theorem lens_get (cs:List Nat) (m z:Nat) (hz:z<cs.length):(lens cs m).getD z 0=wt (fun p=>p.2.count z) (taken cs m):=by
 rw [<- count_flat,<- flat_taken]
 unfold lens
 rw [List.getD_eq_getElem?_getD,List.getElem?_map,List.getElem?_range hz]; rfl
theorem shape (cs:List Nat) (m:Nat) (hm:1<=m) (hk:(items cs).length<=2 ^ m):∃us:List Nat,(∀a ∈ us,a<=(sorted cs).length)/\(∀r,r<(sorted cs).length->1<=ranks us r/\ranks us r<=m) /\
  (∀f:Pk->Nat,(∀a b,f (comb a b)=f a+f b)->wt f (taken cs m)=(us.map fun a=>wt f ((sorted cs).take a)).sum) /\
  (2<=(sorted cs).length->((List.range (sorted cs).length).map fun r=>2 ^ (m - ranks us r)).sum=2 ^ m)/\((sorted cs).length<2->∀r,r<(sorted cs).length->ranks us r=1):=by
 by_cases h2:(items cs).length<2
 ·refine⟨[(sorted cs).length],fun a ha=>by rw [List.mem_singleton.1 ha]; exact Nat.le_refl _,fun r hr=>?_,fun f _=>?_,fun h=>by rw [len_sorted] at h; omega,fun _ r hr=>?_⟩
  ·have:ranks [(sorted cs).length] r=1:=by unfold ranks; rw [List.countP_cons_of_pos (by simpa using hr)]; rfl
   omega
  ·unfold taken
   rw [if_pos h2]
   simp only [List.map_cons,List.map_nil,List.sum_cons,List.sum_nil,List.take_length,Nat.add_zero]
   unfold sorted
   rw [wt_isort]
  ·unfold ranks; rw [List.countP_cons_of_pos (by simpa using hr)]; rfl
 ·obtain⟨q,rfl⟩:∃q,m=q+1:=⟨m - 1,by omega⟩
  have hen:=lst_enough (sorted cs) (q+1) hm (by rw [len_sorted]; exact hk)
  rw [len_sorted] at hen
  obtain⟨us,h3,h4,h5,h6,h7,_⟩:=cut (sorted cs) (isort_sorted cs) q (2 * (items cs).length - 2) hen
  rw [<- len_sorted] at h6
  have h8:=kraft h3 h4 h5 (by rw [len_sorted]; omega) h6
  refine⟨us,h5,fun r hr=>⟨h8.2 r hr,?_⟩,fun f hf=>?_,fun _=>h8.1,fun h=>by rw [len_sorted] at h; omega⟩
  ·have:=ranks_le us r; omega
  ·unfold taken
   rw [if_neg h2]
   exact h7 f hf
theorem sum_ite (us:List Nat) (r:Nat):(us.map fun a=>if r<a then 1 else 0).sum=ranks us r:=by
 induction us with
 | nil=>rfl
 | cons a us ih =>
  rw [List.map_cons,List.sum_cons,ih]
  unfold ranks
  split
  ·rename_i h; rw [List.countP_cons_of_pos (by simpa using h)]; omega
  ·rename_i h; rw [List.countP_cons_of_neg (by simpa using h)]; omega
theorem lens_rank {cs:List Nat} {m:Nat} {us:List Nat} (h:∀f:Pk->Nat,(∀a b,f (comb a b)=f a+f b)->wt f (taken cs m)=(us.map fun a=>wt f ((sorted cs).take a)).sum) (r:Nat) (hr:r<(sorted cs).length):(lens cs m).getD (sym (sorted cs) r) 0=ranks us r:=by
 rw [lens_get _ _ _ (at_sorted hr).1,h _ (fun a b=>List.count_append ..),<- sum_ite]
 congr 1
 exact List.map_congr_left fun a _=>count_take cs r a hr
theorem lens_none {cs:List Nat} {m:Nat} {us:List Nat} (h:∀f:Pk->Nat,(∀a b,f (comb a b)=f a+f b)->wt f (taken cs m)=(us.map fun a=>wt f ((sorted cs).take a)).sum) (z:Nat) (hz:cs.getD z 0=0):(lens cs m).getD z 0=0:=by
 rcases Nat.lt_or_ge z cs.length with h1 | h1
 ·rw [lens_get _ _ _ h1,h _ (fun a b=>List.count_append ..)]
  have h2:wt (fun p=>p.2.count z) (sorted cs)=0:=by
   rw [wt_sorted]
   show((List.range cs.length).map fun i=>if 0<cs.getD i 0 then [i].count z else 0).sum=0
   rw [count_all,if_neg (by omega)]
  have:(us.map fun a=>wt (fun p=>p.2.count z) ((sorted cs).take a))=us.map fun _=>0:=List.map_congr_left fun a _=>by
   have:=wt_take (fun p=>p.2.count z) (sorted cs) a
   omega
  rw [this,sum_const,Nat.mul_zero]
 ·rw [List.getD_eq_getElem?_getD,List.getElem?_eq_none (by rw [lens_len]; exact h1)]; rfl
def unit (x:Nat):Nat:=if x≠0/\x<16 then 2 ^ (15 - x) else 0
theorem share_cons (x:Nat) (m:List Nat) (n:Nat):PH.share (x::m) n=PH.share m n+if x≠0/\x<n then 2 ^ (15 - x) else 0:=by
 induction n with
 | zero=>simp [PH.share]
 | succ n ih =>
  rw [PH.share,PH.share,ih]
  unfold PH.tal
  rw [List.count_cons]
  by_cases h0:n=0
  ·subst h0
   rw [if_pos rfl,if_pos rfl,if_neg (by omega),if_neg (by omega)]
  ·rw [if_neg h0,if_neg h0,Nat.add_mul]
   by_cases hx:x=n
   ·subst hx
    rw [if_neg (by omega),if_pos (by simp),if_pos (by omega)]; omega
   ·have e1:(x == n)=false:=by rw [beq_eq_false_iff_ne]; exact hx
    have e3:(if (x == n)=true then 1 else 0)=0:=by rw [e1]; rfl
    rw [e3]
    by_cases hx2:x≠0/\x<n
    ·rw [if_pos hx2,if_pos (by omega)]; omega
    ·rw [if_neg hx2,if_neg (by omega)]; omega
theorem sum_units (m:List Nat):PH.sum m=(m.map unit).sum:=by
 induction m with
 | nil=>decide
 | cons x m ih =>
  unfold PH.sum at ih ⊢
  rw [share_cons,ih,List.map_cons,List.sum_cons]
  unfold unit
  omega
theorem map_getD (m:List Nat):m=(List.range m.length).map fun i=>m.getD i 0:=by
 refine List.ext_getElem (by simp) fun i h1 h2=>?_
 rw [List.getElem_map,List.getElem_range,List.getD_eq_getElem?_getD,List.getElem?_eq_getElem h1]; rfl
theorem units_of (cs ls:List Nat) (hl:ls.length=cs.length) (h0:∀z,z<cs.length->cs.getD z 0=0->ls.getD z 0=0):PH.sum ls=wt (fun p=>unit (ls.getD (symP p) 0)) (sorted cs):=by
 rw [sum_units,wt_sorted]
 conv=>lhs; rw [map_getD ls,List.map_map,hl]
 congr 1
 refine List.map_congr_left fun z hz=>?_
 have hz:=List.mem_range.1 hz
 split
 ·rfl
 ·rename_i h
  show unit (ls.getD z 0)=0
  rw [h0 z hz (by omega)]; rfl
theorem lens_sum (cs:List Nat) (m:Nat) (hm:1<=m) (h15:m<=15) (hk:(items cs).length<=2 ^ m):PH.sum (lens cs m)=if 2<=(items cs).length then 32768 else (items cs).length * 16384:=by
 obtain⟨us,h1,h2,h3,h4,h5⟩:=shape cs m hm hk
 rw [units_of cs _ (lens_len _ _) (fun z _=>lens_none h3 z),wt_range]
 have e1:((List.range (sorted cs).length).map fun r=>unit ((lens cs m).getD (symP ((sorted cs).getD r pk0)) 0))=(List.range (sorted cs).length).map fun r=>2 ^ (15 - ranks us r):=List.map_congr_left fun r hr=>by
  have hr:=List.mem_range.1 hr
  have h9:=lens_rank h3 r hr
  unfold sym at h9
  rw [h9]
  have:=h2 r hr
  unfold unit
  rw [if_pos (by omega)]
 rw [e1]
 split
 ·rename_i hge
  have e2:((List.range (sorted cs).length).map fun r=>2 ^ (15 - ranks us r))=(List.range (sorted cs).length).map fun r=>2 ^ (15 - m) * 2 ^ (m - ranks us r):=List.map_congr_left fun r hr=>by
   have:=h2 r (List.mem_range.1 hr)
   rw [<- Nat.pow_add]
   congr 1
   omega
  have e3:∀(l:List Nat) (c:Nat) (f:Nat->Nat),(l.map fun r=>c * f r).sum=c * (l.map f).sum:=by
   intro l c f
   induction l with
   | nil=>rfl
   | cons x l ih=>rw [List.map_cons,List.sum_cons,ih,List.map_cons,List.sum_cons,Nat.mul_add]
  rw [e2,e3,h4 (by rw [len_sorted]; exact hge),<- Nat.pow_add,show 15 - m+m=15 by omega]
 ·rename_i hlt
  have e2:((List.range (sorted cs).length).map fun r=>2 ^ (15 - ranks us r))=(List.range (sorted cs).length).map fun _=>16384:=List.map_congr_left fun r hr=>by
   rw [h5 (by rw [len_sorted]; omega) r (List.mem_range.1 hr)]
  rw [e2,sum_const,List.length_range,len_sorted]
theorem lens_in (cs:List Nat) (m z:Nat) (hm:1<=m) (hk:(items cs).length<=2 ^ m) (hz:z<cs.length):(0<cs.getD z 0->1<=(lens cs m).getD z 0)/\(cs.getD z 0=0->(lens cs m).getD z 0=0)/\(lens cs m).getD z 0<=m:=by
 obtain⟨us,h1,h2,h3,h4,h5⟩:=shape cs m hm hk
 rcases Nat.eq_zero_or_pos (cs.getD z 0) with h0 | h0
 ·have:=lens_none (m:=m) h3 z h0
  exact⟨fun h=>by omega,fun _=>this,by omega⟩
 ·obtain⟨r,hr,e⟩:=rank_of hz h0
  have h9:=lens_rank h3 r hr
  rw [e] at h9
  have:=h2 r hr
  rw [h9]
  exact⟨fun _=>this.1,fun h=>by omega,this.2⟩
end PL
namespace PH
def bitsC (n c:Nat):List Bool:=(List.range n).map fun k=>c.testBit (n - 1 - k)
theorem bitsC_len (n c:Nat):(bitsC n c).length=n:=by simp [bitsC]
theorem bitsC_rev (n c:Nat):bitsC n c=(List.range n).map fun k=>(PBits.rev c n).testBit k:=by
 unfold bitsC
 refine List.map_congr_left fun k hk=>?_
 rw [PBits.rev_bit,decide_eq_true (List.mem_range.1 hk),Bool.true_and]
theorem code_lt (m:List Nat) (i p:Nat) (hi:i<m.length) (hp:m.getD i 0=p+1) (h15:p+1<=15) (hs:sum m<=32768):codeAt m i<2 ^ (p+1):=by
 have h1:=(codeAt_lt m i (p+1) hi hp (by omega)).2
 have h2:=share_next m (p+1) (by omega) h15
 have h3:=share_mono m (p+1+1) 16 (by omega)
 unfold sum at hs
 have h4:(2:Nat) ^ (p+1) * 2 ^ (15 - (p+1))=32768:=by rw [<- Nat.pow_add,show p+1+(15 - (p+1))=15 by omega]
 have h5:(fst m (p+1)+tal m (p+1)) * 2 ^ (15 - (p+1))<=2 ^ (p+1) * 2 ^ (15 - (p+1)):=by rw [h2,h4]; omega
 have h6:=Nat.le_of_mul_le_mul_right h5 (Nat.two_pow_pos _)
 omega
def word (m:List Nat) (l:List Nat):List Bool:=l.flatMap fun s=>bitsC (m.getD s 0) (codeAt m s)
end PH
namespace PL
theorem lens_one (cs:List Nat) (m z:Nat) (hm:1<=m) (hk:(items cs).length<=2 ^ m) (h2:(items cs).length<2) (hz:z<cs.length):(lens cs m).getD z 0<=1:=by
 obtain⟨us,h1,h2',h3,h4,h5⟩:=shape cs m hm hk
 rcases Nat.eq_zero_or_pos (cs.getD z 0) with h0 | h0
 ·rw [lens_none (m:=m) h3 z h0]; omega
 ·obtain⟨r,hr,e⟩:=rank_of hz h0
  have h9:=lens_rank h3 r hr
  rw [e] at h9
  rw [h9,h5 (by rw [len_sorted]; exact h2) r hr]
  omega
theorem tal_none {m:List Nat} (h:∀x ∈ m,x<=1) (n:Nat) (hn:2<=n):PH.tal m n=0:=by
 rw [PH.tal_pos m n (by omega)]
 refine List.count_eq_zero.2 fun hx=>?_
 have:=h n hx
 omega
theorem share_few {m:List Nat} (h:∀x ∈ m,x<=1) (d:Nat):PH.share m (d+2)=PH.tal m 1 * 16384:=by
 induction d with
 | zero=>exact PH.share_two m
 | succ d ih =>
  show PH.share m (d+2)+PH.tal m (d+2) * _=_
  rw [ih,tal_none h (d+2) (by omega)]; omega
theorem rows_few {m:List Nat} (h:∀x ∈ m,x<=1) (d:Nat):(PH.rowsB m (d+1)).length=PH.tal m 1:=by
 induction d with
 | zero =>
  rw [PH.rowsB_tal]
  show 0+PH.tal m 1=PH.tal m 1
  omega
 | succ d ih =>
  rw [PH.rowsB_tal,ih,tal_none h (d+1+1) (by omega)]; omega
theorem lens_book (cs:List Nat) (m:Nat) (hm:1<=m) (h15:m<=15) (hk:(items cs).length<=2 ^ m):mayBook (lens cs m)=true/\PH.sum (lens cs m)<=32768/\∃mo,mostOf (lens cs m)=((mo:Nat):Int)/\1<=mo/\mo<=15/\∀z,z<cs.length->(lens cs m).getD z 0<=mo:=by
 have hs:=lens_sum cs m hm h15 hk
 by_cases h2:2<=(items cs).length
 ·rw [if_pos h2] at hs
  have hst:PH.state (lens cs m)=0:=by unfold PH.state; rw [hs]; rfl
  refine⟨?_,by omega,15,?_,by omega,by omega,fun z hz=>Nat.le_trans (lens_in cs m z hm hk hz).2.2 h15⟩
  ·unfold mayBook; rw [hst]; rfl
  ·unfold mostOf; rw [if_pos hst]; rfl
 ·rw [if_neg h2] at hs
  have hle:∀x ∈ lens cs m,x<=1:=fun x hx=>by
   obtain⟨z,hz,rfl⟩:=List.getElem_of_mem hx
   have:=lens_one cs m z hm hk (by omega) (by rw [lens_len] at hz; exact hz)
   rwa [List.getD_eq_getElem?_getD,List.getElem?_eq_getElem hz] at this
  have h3:PH.sum (lens cs m)=PH.tal (lens cs m) 1 * 16384:=share_few hle 14
  have h4:(PH.rows (lens cs m)).length=PH.tal (lens cs m) 1:=rows_few hle 14
  have hst:PH.state (lens cs m) = -1:=by unfold PH.state; rw [if_pos (by omega)]
  refine⟨?_,by omega,1,?_,by omega,by omega,fun z hz=>lens_one cs m z hm hk (by omega) hz⟩
  ·unfold mayBook
   rw [h4]
   have:PH.tal (lens cs m) 1=0∨PH.tal (lens cs m) 1=1:=by omega
   rcases this with h | h <;> rw [h] <;> simp
  ·unfold mostOf; rw [if_neg (by rw [hst]; decide)]; rfl
end PL
end Go.Proofs.YtloijdbkikccgaaDoor

