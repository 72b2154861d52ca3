/- Stable: a stable sort of a list by a key, and what the steps of Go's stable sort do to a list. Nothing of the model. -/
import Derived.Test.YtdlbhoedmaifpaaLib2
namespace Go.Proofs.Ytdlbhoedmaifpaa
namespace SS
variable {α : Type} (key : α → Int)
/-- x into l by keys, behind those of the same. -/
def put : List α → α → List α
  | [], p => [p]
  | x :: l, p => if key x ≤ key p then x :: put l p else p :: x :: l
def mrg (u v : List α) : List α := v.foldl (put key) u
def isort (l : List α) : List α := mrg key [] l
def Srt (l : List α) : Prop := l.Pairwise fun x y => key x ≤ key y
variable {key}
theorem mem_put {l : List α} {p z : α} : z ∈ put key l p ↔ z = p ∨ z ∈ l := by
  induction l with
  | nil => simp [put]
  | cons x l ih =>
    unfold put
    split
    · rw [List.mem_cons, ih, List.mem_cons]; constructor
      · rintro (h | h | h)
        · exact .inr (.inl h)
        · exact .inl h
        · exact .inr (.inr h)
      · rintro (h | h | h)
        · exact .inr (.inl h)
        · exact .inl h
        · exact .inr (.inr h)
    · rw [List.mem_cons]
theorem len_put (l : List α) (p : α) : (put key l p).length = l.length + 1 := by
  induction l with
  | nil => rfl
  | cons x l ih =>
    unfold put
    split
    · rw [List.length_cons, ih, List.length_cons]
    · rfl
theorem srt_put {l : List α} (h : Srt key l) (p : α) : Srt key (put key l p) := by
  induction l with
  | nil => exact List.pairwise_singleton _ _
  | cons x l ih =>
    have h2 := List.pairwise_cons.1 h
    unfold put
    split
    · rename_i hx
      refine List.pairwise_cons.2 ⟨fun z hz => ?_, ih h2.2⟩
      rcases mem_put.1 hz with rfl | hz
      · exact hx
      · exact h2.1 z hz
    · rename_i hx
      refine List.pairwise_cons.2 ⟨fun z hz => ?_, h⟩
      rcases List.mem_cons.1 hz with rfl | hz
      · omega
      · have := h2.1 z hz; omega
theorem mem_mrg {u v : List α} {z : α} : z ∈ mrg key u v ↔ z ∈ u ∨ z ∈ v := by
  unfold mrg
  induction v generalizing u with
  | nil => simp
  | cons y v ih =>
    rw [List.foldl_cons, ih, mem_put, List.mem_cons]; constructor
    · rintro ((h | h) | h)
      · exact .inr (.inl h)
      · exact .inl h
      · exact .inr (.inr h)
    · rintro (h | h | h)
      · exact .inl (.inr h)
      · exact .inl (.inl h)
      · exact .inr h
theorem len_mrg (u v : List α) : (mrg key u v).length = u.length + v.length := by
  unfold mrg
  induction v generalizing u with
  | nil => simp
  | cons y v ih => rw [List.foldl_cons, ih, len_put, List.length_cons]; omega
theorem srt_mrg {u : List α} (h : Srt key u) (v : List α) : Srt key (mrg key u v) := by
  unfold mrg
  induction v generalizing u with
  | nil => exact h
  | cons y v ih => exact ih (srt_put h y)
theorem srt_isort (l : List α) : Srt key (isort key l) := srt_mrg List.Pairwise.nil l
theorem len_isort (l : List α) : (isort key l).length = l.length := by unfold isort; rw [len_mrg]; simp
theorem mem_isort {l : List α} {z : α} : z ∈ isort key l ↔ z ∈ l := by unfold isort; rw [mem_mrg]; simp
theorem mrg_app (u v w : List α) : mrg key u (v ++ w) = mrg key (mrg key u v) w := List.foldl_append
theorem isort_snoc (l : List α) (x : α) : isort key (l ++ [x]) = put key (isort key l) x := mrg_app _ _ _
theorem isort_app (l m : List α) : isort key (l ++ m) = mrg key (isort key l) m := mrg_app _ _ _
theorem put_back {s t : List α} {y : α} (h : ∀ x ∈ s, key x ≤ key y) : put key (s ++ t) y = s ++ put key t y := by
  induction s with
  | nil => rfl
  | cons x s ih =>
    show (if key x ≤ key y then x :: put key (s ++ t) y else _) = _
    rw [if_pos (h x (List.mem_cons_self ..)), ih fun z hz => h z (List.mem_cons_of_mem _ hz)]; rfl
theorem put_end {s : List α} {y : α} (h : ∀ x ∈ s, key x ≤ key y) : put key s y = s ++ [y] := by
  have := put_back (t := []) h
  rwa [List.append_nil] at this
theorem put_front {t : List α} {y : α} (h : ∀ x ∈ t, key y < key x) : put key t y = y :: t := by
  cases t with
  | nil => rfl
  | cons x t =>
    show (if key x ≤ key y then _ else y :: x :: t) = _
    rw [if_neg (by have := h x (List.mem_cons_self ..); omega)]
theorem put_ahead {s t : List α} {y : α} (h : ∀ x ∈ t, key y < key x) : put key (s ++ t) y = put key s y ++ t := by
  induction s with
  | nil => exact put_front h
  | cons x s ih =>
    show (if key x ≤ key y then x :: put key (s ++ t) y else y :: x :: (s ++ t)) = (if key x ≤ key y then x :: put key s y else y :: x :: s) ++ t
    split
    · rw [ih]; rfl
    · rfl
/-- Where x stands between: behind what is not above it, ahead of what is. -/
theorem put_at {s t : List α} {y : α} (h1 : ∀ x ∈ s, key x ≤ key y) (h2 : ∀ x ∈ t, key y < key x) : put key (s ++ t) y = s ++ y :: t := by
  rw [put_back h1, put_front h2]
theorem mrg_nil {v : List α} (h : Srt key v) : mrg key [] v = v := by
  suffices ∀ u, Srt key (u ++ v) → mrg key u v = u ++ v from this [] h
  induction v with
  | nil => intro u _; simp [mrg]
  | cons y v ih =>
    intro u hu
    have h1 : put key u y = u ++ [y] := put_end fun x hx => (List.pairwise_append.1 hu).2.2 x hx y (List.mem_cons_self ..)
    show mrg key (put key u y) v = _
    rw [h1, ih (List.pairwise_cons.1 h).2 (u ++ [y]) (by rw [List.append_assoc]; exact hu), List.append_assoc]; rfl
theorem isort_of_srt {v : List α} (h : Srt key v) : isort key v = v := mrg_nil h
theorem mrg_none (u : List α) : mrg key u [] = u := rfl
theorem mrg_ahead {u t v : List α} (h : ∀ x ∈ t, ∀ y ∈ v, key y < key x) : mrg key (u ++ t) v = mrg key u v ++ t := by
  unfold mrg
  induction v generalizing u with
  | nil => rfl
  | cons y v ih =>
    rw [List.foldl_cons, put_ahead fun x hx => h x hx y (List.mem_cons_self ..), ih fun x hx z hz => h x hx z (List.mem_cons_of_mem _ hz)]; rfl
theorem mrg_back {s u v : List α} (h : ∀ x ∈ s, ∀ y ∈ v, key x ≤ key y) : mrg key (s ++ u) v = s ++ mrg key u v := by
  unfold mrg
  induction v generalizing u with
  | nil => rfl
  | cons y v ih =>
    rw [List.foldl_cons, put_back fun x hx => h x hx y (List.mem_cons_self ..), ih fun x hx z hz => h x hx z (List.mem_cons_of_mem _ hz)]; rfl
/-- Two merges side by side. -/
theorem mrg_split {u1 u2 v1 v2 : List α} (hv : Srt key (v1 ++ v2)) (h1 : ∀ x ∈ u1, ∀ y ∈ v2, key x ≤ key y) (h2 : ∀ x ∈ u2, ∀ y ∈ v1, key y < key x) :
    mrg key (u1 ++ u2) (v1 ++ v2) = mrg key u1 v1 ++ mrg key u2 v2 := by
  rw [mrg_app, mrg_ahead h2, mrg_back]
  intro x hx y hy
  rcases mem_mrg.1 hx with hx | hx
  · exact h1 x hx y hy
  · exact (List.pairwise_append.1 hv).2.2 x hx y hy
theorem put_comm (u : List α) {x y : α} (h : key y < key x) : put key (put key u y) x = put key (put key u x) y := by
  induction u with
  | nil =>
    show (if key y ≤ key x then y :: [x] else x :: y :: []) = (if key x ≤ key y then x :: [y] else y :: x :: [])
    rw [if_pos (by omega), if_neg (by omega)]
  | cons z u ih =>
    by_cases h1 : key z ≤ key y
    · have h2 : key z ≤ key x := by omega
      simp only [put, if_pos h1, if_pos h2, ih]
    · by_cases h2 : key z ≤ key x
      · have h3 : key y ≤ key x := by omega
        simp only [put, if_neg h1, if_pos h2, if_pos h3]
      · have h3 : key y ≤ key x := by omega
        have h4 : ¬ key x ≤ key y := by omega
        simp only [put, if_neg h1, if_neg h2, if_pos h3, if_neg h4]
theorem mrg_comm (u : List α) {v : List α} {y : α} (h : ∀ x ∈ v, key y < key x) : mrg key (put key u y) v = put key (mrg key u v) y := by
  unfold mrg
  induction v generalizing u with
  | nil => rfl
  | cons x v ih =>
    rw [List.foldl_cons, List.foldl_cons, put_comm u (h x (List.mem_cons_self ..)), ih _ fun z hz => h z (List.mem_cons_of_mem _ hz)]
theorem mrg_put (u : List α) {v : List α} (hv : Srt key v) (y : α) : mrg key u (put key v y) = put key (mrg key u v) y := by
  induction v generalizing u with
  | nil => rfl
  | cons x v ih =>
    have h2 := List.pairwise_cons.1 hv
    by_cases h : key x ≤ key y
    · rw [show put key (x :: v) y = x :: put key v y from if_pos h]
      exact ih _ h2.2
    · rw [show put key (x :: v) y = y :: x :: v from if_neg h]
      refine mrg_comm u fun z hz => ?_
      rcases List.mem_cons.1 hz with rfl | hz
      · omega
      · have := h2.1 z hz; omega
theorem mrg_isort (u l : List α) : mrg key u (isort key l) = mrg key u l := by
  suffices ∀ m : List α, l = m.reverse → mrg key u (isort key l) = mrg key u l from this l.reverse (by simp)
  intro m
  induction m generalizing l with
  | nil => rintro rfl; rfl
  | cons x m ih =>
    rintro rfl
    rw [List.reverse_cons, isort_snoc, mrg_put u (srt_isort _), ih _ rfl, mrg_app]; rfl
theorem mrg_isorts (x y : List α) : mrg key (isort key x) (isort key y) = isort key (x ++ y) := by rw [mrg_isort, isort_app]
theorem isort_isort (l : List α) : isort key (isort key l) = isort key l := mrg_isort [] l
theorem isort_front (x y : List α) : isort key (isort key x ++ y) = isort key (x ++ y) := by rw [isort_app, isort_isort, isort_app]
/-- d is l, cut into k pieces of s, each sorted. -/
inductive Chs (key : α → Int) (s : Nat) : Nat → List α → List α → Prop
  | nil : Chs key s 0 [] []
  | cons {k : Nat} {x d l : List α} : x.length = s → Chs key s k d l → Chs key s (k + 1) (isort key x ++ d) (x ++ l)
theorem Chs.len {s k : Nat} {d l : List α} (h : Chs key s k d l) : d.length = k * s ∧ l.length = k * s := by
  induction h with
  | nil => simp
  | cons hx _ ih => rw [List.length_append, List.length_append, len_isort, hx, ih.1, ih.2, Nat.succ_mul]; omega
theorem Chs.snoc {s k : Nat} {d l x : List α} (h : Chs key s k d l) (hx : x.length = s) : Chs key s (k + 1) (d ++ isort key x) (l ++ x) := by
  induction h with
  | nil =>
    have := Chs.cons (key := key) hx Chs.nil
    rwa [List.append_nil, List.append_nil] at this
  | cons hy _ ih => rw [List.append_assoc, List.append_assoc]; exact Chs.cons hy ih
theorem Chs.inv {s k : Nat} {d l : List α} (h : Chs key s (k + 1) d l) : ∃ x d' l', x.length = s ∧ d = isort key x ++ d' ∧ l = x ++ l' ∧ Chs key s k d' l' := by
  cases h with
  | cons hx h => exact ⟨_, _, _, hx, rfl, rfl, h⟩
theorem Chs.zero {s : Nat} {d l : List α} (h : Chs key s 0 d l) : d = [] ∧ l = [] := by cases h; exact ⟨rfl, rfl⟩
/-- What stands at the end: all sorted. -/
theorem Chs.end_ {s k : Nat} {d l y : List α} (h : Chs key s k d l) (hn : l.length + y.length ≤ s) : d ++ isort key y = isort key (l ++ y) := by
  cases k with
  | zero => obtain ⟨rfl, rfl⟩ := h.zero; rfl
  | succ k =>
    obtain ⟨x, d', l', hx, rfl, rfl, h2⟩ := h.inv
    have hl := h2.len
    rw [List.length_append, hx] at hn
    have h0 : y = [] := List.eq_nil_of_length_eq_zero (by omega)
    have h1 : l' = [] := List.eq_nil_of_length_eq_zero (by omega)
    have h3 : d' = [] := List.eq_nil_of_length_eq_zero (by rw [hl.1, ← hl.2, h1]; rfl)
    subst h0 h1 h3
    simp [isort, mrg]
/-- Two places turned. -/
def sw (d : α) (l : List α) (i j : Nat) : List α := (l.set i (l.getD j d)).set j (l.getD i d)
theorem len_sw (d : α) (l : List α) (i j : Nat) : (sw d l i j).length = l.length := by unfold sw; rw [List.length_set, List.length_set]
theorem getD_app (d : α) (a b : List α) (x : α) {i : Nat} (h : a.length = i) : (a ++ x :: b).getD i d = x := by
  subst h
  rw [List.getD_eq_getElem?_getD, List.getElem?_append_right (Nat.le_refl _), Nat.sub_self]; rfl
theorem set_app (a b : List α) (x y : α) {i : Nat} (h : a.length = i) : (a ++ x :: b).set i y = a ++ y :: b := by
  subst h
  rw [List.set_append_right _ _ (Nat.le_refl _), Nat.sub_self]; rfl
theorem sw_app (d : α) (a b c : List α) (x y : α) {i j : Nat} (hi : a.length = i) (hj : a.length + 1 + b.length = j) : sw d (a ++ x :: b ++ y :: c) i j = a ++ y :: b ++ x :: c := by
  have e1 : a ++ x :: b ++ y :: c = a ++ x :: (b ++ y :: c) := by simp
  have e2 : ∀ z, a ++ z :: b ++ y :: c = (a ++ z :: b) ++ y :: c := fun z => rfl
  unfold sw
  rw [getD_app d (a ++ x :: b) c y (by rw [List.length_append, List.length_cons]; omega), e1, getD_app d a _ x hi, set_app a _ x y hi]
  have e3 : a ++ y :: (b ++ y :: c) = (a ++ y :: b) ++ y :: c := by simp
  rw [e3, set_app (a ++ y :: b) c y x (by rw [List.length_append, List.length_cons]; omega)]
theorem sw_comm (d : α) (l : List α) (i j : Nat) (h : i ≠ j) : sw d l i j = sw d l j i := by
  unfold sw
  rw [List.set_comm _ _ h]
end SS
end Go.Proofs.Ytdlbhoedmaifpaa
