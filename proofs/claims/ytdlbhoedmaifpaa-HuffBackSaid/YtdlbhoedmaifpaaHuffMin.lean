/- HuffMin: packages merged: lengths full, falling with the counts, and least. Nothing of the model. -/
import Derived.Test.YtdlbhoedmaifpaaHuffP
import Derived.Test.YtdlbhoedmaifpaaHuffCode
namespace Go.Proofs.Ytdlbhoedmaifpaa
set_option linter.unusedVariables false
set_option linter.unusedSimpArgs false
namespace PL
theorem mrg_behind {P Q : List Pk} {y : Pk} (hP : ∀ x ∈ P, keyP x ≤ keyP y) (v : List Pk) (hv : ∀ z ∈ v, keyP y ≤ keyP z) : SS.mrg keyP (P ++ y :: Q) v = P ++ y :: SS.mrg keyP Q v := by
  induction v generalizing Q with
  | nil => rfl
  | cons z v ih =>
    have hz := hv z (List.mem_cons_self ..)
    have h1 : SS.put keyP (P ++ y :: Q) z = P ++ y :: SS.put keyP Q z := by
      have h := SS.put_back (key := keyP) (s := P ++ [y]) (t := Q) (y := z) (fun x hx => by
        rcases List.mem_append.1 hx with hx | hx
        · exact Int.le_trans (hP x hx) hz
        · rw [List.mem_singleton.1 hx]; exact hz)
      simpa using h
    show SS.mrg keyP (SS.put keyP (P ++ y :: Q) z) v = _
    rw [h1, ih fun x hx => hv x (List.mem_cons_of_mem _ hx)]
    rfl
theorem parted {A : List Pk} (hA : SS.Srt keyP A) (y : Pk) : ∃ P Q, A = P ++ Q ∧ (∀ x ∈ P, keyP x ≤ keyP y) ∧ ∀ x ∈ Q, keyP y < keyP x := by
  induction A with
  | nil => exact ⟨[], [], rfl, (fun x hx => by cases hx), (fun x hx => by cases hx)⟩
  | cons x A ih =>
    have h2 := List.pairwise_cons.1 hA
    by_cases hx : keyP x ≤ keyP y
    · obtain ⟨P, Q, e, h3, h4⟩ := ih h2.2
      refine ⟨x :: P, Q, by rw [e]; rfl, fun z hz => ?_, h4⟩
      rcases List.mem_cons.1 hz with rfl | hz
      · exact hx
      · exact h3 z hz
    · refine ⟨[], x :: A, rfl, (fun z hz => by cases hz), (fun z hz => ?_)⟩
      rcases List.mem_cons.1 hz with rfl | hz
      · omega
      · have := h2.1 z hz; omega
/-- The first of two rows merged are the first of each. -/
theorem mrg_take (A B : List Pk) (hA : SS.Srt keyP A) (hB : SS.Srt keyP B) (t : Nat) (ht : t ≤ A.length + B.length) :
    ∃ a b, a + b = t ∧ a ≤ A.length ∧ b ≤ B.length ∧ (∀ f, wt f ((SS.mrg keyP A B).take t) = wt f (A.take a) + wt f (B.take b)) ∧ (∀ p ∈ A.take a, p ∈ (SS.mrg keyP A B).take t) ∧ ∀ x y, A[a]? = some x → 0 < b → B[b - 1]? = some y → y.1 < x.1 := by
  induction B generalizing A t with
  | nil => exact ⟨t, 0, rfl, by simpa using ht, Nat.zero_le _, fun f => by simp [SS.mrg, wt], fun p hp => hp, fun x y _ h _ => by omega⟩
  | cons y B ih =>
    obtain ⟨P, Q, rfl, hP, hQ⟩ := parted hA y
    have h2 := List.pairwise_cons.1 hB
    have hm : SS.mrg keyP (P ++ Q) (y :: B) = P ++ y :: SS.mrg keyP Q B := by
      show SS.mrg keyP (SS.put keyP (P ++ Q) y) B = _
      rw [SS.put_at hP hQ]
      exact mrg_behind hP B h2.1
    rw [hm]
    by_cases hc : t ≤ P.length
    · refine ⟨t, 0, rfl, by rw [List.length_append]; omega, Nat.zero_le _, fun f => ?_, fun p hp => ?_, fun x y _ h _ => by omega⟩
      · rw [List.take_append_of_le_length hc, List.take_append_of_le_length hc, List.take_zero]; simp [wt]
      · rw [List.take_append_of_le_length hc] at hp ⊢; exact hp
    · obtain ⟨s, rfl⟩ : ∃ s, t = P.length + (s + 1) := ⟨t - P.length - 1, by omega⟩
      have hQs : SS.Srt keyP Q := (List.pairwise_append.1 hA).2.1
      obtain ⟨a, b, rfl, h3, h4, h5, h6, h7⟩ := ih Q hQs h2.2 s (by rw [List.length_append, List.length_cons] at ht; omega)
      refine ⟨P.length + a, b + 1, by omega, by rw [List.length_append]; omega, by rw [List.length_cons]; omega, fun f => ?_, fun p hp => ?_, fun x z hx _ hz => ?_⟩
      · rw [List.take_length_add_append, List.take_length_add_append, List.take_succ_cons, List.take_succ_cons, wt_append, wt_append]
        have := h5 f
        show wt f P + (f y + wt f _) = wt f P + wt f _ + (f y + wt f _)
        omega
      · rw [List.take_length_add_append] at hp ⊢
        rcases List.mem_append.1 hp with hp | hp
        · exact List.mem_append_left _ hp
        · rw [List.take_succ_cons]
          exact List.mem_append_right _ (List.mem_cons_of_mem _ (h6 p hp))
      · rw [List.getElem?_append_right (by omega), show P.length + a - P.length = a by omega] at hx
        rw [Nat.add_sub_cancel] at hz
        cases b with
        | zero =>
          have : y = z := by simpa using hz
          subst this
          have := hQ x (List.mem_of_getElem? hx)
          unfold keyP at this
          omega
        | succ b => exact h7 x z hx (by omega) (by simpa using hz)
theorem srt_getD {l : List Pk} (h : SS.Srt keyP l) {i j : Nat} (hij : i ≤ j) (hj : j < l.length) : (l.getD i pk0).1 ≤ (l.getD j pk0).1 := by
  rw [List.getD_eq_getElem?_getD, List.getD_eq_getElem?_getD, List.getElem?_eq_getElem hj, List.getElem?_eq_getElem (show i < l.length by omega)]
  rcases Nat.lt_or_eq_of_le hij with h2 | rfl
  · have := List.pairwise_iff_getElem.1 h i j (by omega) hj h2
    unfold keyP at this
    show l[i].1 ≤ l[j].1
    omega
  · exact Nat.le_refl _
theorem mem_take_le {l : List Pk} (h : SS.Srt keyP l) {n : Nat} {x : Pk} (hx : x ∈ l.take n) (hn : n ≤ l.length) : 0 < n ∧ x.1 ≤ (l.getD (n - 1) pk0).1 := by
  obtain ⟨i, hi, rfl⟩ := List.getElem_of_mem hx
  rw [List.length_take] at hi
  have := srt_getD h (i := i) (j := n - 1) (by omega) (by omega)
  refine ⟨by omega, ?_⟩
  rw [List.getElem_take]
  rwa [List.getD_eq_getElem?_getD, List.getElem?_eq_getElem (show i < l.length by omega)] at this
theorem srt_pairsTo {l : List Pk} (h : SS.Srt keyP l) (j : Nat) (hj : j ≤ l.length / 2) : SS.Srt keyP (pairsTo l j) := by
  induction j with
  | zero => exact List.Pairwise.nil
  | succ j ih =>
    rw [pairsTo_succ]
    refine List.pairwise_append.2 ⟨ih (by omega), List.pairwise_singleton _ _, fun x hx y hy => ?_⟩
    rw [List.mem_singleton.1 hy]
    unfold pairsTo at hx
    obtain ⟨i, hi, rfl⟩ := List.mem_map.1 hx
    have hi := List.mem_range.1 hi
    have h1 := srt_getD h (i := 2 * i) (j := 2 * j) (by omega) (by omega)
    have h2 := srt_getD h (i := 2 * i + 1) (j := 2 * j + 1) (by omega) (by omega)
    unfold keyP comb
    simp only
    omega
theorem take_pairs (l : List Pk) (b : Nat) (hb : b ≤ l.length / 2) : (pairs l).take b = pairsTo l b := by
  unfold pairs pairsTo
  rw [← List.map_take, List.take_range, Nat.min_eq_left hb]
theorem nxt_of {it : List Pk} (hs : SS.isort keyP it = it) (l : List Pk) : nxt it l = SS.mrg keyP it (pairs l) := by
  unfold nxt
  rw [SS.isort_app, hs]
theorem srt_lst {it : List Pk} (hs : SS.isort keyP it = it) (i : Nat) : SS.Srt keyP (lst it i) := by
  cases i with
  | zero => rw [← hs]; exact SS.srt_isort _
  | succ i => exact SS.srt_isort _
/-- How many items are taken at each step, and what that comes to. -/
def val : List Nat → Nat
  | [] => 0
  | a :: us => a * 2 ^ us.length + val us
theorem cut (it : List Pk) (hs : SS.isort keyP it = it) (i t : Nat) (ht : t ≤ (lst it i).length) :
    ∃ us : List Nat, us.length = i + 1 ∧ us.Pairwise (fun x y => y ≤ x) ∧ (∀ a ∈ us, a ≤ it.length) ∧ val us = t * 2 ^ i ∧ (∀ f : Pk → Nat, (∀ a b, f (comb a b) = f a + f b) → wt f ((lst it i).take t) = (us.map fun a => wt f (it.take a)).sum) ∧ ∀ a, us.head? = some a → ∀ p ∈ it.take a, p ∈ (lst it i).take t := by
  induction i generalizing t with
  | zero =>
    refine ⟨[t], rfl, List.pairwise_singleton _ _, fun a ha => ?_, by simp [val], fun f _ => by simp [lst], fun a ha p hp => ?_⟩
    · rw [List.mem_singleton.1 ha]; exact ht
    · injection ha with ha
      subst ha; exact hp
  | succ i ih =>
    have hsl := srt_lst hs i
    have hM : lst it (i + 1) = SS.mrg keyP it (pairs (lst it i)) := nxt_of hs _
    have hit : SS.Srt keyP it := srt_lst hs 0
    rw [lst_len] at ht
    obtain ⟨a, b, h1, h2, h3, h4, h5, h6⟩ := mrg_take it (pairs (lst it i)) hit (srt_pairsTo hsl _ (Nat.le_refl _)) t (by rw [pairs_len]; exact ht)
    rw [pairs_len] at h3
    obtain ⟨us, g1, g2, g3, g4, g5, g6⟩ := ih (2 * b) (by omega)
    rw [hM]
    refine ⟨a :: us, by rw [List.length_cons, g1], ?_, fun x hx => ?_, ?_, fun f hf => ?_, fun x hx p hp => ?_⟩
    · have hle : ∀ x, us.head? = some x → x ≤ a := fun x hx => by
        rcases Nat.lt_or_ge a x with hlt | h
        · have hxi : x ≤ it.length := g3 x (List.mem_of_mem_head? hx)
          have hai : a < it.length := by omega
          have hin : it[a] ∈ it.take x := by
            refine List.mem_of_getElem? (i := a) ?_
            rw [List.getElem?_take_of_lt hlt, List.getElem?_eq_getElem hai]
          have h9 := mem_take_le hsl (g6 x hx _ hin) (by omega)
          have hb0 : 0 < b := by omega
          have hpb : (pairs (lst it i))[b - 1]? = some (comb ((lst it i).getD (2 * (b - 1)) pk0) ((lst it i).getD (2 * (b - 1) + 1) pk0)) := by
            unfold pairs pairsTo
            rw [List.getElem?_map, List.getElem?_range (by omega)]; rfl
          have h10 := h6 _ _ (List.getElem?_eq_getElem hai) hb0 hpb
          rw [show 2 * (b - 1) + 1 = 2 * b - 1 by omega] at h10
          unfold comb at h10
          simp only at h10
          omega
        · exact h
      cases us with
      | nil => simp at g1
      | cons c cs =>
        have hc := hle c rfl
        have g7 := List.pairwise_cons.1 g2
        refine List.pairwise_cons.2 ⟨fun z hz => ?_, g2⟩
        rcases List.mem_cons.1 hz with rfl | hz
        · exact hc
        · have := g7.1 z hz; omega
    · rcases List.mem_cons.1 hx with rfl | hx
      · exact h2
      · exact g3 x hx
    · show a * 2 ^ us.length + val us = t * 2 ^ (i + 1)
      rw [g1, g4, ← h1, Nat.add_mul, Nat.pow_succ]
      have : 2 * b * 2 ^ i = b * (2 ^ i * 2) := by rw [Nat.mul_comm 2 b, Nat.mul_assoc, Nat.mul_comm 2]
      omega
    · rw [h4 f, take_pairs _ _ h3, wt_pairsTo f hf _ _ h3, g5 f hf]
      rfl
    · injection hx with hx
      subst hx
      exact h5 p hp
/-- How many of the steps take the one of rank r. -/
def ranks (us : List Nat) (r : Nat) : Nat := us.countP fun a => decide (r < a)
def gain : List Nat → Nat → Nat
  | [], _ => 0
  | a :: us, r => (if r < a then 2 ^ us.length else 0) + gain us r
theorem gain_zero {us : List Nat} {r : Nat} (h : ∀ a ∈ us, a ≤ r) : gain us r = 0 ∧ ranks us r = 0 := by
  induction us with
  | nil => exact ⟨rfl, rfl⟩
  | cons a us ih =>
    obtain ⟨h1, h2⟩ := ih fun x hx => h x (List.mem_cons_of_mem _ hx)
    have := h a (List.mem_cons_self ..)
    constructor
    · show (if r < a then _ else 0) + gain us r = 0
      rw [if_neg (by omega), h1]
    · unfold ranks at h2 ⊢
      rw [List.countP_cons_of_neg (by simp; omega), h2]
theorem ranks_le (us : List Nat) (r : Nat) : ranks us r ≤ us.length := List.countP_le_length
theorem gain_rank {us : List Nat} (h : us.Pairwise fun x y => y ≤ x) (r : Nat) : gain us r + 2 ^ (us.length - ranks us r) = 2 ^ us.length := by
  induction us with
  | nil => rfl
  | cons a us ih =>
    have h2 := List.pairwise_cons.1 h
    by_cases hr : r < a
    · have h3 := ih h2.2
      have h4 : ranks (a :: us) r = ranks us r + 1 := by unfold ranks; rw [List.countP_cons_of_pos (by simpa using hr)]
      show (if r < a then 2 ^ us.length else 0) + gain us r + 2 ^ (us.length + 1 - ranks (a :: us) r) = 2 ^ (us.length + 1)
      rw [if_pos hr, h4, Nat.add_sub_add_right, Nat.pow_succ]
      omega
    · obtain ⟨h3, h4⟩ := gain_zero (us := a :: us) (r := r) (fun x hx => by
        rcases List.mem_cons.1 hx with rfl | hx
        · omega
        · have := h2.1 x hx; omega)
      rw [h3, h4]; simp
theorem sum_add {α : Type} (l : List α) (f g : α → Nat) : (l.map fun x => f x + g x).sum = (l.map f).sum + (l.map g).sum := by
  induction l with
  | nil => rfl
  | cons x l ih => simp only [List.map_cons, List.sum_cons, ih]; omega
theorem sum_const {α : Type} (l : List α) (c : Nat) : (l.map fun _ => c).sum = l.length * c := by
  induction l with
  | nil => simp
  | cons x l ih => rw [List.map_cons, List.sum_cons, ih, List.length_cons, Nat.succ_mul]; omega
theorem sum_below (k a c : Nat) (h : a ≤ k) : ((List.range k).map fun r => if r < a then c else 0).sum = a * c := by
  induction k with
  | zero =>
    obtain rfl : a = 0 := by omega
    simp
  | succ k ih =>
    rw [List.range_succ, List.map_append, List.sum_append]
    rcases Nat.lt_or_ge k a with h1 | h1
    · obtain rfl : a = k + 1 := by omega
      have : ((List.range k).map fun r => if r < k + 1 then c else 0) = (List.range k).map fun r => if r < k then c else 0 := List.map_congr_left fun r hr => by
        have := List.mem_range.1 hr
        rw [if_pos (by omega), if_pos this]
      rw [this]
      have h9 : ((List.range k).map fun r => if r < k then c else 0).sum = k * c := by
        clear ih h h1 this
        have : ((List.range k).map fun r => if r < k then c else 0) = (List.range k).map fun _ => c := List.map_congr_left fun r hr => by rw [if_pos (List.mem_range.1 hr)]
        rw [this, sum_const, List.length_range]
      rw [h9]
      simp [Nat.succ_mul]
    · rw [ih h1]; simp; omega
theorem gain_val {us : List Nat} {k : Nat} (h : ∀ a ∈ us, a ≤ k) : ((List.range k).map (gain us)).sum = val us := by
  induction us with
  | nil =>
    show ((List.range k).map fun _ => 0).sum = 0
    rw [sum_const, Nat.mul_zero]
  | cons a us ih =>
    show ((List.range k).map fun r => (if r < a then 2 ^ us.length else 0) + gain us r).sum = a * 2 ^ us.length + val us
    rw [sum_add, sum_below _ _ _ (h a (List.mem_cons_self ..)), ih fun x hx => h x (List.mem_cons_of_mem _ hx)]
theorem val_le {us : List Nat} {c : Nat} (h : ∀ a ∈ us, a ≤ c) : val us + c ≤ c * 2 ^ us.length := by
  induction us with
  | nil => simp [val]
  | cons a us ih =>
    have h1 := ih fun x hx => h x (List.mem_cons_of_mem _ hx)
    have h2 := h a (List.mem_cons_self ..)
    show a * 2 ^ us.length + val us + c ≤ c * 2 ^ (us.length + 1)
    have h3 : a * 2 ^ us.length ≤ c * 2 ^ us.length := Nat.mul_le_mul_right _ h2
    rw [Nat.pow_succ, ← Nat.mul_assoc]
    omega
/-- What 2 k - 2 comes to: full. -/
theorem kraft {us : List Nat} {k m : Nat} (hm : us.length = m + 1) (hc : us.Pairwise fun x y => y ≤ x) (hk : ∀ a ∈ us, a ≤ k) (h2 : 2 ≤ k) (hv : val us = (2 * k - 2) * 2 ^ m) :
    ((List.range k).map fun r => 2 ^ (m + 1 - ranks us r)).sum = 2 ^ (m + 1) ∧ ∀ r, r < k → 1 ≤ ranks us r := by
  constructor
  · have h3 := gain_val hk
    have h4 := sum_add (List.range k) (gain us) (fun r => 2 ^ (m + 1 - ranks us r))
    have h5 : ((List.range k).map fun r => gain us r + 2 ^ (m + 1 - ranks us r)) = (List.range k).map fun _ => 2 ^ (m + 1) := List.map_congr_left fun r _ => by
      have := gain_rank hc r
      rw [hm] at this
      exact this
    have h6 : ((List.range k).map fun _ => 2 ^ (m + 1)).sum = k * 2 ^ (m + 1) := by rw [sum_const, List.length_range]
    rw [h5, h6, h3, hv] at h4
    obtain ⟨q, rfl⟩ : ∃ q, k = q + 1 := ⟨k - 1, by omega⟩
    have h7 : (2 * (q + 1) - 2) * 2 ^ m = q * 2 ^ (m + 1) := by
      rw [show 2 * (q + 1) - 2 = q * 2 by omega, Nat.mul_assoc, Nat.mul_comm 2, ← Nat.pow_succ]
    rw [h7, Nat.succ_mul] at h4
    omega
  · intro r hr
    cases us with
    | nil => simp at hm
    | cons a us =>
      have hak : a = k := by
        have h1 := hk a (List.mem_cons_self ..)
        rcases Nat.lt_or_ge a k with h | h
        · exfalso
          have h3 : ∀ x ∈ a :: us, x ≤ k - 1 := fun x hx => by
            rcases List.mem_cons.1 hx with rfl | hx
            · omega
            · have := (List.pairwise_cons.1 hc).1 x hx; omega
          have h4 := val_le h3
          rw [hv, hm] at h4
          have h7 : (2 * k - 2) * 2 ^ m = (k - 1) * 2 ^ (m + 1) := by
            rw [show 2 * k - 2 = (k - 1) * 2 by omega, Nat.mul_assoc, Nat.mul_comm 2, ← Nat.pow_succ]
          omega
        · omega
      unfold ranks
      rw [List.countP_cons_of_pos (by simp; omega)]
      omega
theorem ranks_mono (us : List Nat) {r s : Nat} (h : r ≤ s) : ranks us s ≤ ranks us r := by
  unfold ranks
  exact List.countP_mono_left fun a _ ha => by simp at ha ⊢; omega
end PL
end Go.Proofs.Ytdlbhoedmaifpaa
