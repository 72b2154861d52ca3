/- HuffCode: canonical codes as plain laws: which symbol has a code, where codes lie, what is read. -/
import Derived.Test.YtdlbhoedmaifpaaHuffI
namespace Go.Proofs.Ytdlbhoedmaifpaa
set_option linter.unusedVariables false
namespace PH
theorem idx_get (m : List Nat) (n k r : Nat) (hk : k ≤ m.length) (h : r < (idx m n k).length) : ∃ i, i < k ∧ (idx m n k).getD r 0 = i ∧ m.getD i 0 = n ∧ (m.take i).count n = r := by
  induction k generalizing r with
  | zero => simp [idx] at h
  | succ k ih =>
    rw [idx_succ] at h ⊢
    have hlen : ∀ q, q ≤ m.length → (idx m n q).length = (m.take q).count n := by
      intro q
      induction q with
      | zero => intro _; simp [idx]
      | succ q ihq =>
        intro hq
        have h1 := ihq (by omega)
        have hg : m.getD q 0 = m[q]'(by omega) := by rw [List.getD_eq_getElem?_getD, List.getElem?_eq_getElem (by omega)]; rfl
        rw [idx_succ, List.take_succ_eq_append_getElem (by omega), List.count_append, hg]
        by_cases e : m[q]'(by omega) = n
        · rw [if_pos e, List.length_append, h1, e]; simp
        · rw [if_neg e, h1]; simp [e]
    by_cases e : m.getD k 0 = n
    · rw [if_pos e] at h ⊢
      rw [List.length_append, List.length_singleton] at h
      rcases Nat.lt_or_ge r (idx m n k).length with hr | hr
      · obtain ⟨i, h1, h2, h3, h4⟩ := ih r (by omega) hr
        refine ⟨i, by omega, ?_, h3, h4⟩
        rw [List.getD_eq_getElem?_getD, List.getElem?_append_left hr, ← List.getD_eq_getElem?_getD]; exact h2
      · have hr2 : r = (idx m n k).length := by omega
        refine ⟨k, by omega, ?_, e, by rw [hr2, hlen k (by omega)]⟩
        rw [List.getD_eq_getElem?_getD, List.getElem?_append_right hr, hr2, Nat.sub_self]; rfl
    · rw [if_neg e] at h ⊢
      obtain ⟨i, h1, h2, h3, h4⟩ := ih r (by omega) h
      exact ⟨i, by omega, h2, h3, h4⟩
theorem tal_pos (m : List Nat) (n : Nat) (h : n ≠ 0) : tal m n = m.count n := by unfold tal; rw [if_neg h]
theorem rank_lt (m : List Nat) (i n : Nat) (hi : i < m.length) (hn : m.getD i 0 = n) : (m.take i).count n < m.count n := by
  have h := List.take_append_drop i m
  have hd : m.drop i = m[i] :: m.drop (i + 1) := List.drop_eq_getElem_cons hi
  have hg : m[i] = n := by rw [← hn, List.getD_eq_getElem?_getD, List.getElem?_eq_getElem hi]; rfl
  have e : m.count n = (m.take i).count n + (m.drop i).count n := by
    conv => lhs; rw [← h]
    rw [List.count_append]
  rw [e, hd, hg, List.count_cons_self]; omega
theorem rank_inj (m : List Nat) (i j n : Nat) (hi : i < m.length) (hj : j < m.length) (hin : m.getD i 0 = n) (hjn : m.getD j 0 = n) (h : (m.take i).count n = (m.take j).count n) : i = j := by
  have key : ∀ i j, i < j → j ≤ m.length → m.getD i 0 = n → (m.take i).count n < (m.take j).count n := by
    intro i j hij hj hin
    have h1 := rank_lt (m.take j) i n (by rw [List.length_take]; omega) (by rw [List.getD_eq_getElem?_getD, List.getElem?_take_of_lt hij, ← List.getD_eq_getElem?_getD]; exact hin)
    rwa [List.take_take, Nat.min_eq_left (by omega)] at h1
  rcases Nat.lt_trichotomy i j with h1 | h1 | h1
  · have := key i j h1 (by omega) hin; omega
  · exact h1
  · have := key j i h1 (by omega) hjn; omega
theorem codeAt_of (m : List Nat) (i n : Nat) (hn : m.getD i 0 = n) (h0 : n ≠ 0) : codeAt m i = fst m n + (m.take i).count n := by
  unfold codeAt; rw [hn, if_neg h0]
theorem codeAt_lt (m : List Nat) (i n : Nat) (hi : i < m.length) (hn : m.getD i 0 = n) (h0 : n ≠ 0) : fst m n ≤ codeAt m i ∧ codeAt m i < fst m n + tal m n := by
  rw [codeAt_of m i n hn h0, tal_pos m n h0]
  have := rank_lt m i n hi hn
  omega
theorem rowsB_take (m : List Nat) (n k : Nat) (h : n ≤ k) : ∃ t, rowsB m k = rowsB m n ++ t := by
  obtain ⟨d, rfl⟩ : ∃ d, k = n + d := ⟨k - n, by omega⟩
  clear h
  induction d with
  | zero => exact ⟨[], by simp⟩
  | succ d ih =>
    obtain ⟨t, ht⟩ := ih
    exact ⟨t ++ idx m (n + d + 1) m.length, by rw [← Nat.add_assoc, rowsB, ht, List.append_assoc]⟩
/-- The symbol of a code of n bits. -/
theorem code_sym (m : List Nat) (n c : Nat) (hn : n < 15) (h1 : fst m (n + 1) ≤ c) (h2 : c < fst m (n + 1) + tal m (n + 1)) :
    ∃ i, i < m.length ∧ m.getD i 0 = n + 1 ∧ codeAt m i = c ∧ (rows m).getD ((rowsB m n).length + (c - fst m (n + 1))) 0 = i := by
  have hl := rowsB_tal m n
  rw [rowsB, List.length_append] at hl
  obtain ⟨i, hi, hg, hm, hc⟩ := idx_get m (n + 1) m.length (c - fst m (n + 1)) (Nat.le_refl _) (by omega)
  refine ⟨i, hi, hm, by rw [codeAt_of m i (n + 1) hm (by omega), hc]; omega, ?_⟩
  obtain ⟨t, ht⟩ := rowsB_take m (n + 1) 15 (by omega)
  unfold rows
  rw [ht, rowsB, List.append_assoc, List.getD_eq_getElem?_getD, List.getElem?_append_right (by omega), show (rowsB m n).length + (c - fst m (n + 1)) - (rowsB m n).length = c - fst m (n + 1) by omega, List.getElem?_append_left (by omega), ← List.getD_eq_getElem?_getD]
  exact hg
/-- Two symbols of one length and one code are one. -/
theorem code_inj (m : List Nat) (i j : Nat) (hi : i < m.length) (hj : j < m.length) (h0 : m.getD i 0 ≠ 0) (hl : m.getD i 0 = m.getD j 0) (hc : codeAt m i = codeAt m j) : i = j := by
  rw [codeAt_of m i _ rfl h0, codeAt_of m j _ hl.symm h0] at hc
  exact rank_inj m i j _ hi hj rfl hl.symm (by omega)
theorem fst_share15 (m : List Nat) (n : Nat) (h1 : 1 ≤ n) (h : n ≤ 15) : fst m n * 2 ^ (15 - n) = share m n := by
  have := fst_share m n h1 (by omega)
  rw [show 16 - n = (15 - n) + 1 by omega, Nat.pow_succ, ← Nat.mul_assoc] at this
  omega
theorem share_next (m : List Nat) (n : Nat) (h1 : 1 ≤ n) (h : n ≤ 15) : (fst m n + tal m n) * 2 ^ (15 - n) = share m (n + 1) := by
  rw [Nat.add_mul, fst_share15 m n h1 h, share]
theorem share_one (m : List Nat) : share m 1 = 0 := by simp [share, tal]
/-- A row of 15 bits begins with a code. -/
def hit (m : List Nat) (R i : Nat) : Prop := m.getD i 0 ≠ 0 ∧ R / 2 ^ (15 - m.getD i 0) = codeAt m i
instance (m : List Nat) (R i : Nat) : Decidable (hit m R i) := inferInstanceAs (Decidable (_ ∧ _))
theorem hit_share (m : List Nat) (R i : Nat) (hi : i < m.length) (h15 : m.getD i 0 ≤ 15) (h : hit m R i) : share m (m.getD i 0) ≤ R ∧ R < share m (m.getD i 0 + 1) := by
  obtain ⟨h0, h1⟩ := h
  obtain ⟨h2, h3⟩ := codeAt_lt m i _ hi rfl h0
  rw [← h1] at h2 h3
  have hp : 0 < 2 ^ (15 - m.getD i 0) := Nat.two_pow_pos _
  constructor
  · rw [← fst_share15 m _ (by omega) h15]
    exact Nat.le_trans (Nat.mul_le_mul_right _ h2) (Nat.div_mul_le_self _ _)
  · rw [← share_next m _ (by omega) h15]
    exact (Nat.div_lt_iff_lt_mul hp).1 h3
theorem hit_uniq (m : List Nat) (h15 : ∀ x ∈ m, x ≤ 15) (R i j : Nat) (hi : i < m.length) (hj : j < m.length) (h : hit m R i) (k : hit m R j) : i = j := by
  have hg : ∀ i, i < m.length → m.getD i 0 ≤ 15 := fun i hi => h15 _ (by rw [List.getD_eq_getElem?_getD, List.getElem?_eq_getElem hi]; exact List.getElem_mem hi)
  obtain ⟨a1, a2⟩ := hit_share m R i hi (hg i hi) h
  obtain ⟨b1, b2⟩ := hit_share m R j hj (hg j hj) k
  have e : m.getD i 0 = m.getD j 0 := by
    rcases Nat.lt_trichotomy (m.getD i 0) (m.getD j 0) with q | q | q
    · have := share_mono m (m.getD i 0 + 1) (m.getD j 0) q; omega
    · exact q
    · have := share_mono m (m.getD j 0 + 1) (m.getD i 0) q; omega
  refine code_inj m i j hi hj h.1 e ?_
  rw [← h.2, ← k.2, e]
/-- Where a number lies among the shares. -/
theorem share_find (m : List Nat) (R : Nat) (h : R < sum m) : ∃ n, 1 ≤ n ∧ n ≤ 15 ∧ share m n ≤ R ∧ R < share m (n + 1) := by
  have key : ∀ k, R < share m (k + 1) → ∃ n, 1 ≤ n ∧ n ≤ k ∧ share m n ≤ R ∧ R < share m (n + 1) := by
    intro k
    induction k with
    | zero => intro h; rw [show share m (0 + 1) = 0 from share_one m] at h; omega
    | succ k ih =>
      intro h
      by_cases h2 : R < share m (k + 1)
      · obtain ⟨n, q⟩ := ih h2
        exact ⟨n, q.1, by omega, q.2.2⟩
      · exact ⟨k + 1, by omega, by omega, by omega, h⟩
  exact key 15 h
/-- Bits, the first the highest, of a number. -/
def bits15 (R : Nat) : List Bool := (List.range 15).map fun k => R.testBit (14 - k)
theorem bits15_len (R : Nat) : (bits15 R).length = 15 := by simp [bits15]
theorem bits15_numb (R k : Nat) (hR : R < 32768) (hk : k ≤ 15) : numb ((bits15 R).take k) = R / 2 ^ (15 - k) := by
  induction k with
  | zero => simp [numb]; omega
  | succ k ih =>
    have h1 : (bits15 R).take (k + 1) = (bits15 R).take k ++ [R.testBit (14 - k)] := by
      rw [List.take_succ_eq_append_getElem (by rw [bits15_len]; omega)]
      simp [bits15]
    rw [h1, numb_snoc, ih (by omega), show 15 - (k + 1) = 14 - k by omega, show 15 - k = (14 - k) + 1 by omega, Nat.pow_succ, ← Nat.div_div_eq_div_mul]
    have hb : bitV (R.testBit (14 - k)) = R / 2 ^ (14 - k) % 2 := by
      rw [Nat.testBit_eq_decide_div_mod_eq]
      unfold bitV
      by_cases q : R / 2 ^ (14 - k) % 2 = 1
      · simp [q]
      · simp [q]; omega
    rw [hb]; omega
/-- What a full book reads of 15 bits, and what of any book with more. -/
theorem next_hit (m : List Nat) (R : Nat) (hR : R < 32768) (h : R < sum m) :
    ∃ i, i < m.length ∧ hit m R i ∧ nextFrom m (bits15 R) 15 0 = (m.getD i 0, 0, i) := by
  obtain ⟨n, h1, h15, ha, hb⟩ := share_find m R h
  obtain ⟨p, rfl⟩ : ∃ p, n = p + 1 := ⟨n - 1, by omega⟩
  have hc1 : fst m (p + 1) ≤ R / 2 ^ (15 - (p + 1)) := by
    rw [Nat.le_div_iff_mul_le (Nat.two_pow_pos _), fst_share15 m _ h1 h15]; exact ha
  have hc2 : R / 2 ^ (15 - (p + 1)) < fst m (p + 1) + tal m (p + 1) := by
    rw [Nat.div_lt_iff_lt_mul (Nat.two_pow_pos _), share_next m _ h1 h15]; exact hb
  obtain ⟨i, hi, hm, hc, hr⟩ := code_sym m p _ (by omega) hc1 hc2
  refine ⟨i, hi, ⟨by omega, by rw [hm]; exact hc.symm⟩, ?_⟩
  have key : ∀ k q, k + q = 15 → q ≤ p → nextFrom m (bits15 R) k q = (p + 1, 0, i) := by
    intro k
    induction k with
    | zero => intro q h1 h2; omega
    | succ k ih =>
      intro q h1 h2
      rw [nextFrom, if_neg (by rw [bits15_len]; omega), bits15_numb R (q + 1) hR (by omega)]
      by_cases e : q = p
      · subst e
        rw [if_pos hc2, hr]
      · have : ¬ R / 2 ^ (15 - (q + 1)) < fst m (q + 1) + tal m (q + 1) := by
          rw [Nat.div_lt_iff_lt_mul (Nat.two_pow_pos _), share_next m _ (by omega) (by omega)]
          have := share_mono m (q + 1 + 1) (p + 1) (by omega)
          omega
        rw [if_neg this]
        exact ih (q + 1) (by omega) (by omega)
  rw [key 15 0 rfl (Nat.zero_le _), hm]
theorem no_hit (m : List Nat) (h15 : ∀ x ∈ m, x ≤ 15) (R i : Nat) (hi : i < m.length) (h : sum m ≤ R) : ¬ hit m R i := fun k => by
  have hg : m.getD i 0 ≤ 15 := h15 _ (by rw [List.getD_eq_getElem?_getD, List.getElem?_eq_getElem hi]; exact List.getElem_mem hi)
  have h1 := (hit_share m R i hi hg k).2
  have h2 := share_mono m (m.getD i 0 + 1) 16 (by omega)
  unfold sum at h
  omega
theorem rows_len (m : List Nat) : ∀ n, n ≤ 15 → (rowsB m n).length = ((List.range (n + 1)).map (tal m)).sum := by
  intro n
  induction n with
  | zero => intro _; simp [rowsB, tal]
  | succ n ih =>
    intro h
    rw [rowsB_tal, ih (by omega), List.range_succ (n := n + 1), List.map_append, List.sum_append]
    simp
theorem tal_le_rows (m : List Nat) (n : Nat) (h1 : 1 ≤ n) (h : n ≤ 15) : tal m n ≤ (rows m).length := by
  obtain ⟨p, rfl⟩ : ∃ p, n = p + 1 := ⟨n - 1, by omega⟩
  have h2 := rowsB_tal m p
  have h3 := rowsB_mono m (p + 1) 15 h
  unfold rows; omega
/-- No codes; or one of one bit. -/
theorem sum_none (m : List Nat) (h : (rows m).length = 0) : sum m = 0 := by
  have key : ∀ n, n ≤ 16 → share m n = 0 := by
    intro n
    induction n with
    | zero => intro _; rfl
    | succ n ih =>
      intro hn
      rw [share, ih (by omega)]
      rcases Nat.eq_zero_or_pos n with h0 | h0
      · subst h0; simp [tal]
      · have := tal_le_rows m n h0 (by omega)
        rw [show tal m n = 0 by omega]; simp
  exact key 16 (Nat.le_refl _)
theorem sum_single (m : List Nat) (h : (rows m).length = 1) (h1 : tal m 1 = 1) : sum m = 16384 := by
  have hz : ∀ n, 2 ≤ n → n ≤ 15 → tal m n = 0 := by
    intro n h2 h3
    obtain ⟨p, rfl⟩ : ∃ p, n = p + 1 := ⟨n - 1, by omega⟩
    have q1 := rowsB_tal m 0
    have q2 := rowsB_mono m 1 p (by omega)
    have q3 := rowsB_tal m p
    have q4 := rowsB_mono m (p + 1) 15 h3
    unfold rows at h
    rw [show (rowsB m 0).length = 0 from rfl, show 0 + 1 = 1 from rfl] at q1
    omega
  have key : ∀ n, 2 ≤ n → n ≤ 16 → share m n = 16384 := by
    intro n
    induction n with
    | zero => intro h; omega
    | succ n ih =>
      intro h2 hn
      rcases Nat.lt_or_ge n 2 with q | q
      · obtain rfl : n = 1 := by omega
        rw [share, share_one, h1]
      · rw [share, ih q (by omega), hz n q (by omega)]; simp
  exact key 16 (by omega) (by omega)
theorem share_two (m : List Nat) : share m 2 = tal m 1 * 16384 := by rw [share, share_one]; simp
theorem next_one (m : List Nat) (R : Nat) (hR : R < 32768) :
    (R < share m 2 → ∃ i, i < m.length ∧ hit m R i ∧ nextFrom m (bits15 R) 1 0 = (m.getD i 0, 0, i)) ∧ (share m 2 ≤ R → nextFrom m (bits15 R) 1 0 = (1, 20, 0)) := by
  have hf : fst m 1 = 0 := rfl
  have hn := bits15_numb R 1 hR (by omega)
  rw [share_two]
  constructor
  · intro h
    have hlt : R / 2 ^ 14 < fst m (0 + 1) + tal m (0 + 1) := by
      show R / 16384 < 0 + tal m 1; omega
    obtain ⟨i, hi, hm, hc, hr⟩ := code_sym m 0 (R / 2 ^ 14) (by omega) (by show 0 ≤ _; omega) hlt
    refine ⟨i, hi, ⟨by rw [hm]; omega, by rw [hm]; exact hc.symm⟩, ?_⟩
    rw [nextFrom, if_neg (by rw [bits15_len]; omega), hn, if_pos hlt, hm]
    exact congrArg (fun z => (1, (0 : Int), z)) hr
  · intro h
    rw [nextFrom, if_neg (by rw [bits15_len]; omega), hn, if_neg (by show ¬ R / 16384 < 0 + tal m 1; omega)]
    rfl
/-- What a book reads of 15 bits: the symbol whose code they begin with, where there is one. -/
theorem book_reads (m : List Nat) (R mo : Nat) (hR : R < 32768) (hb : mayBook m = true) (hmo : mostOf m = (mo : Int)) :
    (R < sum m → ∃ i, i < m.length ∧ hit m R i ∧ nextFrom m (bits15 R) mo 0 = (m.getD i 0, 0, i)) ∧ (sum m ≤ R → nextFrom m (bits15 R) mo 0 = (1, 20, 0)) := by
  unfold mostOf at hmo
  unfold mayBook at hb
  simp only [Bool.or_eq_true, Bool.and_eq_true, decide_eq_true_eq] at hb
  by_cases hst : PH.state m = 0
  · rw [if_pos hst] at hmo
    obtain rfl : mo = 15 := by omega
    refine ⟨fun h => next_hit m R hR h, fun h => ?_⟩
    exfalso
    unfold PH.state at hst
    by_cases q : sum m < 32768
    · rw [if_pos q] at hst; omega
    · omega
  · rw [if_neg hst] at hmo
    obtain rfl : mo = 1 := by omega
    have hs : sum m = share m 2 := by
      rcases hb with h | h | ⟨h1, h2⟩
      · exact absurd h hst
      · rw [sum_none m h, share_two]
        have := tal_le_rows m 1 (by omega) (by omega)
        rw [show tal m 1 = 0 by omega]
      · rw [sum_single m h1 h2, share_two, h2]
    rw [hs]
    exact next_one m R hR
theorem many_no_book (m : List Nat) (h : PH.state m = 1) : mayBook m = false := by
  have hs : 32768 < sum m := by
    unfold PH.state at h
    by_cases q : sum m < 32768
    · rw [if_pos q] at h; omega
    · rw [if_neg q] at h
      by_cases q2 : 32768 < sum m
      · exact q2
      · rw [if_neg q2] at h; omega
  cases hb : mayBook m with
  | false => rfl
  | true =>
    exfalso
    unfold mayBook at hb
    simp only [Bool.or_eq_true, Bool.and_eq_true, decide_eq_true_eq] at hb
    rcases hb with h2 | h2 | ⟨h1, h2⟩
    · omega
    · rw [sum_none m h2] at hs; omega
    · rw [sum_single m h1 h2] at hs; omega
end PH
end Go.Proofs.Ytdlbhoedmaifpaa
