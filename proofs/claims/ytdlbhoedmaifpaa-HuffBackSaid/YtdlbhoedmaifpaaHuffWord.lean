/- HuffWord: words of codes, one behind the other, are read as they were; no code begins another one. Nothing of the model. -/
import Derived.Test.YtdlbhoedmaifpaaHuffCode
import Derived.Test.YtdlbhoedmaifpaaBitsMath
namespace Go.Proofs.Ytdlbhoedmaifpaa
set_option linter.unusedVariables false
set_option linter.unusedSimpArgs false
namespace PH
/-- The bits of a code, the first the highest. -/
def bitsC (n c : Nat) : List Bool := (List.range n).map fun k => c.testBit (n - 1 - k)
theorem bitsC_len (n c : Nat) : (bitsC n c).length = n := by simp [bitsC]
theorem bitsC_rev (n c : Nat) : bitsC n c = (List.range n).map fun k => (PBits.rev c n).testBit k := by
  unfold bitsC
  refine List.map_congr_left fun k hk => ?_
  rw [PBits.rev_bit, decide_eq_true (List.mem_range.1 hk), Bool.true_and]
theorem bitsC_numb (n c k : Nat) (hc : c < 2 ^ n) (hk : k ≤ n) : numb ((bitsC n c).take k) = c / 2 ^ (n - k) := by
  induction k with
  | zero => rw [List.take_zero, Nat.sub_zero, Nat.div_eq_of_lt hc]; rfl
  | succ k ih =>
    have h1 : (bitsC n c).take (k + 1) = (bitsC n c).take k ++ [c.testBit (n - 1 - k)] := by
      rw [List.take_succ_eq_append_getElem (by rw [bitsC_len]; omega)]
      simp [bitsC]
    rw [h1, numb_snoc, ih (by omega), show n - (k + 1) = n - 1 - k by omega, show n - k = (n - 1 - k) + 1 by omega, Nat.pow_succ, ← Nat.div_div_eq_div_mul]
    have hb : bitV (c.testBit (n - 1 - k)) = c / 2 ^ (n - 1 - k) % 2 := by
      rw [Nat.testBit_eq_decide_div_mod_eq]
      unfold bitV
      by_cases q : c / 2 ^ (n - 1 - k) % 2 = 1
      · simp [q]
      · simp [q]; omega
    rw [hb]; omega
theorem code_lt (m : List Nat) (i p : Nat) (hi : i < m.length) (hp : m.getD i 0 = p + 1) (h15 : p + 1 ≤ 15) (hs : sum m ≤ 32768) : codeAt m i < 2 ^ (p + 1) := by
  have h1 := (codeAt_lt m i (p + 1) hi hp (by omega)).2
  have h2 := share_next m (p + 1) (by omega) h15
  have h3 := share_mono m (p + 1 + 1) 16 (by omega)
  unfold sum at hs
  have h4 : (2 : Nat) ^ (p + 1) * 2 ^ (15 - (p + 1)) = 32768 := by rw [← Nat.pow_add, show p + 1 + (15 - (p + 1)) = 15 by omega]
  have h5 : (fst m (p + 1) + tal m (p + 1)) * 2 ^ (15 - (p + 1)) ≤ 2 ^ (p + 1) * 2 ^ (15 - (p + 1)) := by rw [h2, h4]; omega
  have h6 := Nat.le_of_mul_le_mul_right h5 (Nat.two_pow_pos _)
  omega
/-- A code ahead of whatever bits is read as its symbol. -/
theorem next_code (m : List Nat) (i p mo : Nat) (rest : List Bool) (hi : i < m.length) (hp : m.getD i 0 = p + 1) (hmo : p + 1 ≤ mo) (h15 : mo ≤ 15) (hs : sum m ≤ 32768) : nextFrom m (bitsC (p + 1) (codeAt m i) ++ rest) mo 0 = (p + 1, 0, i) := by
  obtain ⟨c, hc⟩ : ∃ c, codeAt m i = c := ⟨_, rfl⟩
  have h1 := codeAt_lt m i (p + 1) hi hp (by omega)
  have h2 := code_lt m i p hi hp (by omega) hs
  rw [hc] at h1 h2 ⊢
  have hn : ∀ q, q ≤ p → numb ((bitsC (p + 1) c ++ rest).take (q + 1)) = c / 2 ^ (p - q) := fun q hq => by
    rw [List.take_append_of_le_length (by rw [bitsC_len]; omega), bitsC_numb _ _ _ h2 (by omega), show p + 1 - (q + 1) = p - q by omega]
  have hl : ∀ q, q ≤ p → ¬ (bitsC (p + 1) c ++ rest).length ≤ q := fun q hq => by rw [List.length_append, bitsC_len]; omega
  obtain ⟨j, hj, hjm, hjc, hjr⟩ := code_sym m p c (by omega) h1.1 h1.2
  have hji : j = i := code_inj m j i hj hi (by rw [hjm]; omega) (by rw [hjm, hp]) (by rw [hjc, hc])
  subst hji
  have key : ∀ k q, k + q = mo → q ≤ p → nextFrom m (bitsC (p + 1) c ++ rest) k q = (p + 1, 0, j) := by
    intro k
    induction k with
    | zero => intro q h3 h4; omega
    | succ k ih =>
      intro q h3 h4
      rw [nextFrom, if_neg (hl q h4), hn q h4]
      by_cases e : q = p
      · subst e
        rw [Nat.sub_self, Nat.pow_zero, Nat.div_one, if_pos h1.2, hjr]
      · have : ¬ c / 2 ^ (p - q) < fst m (q + 1) + tal m (q + 1) := by
          rw [Nat.not_lt, Nat.le_div_iff_mul_le (Nat.two_pow_pos _)]
          have g1 := share_next m (q + 1) (by omega) (by omega)
          have g2 := fst_share15 m (p + 1) (by omega) (by omega)
          have g3 := share_mono m (q + 1 + 1) (p + 1) (by omega)
          have g4 : (fst m (q + 1) + tal m (q + 1)) * 2 ^ (p - q) * 2 ^ (15 - (p + 1)) ≤ fst m (p + 1) * 2 ^ (15 - (p + 1)) := by
            rw [Nat.mul_assoc, ← Nat.pow_add, show p - q + (15 - (p + 1)) = 15 - (q + 1) by omega, g1, g2]
            exact g3
          have := Nat.le_of_mul_le_mul_right g4 (Nat.two_pow_pos _)
          omega
        rw [if_neg this]
        exact ih (q + 1) (by omega) (by omega)
  exact key mo 0 rfl (Nat.zero_le _)
/-- No code is the beginning of another one. -/
theorem begin_ne (m : List Nat) (h15 : ∀ x ∈ m, x ≤ 15) (hs : sum m ≤ 32768) (i j li lj s : Nat) (hi : i < m.length) (hj : j < m.length) (hij : i ≠ j) (hli : m.getD i 0 = li) (hlj : m.getD j 0 = lj) (h0 : 0 < s) (hsi : s ≤ li) (hsj : s ≤ lj) (hmin : s = li ∨ s = lj) : codeAt m i / 2 ^ (li - s) ≠ codeAt m j / 2 ^ (lj - s) := by
  have key : ∀ a b la lb, a < m.length → b < m.length → a ≠ b → m.getD a 0 = la → m.getD b 0 = lb → 0 < la → la ≤ lb → codeAt m a ≠ codeAt m b / 2 ^ (lb - la) := by
    intro a b la lb ha hb hab hla hlb hl0 hle he
    have hb15 : lb ≤ 15 := by
      rw [← hlb, List.getD_eq_getElem?_getD, List.getElem?_eq_getElem hb]
      exact h15 _ (List.getElem_mem hb)
    refine hab (hit_uniq m h15 (codeAt m b * 2 ^ (15 - lb)) a b ha hb ⟨by rw [hla]; omega, ?_⟩ ⟨by rw [hlb]; omega, ?_⟩)
    · rw [hla, he, show 15 - la = (15 - lb) + (lb - la) by omega, Nat.pow_add, ← Nat.div_div_eq_div_mul, Nat.mul_div_cancel _ (Nat.two_pow_pos _)]
    · rw [hlb, Nat.mul_div_cancel _ (Nat.two_pow_pos _)]
  rcases hmin with rfl | rfl
  · rw [Nat.sub_self, Nat.pow_zero, Nat.div_one]
    exact key i j _ lj hi hj hij hli hlj h0 hsj
  · rw [Nat.sub_self, Nat.pow_zero, Nat.div_one]
    exact fun h => key j i _ li hj hi (Ne.symm hij) hlj hli h0 hsi h.symm
theorem next_end (m : List Nat) (mo : Nat) (h : 0 < mo) : nextFrom m [] mo 0 = (0, 4, 0) := by
  obtain ⟨k, rfl⟩ : ∃ k, mo = k + 1 := ⟨mo - 1, by omega⟩
  rfl
theorem rev_code (m : List Nat) (i n : Nat) (h : codeAt m i < 2 ^ n) : PBits.rev (PBits.rev (codeAt m i) n) n = codeAt m i := by
  rw [PBits.rev_rev, Nat.mod_eq_of_lt h]
/-- What a row of symbols is written as. -/
def word (m : List Nat) (l : List Nat) : List Bool := l.flatMap fun s => bitsC (m.getD s 0) (codeAt m s)
theorem word_app (m : List Nat) (l : List Nat) (s : Nat) : word m (l ++ [s]) = word m l ++ bitsC (m.getD s 0) (codeAt m s) := by
  unfold word; rw [List.flatMap_append]; simp
theorem word_len (m : List Nat) (h15 : ∀ x ∈ m, x ≤ 15) (l : List Nat) : (word m l).length ≤ 15 * l.length := by
  induction l with
  | nil => exact Nat.zero_le _
  | cons s l ih =>
    show (bitsC _ _ ++ word m l).length ≤ _
    rw [List.length_append, bitsC_len, List.length_cons]
    have : m.getD s 0 ≤ 15 := by
      rw [List.getD_eq_getElem?_getD]
      rcases Nat.lt_or_ge s m.length with h | h
      · rw [List.getElem?_eq_getElem h]; exact h15 _ (List.getElem_mem h)
      · rw [List.getElem?_eq_none h]; exact Nat.zero_le _
    omega
/-- What Next reads where the first k symbols are read. -/
theorem next_word (m : List Nat) (l : List Nat) (k mo : Nat) (hk : k < l.length) (hs : sum m ≤ 32768) (h15 : mo ≤ 15) (hl : ∀ s ∈ l, s < m.length ∧ 0 < m.getD s 0 ∧ m.getD s 0 ≤ mo) :
    nextFrom m ((word m l).drop (word m (l.take k)).length) mo 0 = (m.getD l[k] 0, 0, l[k]) ∧ (word m (l.take (k + 1))).length = (word m (l.take k)).length + m.getD l[k] 0 := by
  have h1 := hl l[k] (List.getElem_mem hk)
  obtain ⟨p, hp⟩ : ∃ p, m.getD l[k] 0 = p + 1 := ⟨m.getD l[k] 0 - 1, by omega⟩
  have e1 : word m l = word m (l.take k) ++ (bitsC (m.getD l[k] 0) (codeAt m l[k]) ++ word m (l.drop (k + 1))) := by
    conv => lhs; rw [← List.take_append_drop k l, List.drop_eq_getElem_cons hk]
    unfold word
    rw [List.flatMap_append, List.flatMap_cons]
  constructor
  · rw [e1, List.drop_left, hp]
    exact next_code m _ p mo _ h1.1 hp (by omega) h15 hs
  · rw [List.take_succ_eq_append_getElem hk, word_app, List.length_append, bitsC_len]
end PH
end Go.Proofs.Ytdlbhoedmaifpaa
