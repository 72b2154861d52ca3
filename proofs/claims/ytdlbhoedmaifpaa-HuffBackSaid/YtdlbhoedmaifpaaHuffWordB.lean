/- HuffWordB: of the lengths that Lengths answers a book is made, and every code is in it. Nothing of the model. -/
import Derived.Test.YtdlbhoedmaifpaaHuffMinB
import Derived.Test.YtdlbhoedmaifpaaHuffWord
namespace Go.Proofs.Ytdlbhoedmaifpaa
set_option linter.unusedVariables false
set_option linter.unusedSimpArgs false
namespace PL
theorem lens_one (cs : List Nat) (m z : Nat) (hm : 1 ≤ m) (hk : (items cs).length ≤ 2 ^ m) (h2 : (items cs).length < 2) (hz : z < cs.length) : (lens cs m).getD z 0 ≤ 1 := by
  obtain ⟨us, h1, h2', h3, h4, h5⟩ := shape cs m hm hk
  rcases Nat.eq_zero_or_pos (cs.getD z 0) with h0 | h0
  · rw [lens_none (m := m) h3 z h0]; omega
  · obtain ⟨r, hr, e⟩ := rank_of hz h0
    have h9 := lens_rank h3 r hr
    rw [e] at h9
    rw [h9, h5 (by rw [len_sorted]; exact h2) r hr]
    omega
theorem tal_none {m : List Nat} (h : ∀ x ∈ m, x ≤ 1) (n : Nat) (hn : 2 ≤ n) : PH.tal m n = 0 := by
  rw [PH.tal_pos m n (by omega)]
  refine List.count_eq_zero.2 fun hx => ?_
  have := h n hx
  omega
theorem share_few {m : List Nat} (h : ∀ x ∈ m, x ≤ 1) (d : Nat) : PH.share m (d + 2) = PH.tal m 1 * 16384 := by
  induction d with
  | zero => exact PH.share_two m
  | succ d ih =>
    show PH.share m (d + 2) + PH.tal m (d + 2) * _ = _
    rw [ih, tal_none h (d + 2) (by omega)]; omega
theorem rows_few {m : List Nat} (h : ∀ x ∈ m, x ≤ 1) (d : Nat) : (PH.rowsB m (d + 1)).length = PH.tal m 1 := by
  induction d with
  | zero =>
    rw [PH.rowsB_tal]
    show 0 + PH.tal m 1 = PH.tal m 1
    omega
  | succ d ih =>
    rw [PH.rowsB_tal, ih, tal_none h (d + 1 + 1) (by omega)]; omega
/-- How many bits the book looks at, at most; and a book is made. -/
theorem lens_book (cs : List Nat) (m : Nat) (hm : 1 ≤ m) (h15 : m ≤ 15) (hk : (items cs).length ≤ 2 ^ m) : mayBook (lens cs m) = true ∧ PH.sum (lens cs m) ≤ 32768 ∧ ∃ mo, mostOf (lens cs m) = ((mo : Nat) : Int) ∧ 1 ≤ mo ∧ mo ≤ 15 ∧ ∀ z, z < cs.length → (lens cs m).getD z 0 ≤ mo := by
  have hs := lens_sum cs m hm h15 hk
  by_cases h2 : 2 ≤ (items cs).length
  · rw [if_pos h2] at hs
    have hst : PH.state (lens cs m) = 0 := by unfold PH.state; rw [hs]; rfl
    refine ⟨?_, by omega, 15, ?_, by omega, by omega, fun z hz => Nat.le_trans (lens_in cs m z hm hk hz).2.2 h15⟩
    · unfold mayBook; rw [hst]; rfl
    · unfold mostOf; rw [if_pos hst]; rfl
  · rw [if_neg h2] at hs
    have hle : ∀ x ∈ lens cs m, x ≤ 1 := fun x hx => by
      obtain ⟨z, hz, rfl⟩ := List.getElem_of_mem hx
      have := lens_one cs m z hm hk (by omega) (by rw [lens_len] at hz; exact hz)
      rwa [List.getD_eq_getElem?_getD, List.getElem?_eq_getElem hz] at this
    have h3 : PH.sum (lens cs m) = PH.tal (lens cs m) 1 * 16384 := share_few hle 14
    have h4 : (PH.rows (lens cs m)).length = PH.tal (lens cs m) 1 := rows_few hle 14
    have hst : PH.state (lens cs m) = -1 := by unfold PH.state; rw [if_pos (by omega)]
    refine ⟨?_, by omega, 1, ?_, by omega, by omega, fun z hz => lens_one cs m z hm hk (by omega) hz⟩
    · unfold mayBook
      rw [h4]
      have : PH.tal (lens cs m) 1 = 0 ∨ PH.tal (lens cs m) 1 = 1 := by omega
      rcases this with h | h <;> rw [h] <;> simp
    · unfold mostOf; rw [if_neg (by rw [hst]; decide)]; rfl
/-- With no counts nothing is read. -/
theorem next_nothing (cs : List Nat) (m : Nat) (hm : 1 ≤ m) (hk : (items cs).length ≤ 2 ^ m) (h0 : ∀ z, z < cs.length → cs.getD z 0 = 0) : mostOf (lens cs m) = 1 ∧ PH.nextFrom (lens cs m) [true] 1 0 = (1, 20, 0) := by
  have hi : (items cs).length = 0 := by
    rw [← len_sorted]
    rcases Nat.eq_zero_or_pos (sorted cs).length with h | h
    · exact h
    · have := at_sorted h
      have h1 := h0 _ this.1
      omega
  have hle : ∀ x ∈ lens cs m, x ≤ 1 := fun x hx => by
    obtain ⟨z, hz, rfl⟩ := List.getElem_of_mem hx
    have := lens_one cs m z hm hk (by omega) (by rw [lens_len] at hz; exact hz)
    rwa [List.getD_eq_getElem?_getD, List.getElem?_eq_getElem hz] at this
  have h3 : PH.tal (lens cs m) 1 = 0 := by
    rw [PH.tal_pos _ _ (by omega)]
    refine List.count_eq_zero.2 fun hx => ?_
    obtain ⟨z, hz, e⟩ := List.getElem_of_mem hx
    have hzc : z < cs.length := by rw [lens_len] at hz; exact hz
    have := (lens_in cs m z hm hk hzc).2.1 (h0 z hzc)
    rw [List.getD_eq_getElem?_getD, List.getElem?_eq_getElem hz] at this
    simp only [Option.getD_some] at this
    omega
  have h4 : PH.sum (lens cs m) = PH.tal (lens cs m) 1 * 16384 := share_few hle 14
  constructor
  · unfold mostOf
    rw [if_neg]
    unfold PH.state
    rw [if_pos (by omega)]; decide
  · have hn : PH.numb ([true].take (0 + 1)) = 1 := by decide
    rw [PH.nextFrom, if_neg (by decide), hn, if_neg (by rw [h3]; show ¬ 1 < 0 + 0; omega)]
    rfl
end PL
end Go.Proofs.Ytdlbhoedmaifpaa
