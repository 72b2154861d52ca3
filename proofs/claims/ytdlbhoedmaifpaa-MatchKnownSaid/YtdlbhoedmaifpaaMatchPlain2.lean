/- MatchPlain2: the best match and the cut, as plain functions. -/
import Derived.Test.YtdlbhoedmaifpaaMatchPlain
namespace Go.Proofs.Ytdlbhoedmaifpaa
namespace PM
/-- The best of the places, the nearest one first; d of them at most. -/
def go (B : List UInt8) (q : Nat) : List Nat → Nat → Nat × Nat → Nat × Nat
  | [], _, b => b
  | p :: ps, d, b => if d = 0 then b else if 32768 < q - p then b else go B q ps (d - 1) (if b.1 < mlen B p q then (mlen B p q, q - p) else b)
theorem go_zero (B : List UInt8) (q : Nat) (ps : List Nat) (b : Nat × Nat) : go B q ps 0 b = b := by cases ps <;> rfl
def best (B : List UInt8) (q d : Nat) : Nat × Nat := if q + 3 ≤ B.length then go B q (places B q (at3 B q)).reverse d (0, 0) else (0, 0)
theorem places_take_rev {B : List UInt8} {n : Nat} {k : Three} {j : Nat} (h : j < (places B n k).length) : ((places B n k).take (j + 1)).reverse = (places B n k)[j] :: ((places B n k).take j).reverse := by
  rw [List.take_succ_eq_append_getElem h, List.reverse_append]; rfl
theorem places_mem {B : List UInt8} {n : Nat} {k : Three} {i : Nat} : i ∈ places B n k ↔ i < n ∧ at3 B i = k := by
  unfold places
  rw [List.mem_filter, List.mem_range, beq_iff_eq]
theorem mlen_three {B : List UInt8} {p q : Nat} (h : q + 3 ≤ B.length) : 3 ≤ mlen B p q ↔ at3 B p = at3 B q := by
  have e : at3 B p = at3 B q ↔ B.getD p 0 = B.getD q 0 ∧ B.getD (p + 1) 0 = B.getD (q + 1) 0 ∧ B.getD (p + 2) 0 = B.getD (q + 2) 0 := by
    simp [at3]
  rw [e]
  constructor
  · intro k
    have := fun i hi => mlenN_same B p q 258 i (Nat.lt_of_lt_of_le hi k)
    exact ⟨this 0 (by omega), this 1 (by omega), this 2 (by omega)⟩
  · rintro ⟨h0, h1, h2⟩
    rcases Nat.lt_or_ge (mlen B p q) 3 with k | k
    · exfalso
      have hs := mlenN_stop B p q 258 (by unfold mlen at k; omega)
      unfold mlen at k
      generalize mlenN B p q 258 = m at k hs
      refine hs ⟨by omega, ?_⟩
      match m, k with
      | 0, _ => exact h0
      | 1, _ => exact h1
      | 2, _ => exact h2
    · exact k
theorem mlen_in {B : List UInt8} {p q : Nat} (h : q ≤ B.length) : q + mlen B p q ≤ B.length := mlenN_in B p q 258 h
theorem mlen_le (B : List UInt8) (p q : Nat) : mlen B p q ≤ 258 := mlenN_le B p q 258
theorem mlen_same {B : List UInt8} {p q i : Nat} (h : i < mlen B p q) : B.getD (p + i) 0 = B.getD (q + i) 0 := mlenN_same B p q 258 i h
/-- What a best match is: none, or a copy from one of the places. -/
theorem go_is {B : List UInt8} {q : Nat} (P : Nat × Nat → Prop) (ps : List Nat) (d : Nat) (b : Nat × Nat) (hb : P b) (hp : ∀ p ∈ ps, q - p ≤ 32768 → P (mlen B p q, q - p)) : P (go B q ps d b) := by
  induction ps generalizing d b with
  | nil => exact hb
  | cons p ps ih =>
    unfold go
    split
    · exact hb
    · split
      · exact hb
      · refine ih _ _ ?_ fun p' h' => hp p' (List.mem_cons_of_mem _ h')
        split
        · exact hp p (List.mem_cons_self ..) (by omega)
        · exact hb
theorem best_is (B : List UInt8) (q d : Nat) : best B q d = (0, 0) ∨ ∃ far, 1 ≤ far ∧ far ≤ 32768 ∧ far ≤ q ∧ q + 3 ≤ B.length ∧ best B q d = (mlen B (q - far) q, far) ∧ 3 ≤ mlen B (q - far) q := by
  unfold best
  split
  · rename_i h
    refine go_is (fun b => b = (0, 0) ∨ ∃ far, 1 ≤ far ∧ far ≤ 32768 ∧ far ≤ q ∧ q + 3 ≤ B.length ∧ b = (mlen B (q - far) q, far) ∧ 3 ≤ mlen B (q - far) q) _ d _ (.inl rfl) fun p hp hf => .inr ?_
    rw [List.mem_reverse, places_mem] at hp
    refine ⟨q - p, by omega, hf, by omega, h, ?_, ?_⟩
    · rw [show q - (q - p) = p by omega]
    · rw [show q - (q - p) = p by omega, mlen_three h]; exact hp.2
  · exact .inl rfl
/-- A step: its length, how far, its byte. -/
abbrev St := Nat × Nat × UInt8
/-- The steps from a place on. -/
def cut (B : List UInt8) (d : Nat) : Nat → Nat → List St
  | 0, _ => []
  | f + 1, q =>
    if q < B.length then
      if (best B q d).1 = 0 ∨ (best B q d).1 < (best B (q + 1) d).1 then (0, 0, B.getD q 0) :: cut B d f (q + 1)
      else ((best B q d).1, (best B q d).2, 0) :: cut B d f (q + (best B q d).1)
    else []
def Cut (B : List UInt8) (d : Nat) : List St := cut B d B.length 0
theorem cut_end (B : List UInt8) (d f q : Nat) (h : B.length ≤ q) : cut B d f q = [] := by
  cases f with
  | zero => rfl
  | succ f => unfold cut; rw [if_neg (by omega)]
theorem cut_fuel (B : List UInt8) (d f q : Nat) (h : B.length ≤ q + f) : cut B d (f + 1) q = cut B d f q := by
  induction f generalizing q with
  | zero => exact (cut_end B d _ q (by omega)).trans (cut_end B d _ q (by omega)).symm
  | succ f ih =>
    rw [cut.eq_2 B d q (f + 1), cut.eq_2 B d q f]
    split
    · split
      · rw [ih (q + 1) (by omega)]
      · rw [ih _ (by omega)]
    · rfl
/-- The steps from a place on, with as much as is wanted. -/
def cutAt (B : List UInt8) (d q : Nat) : List St := cut B d (B.length - q) q
theorem cut_more (B : List UInt8) (d f q : Nat) (h : B.length ≤ q + f) : cut B d f q = cutAt B d q := by
  unfold cutAt
  obtain ⟨m, rfl⟩ : ∃ m, f = (B.length - q) + m := ⟨f - (B.length - q), by omega⟩
  clear h
  induction m with
  | zero => rfl
  | succ m ih => rw [show B.length - q + (m + 1) = (B.length - q + m) + 1 by omega, cut_fuel B d _ q (by omega), ih]
theorem cutAt_end (B : List UInt8) (d q : Nat) (h : B.length ≤ q) : cutAt B d q = [] := cut_end B d _ q h
theorem cutAt_lit (B : List UInt8) (d q : Nat) (h : q < B.length) (k : (best B q d).1 = 0 ∨ (best B q d).1 < (best B (q + 1) d).1) : cutAt B d q = (0, 0, B.getD q 0) :: cutAt B d (q + 1) := by
  rw [← cut_more B d (B.length - q - 1 + 1) q (by omega), cut.eq_2, if_pos h, if_pos k, cut_more _ _ _ _ (by omega)]
theorem cutAt_copy (B : List UInt8) (d q : Nat) (h : q < B.length) (k : ¬ ((best B q d).1 = 0 ∨ (best B q d).1 < (best B (q + 1) d).1)) : cutAt B d q = ((best B q d).1, (best B q d).2, 0) :: cutAt B d (q + (best B q d).1) := by
  rw [← cut_more B d (B.length - q - 1 + 1) q (by omega), cut.eq_2, if_pos h, if_neg k, cut_more _ _ _ _ (by omega)]
theorem Cut_at (B : List UInt8) (d : Nat) : Cut B d = cutAt B d 0 := rfl
/-- How many bytes a step makes. -/
def made (s : St) : Nat := max s.1 1
/-- Whether a step may be, behind so many bytes. -/
def fits (s : St) (n : Nat) : Prop := (s.1 = 0 ∧ s.2.1 = 0) ∨ (3 ≤ s.1 ∧ s.1 ≤ 258 ∧ 1 ≤ s.2.1 ∧ s.2.1 ≤ 32768 ∧ s.2.1 ≤ n ∧ s.2.2 = 0)
/-- What the steps of bytes are like, from a place on. -/
theorem cutAt_ind {B : List UInt8} {d : Nat} (P : Nat → List St → Prop) (hend : ∀ q, B.length ≤ q → P q [])
    (hlit : ∀ q l, q < B.length → P (q + 1) l → P q ((0, 0, B.getD q 0) :: l))
    (hcopy : ∀ q far l, q < B.length → 1 ≤ far → far ≤ 32768 → far ≤ q → 3 ≤ mlen B (q - far) q → best B q d = (mlen B (q - far) q, far) → P (q + mlen B (q - far) q) l → P q ((mlen B (q - far) q, far, 0) :: l)) (q : Nat) : P q (cutAt B d q) := by
  obtain ⟨m, hm⟩ : ∃ m, B.length - q ≤ m := ⟨_, Nat.le_refl _⟩
  induction m generalizing q with
  | zero => rw [cutAt_end _ _ _ (by omega)]; exact hend q (by omega)
  | succ m ih =>
    rcases Nat.lt_or_ge q B.length with h | h
    · by_cases k : (best B q d).1 = 0 ∨ (best B q d).1 < (best B (q + 1) d).1
      · rw [cutAt_lit B d q h k]
        exact hlit q _ h (ih (q + 1) (by omega))
      · rw [cutAt_copy B d q h k]
        rcases best_is B q d with h0 | ⟨far, h1, h2, h3, h4, h5, h6⟩
        · exact absurd (.inl (by rw [h0])) k
        · rw [h5]
          exact hcopy q far _ h h1 h2 h3 h6 h5 (ih _ (by omega))
    · rw [cutAt_end _ _ _ h]; exact hend q h
end PM
end Go.Proofs.Ytdlbhoedmaifpaa
