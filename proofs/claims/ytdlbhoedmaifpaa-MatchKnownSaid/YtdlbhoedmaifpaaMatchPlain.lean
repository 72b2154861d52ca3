/- MatchPlain: matches, as plain laws. -/
import Derived.Test.YtdlbhoedmaifpaaMatchMap
namespace Go.Proofs.Ytdlbhoedmaifpaa
namespace PM
/-- Three bytes at a place. -/
def at3 (B : List UInt8) (i : Nat) : Three := (B.getD i 0, B.getD (i + 1) 0, B.getD (i + 2) 0)
/-- The places ahead of n with these three bytes, the nearest one last. -/
def places (B : List UInt8) (n : Nat) (k : Three) : List Nat := (List.range n).filter (fun i => at3 B i == k)
theorem places_succ (B : List UInt8) (n : Nat) (k : Three) : places B (n + 1) k = if at3 B n = k then places B n k ++ [n] else places B n k := by
  unfold places
  rw [List.range_succ, List.filter_append]
  by_cases h : at3 B n = k
  · rw [if_pos h]; simp [h]
  · rw [if_neg h]; simp [h]
theorem places_lt {B : List UInt8} {n : Nat} {k : Three} {i : Nat} (h : i ∈ places B n k) : i < n := by
  have := (List.mem_filter.1 h).1
  simpa using this
theorem places_none {B : List UInt8} {n : Nat} {k : Three} (h : ∀ i, i < n → at3 B i ≠ k) : places B n k = [] := by
  unfold places
  rw [List.filter_eq_nil_iff]
  intro i hi
  have := h i (by simpa using hi)
  simpa using this
theorem places_len (B : List UInt8) (n : Nat) (k : Three) : (places B n k).length ≤ n := by
  have := List.length_filter_le (fun i => at3 B i == k) (List.range n)
  rwa [List.length_range] at this
/-- How many bytes are the same at two places, by how many at most. -/
def mlenN (B : List UInt8) (p q : Nat) : Nat → Nat
  | 0 => 0
  | m + 1 => if q < B.length ∧ B.getD p 0 = B.getD q 0 then mlenN B (p + 1) (q + 1) m + 1 else 0
def mlen (B : List UInt8) (p q : Nat) : Nat := mlenN B p q 258
theorem mlenN_le (B : List UInt8) (p q m : Nat) : mlenN B p q m ≤ m := by
  induction m generalizing p q with
  | zero => exact Nat.le_refl _
  | succ m ih =>
    unfold mlenN
    split
    · have := ih (p + 1) (q + 1); omega
    · omega
theorem mlenN_in (B : List UInt8) (p q m : Nat) (h : q ≤ B.length) : q + mlenN B p q m ≤ B.length := by
  induction m generalizing p q with
  | zero => exact h
  | succ m ih =>
    unfold mlenN
    split
    · rename_i h2
      have := ih (p + 1) (q + 1) h2.1; omega
    · omega
theorem mlenN_same (B : List UInt8) (p q m i : Nat) (h : i < mlenN B p q m) : B.getD (p + i) 0 = B.getD (q + i) 0 := by
  induction m generalizing p q i with
  | zero => exact absurd h (Nat.not_lt_zero _)
  | succ m ih =>
    unfold mlenN at h
    split at h
    · rename_i h2
      cases i with
      | zero => exact h2.2
      | succ i =>
        have := ih (p + 1) (q + 1) i (by omega)
        rwa [show p + (i + 1) = p + 1 + i by omega, show q + (i + 1) = q + 1 + i by omega]
    · omega
theorem mlenN_stop (B : List UInt8) (p q m : Nat) (h : mlenN B p q m < m) : ¬ (q + mlenN B p q m < B.length ∧ B.getD (p + mlenN B p q m) 0 = B.getD (q + mlenN B p q m) 0) := by
  induction m generalizing p q with
  | zero => exact absurd h (Nat.not_lt_zero _)
  | succ m ih =>
    unfold mlenN at h ⊢
    split
    · rename_i h2
      rw [if_pos h2] at h
      have := ih (p + 1) (q + 1) (by omega)
      rwa [show p + (mlenN B (p + 1) (q + 1) m + 1) = p + 1 + mlenN B (p + 1) (q + 1) m by omega, show q + (mlenN B (p + 1) (q + 1) m + 1) = q + 1 + mlenN B (p + 1) (q + 1) m by omega]
    · rename_i h2
      simpa using h2
/-- What a loop that goes on while they are the same has found. -/
theorem mlen_of (B : List UInt8) (p q n : Nat) (hn : n ≤ 258) (hs : ∀ i, i < n → q + i < B.length ∧ B.getD (p + i) 0 = B.getD (q + i) 0) (he : n = 258 ∨ ¬ (q + n < B.length ∧ B.getD (p + n) 0 = B.getD (q + n) 0)) : mlen B p q = n := by
  have h1 := mlenN_le B p q 258
  rcases Nat.lt_trichotomy (mlen B p q) n with h | h | h
  · exact absurd (hs _ h) (mlenN_stop B p q 258 (by unfold mlen at h; omega))
  · exact h
  · rcases he with he | he
    · unfold mlen at h; omega
    · refine absurd ⟨?_, mlenN_same B p q 258 n h⟩ he
      have h3 : q < B.length := by
        rcases Nat.lt_or_ge q B.length with h4 | h4
        · exact h4
        · unfold mlen mlenN at h
          rw [if_neg (by omega)] at h
          omega
      have := mlenN_in B p q 258 (by omega)
      unfold mlen at h
      omega
end PM
end Go.Proofs.Ytdlbhoedmaifpaa
