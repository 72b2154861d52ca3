/- HuffPlain: lengths of codes, as plain functions. -/
import Derived.Test.YtdlbhoedmaifpaaLib2
namespace Go.Proofs.Ytdlbhoedmaifpaa
namespace PH
def bad (n : Int) : Bool := decide (n < 0 ∨ 15 < n)
def may (l : List Int) : Bool := decide (l.length ≤ 1024) && !l.any bad
/-- How many symbols have a length. -/
def tal (l : List Nat) (n : Nat) : Nat := if n = 0 then 0 else l.count n
def cnt (l : List Nat) (n : Nat) : Nat := l.count n
theorem tal_le (l : List Nat) (n : Nat) : tal l n ≤ l.length := by
  unfold tal
  split
  · exact Nat.zero_le _
  · exact List.count_le_length
/-- The lengths, where they may be. -/
theorem may_nat {l : List Int} (h : may l = true) : ∃ m : List Nat, l = m.map (fun n : Nat => (n : Int)) ∧ m.length ≤ 1024 ∧ ∀ n ∈ m, n ≤ 15 := by
  unfold may at h
  simp only [Bool.and_eq_true, decide_eq_true_eq, Bool.not_eq_true', List.any_eq_false] at h
  refine ⟨l.map Int.toNat, ?_, by rw [List.length_map]; exact h.1, ?_⟩
  · rw [List.map_map]
    refine (List.map_id l).symm.trans (List.map_congr_left fun n hn => ?_)
    have := h.2 n hn
    unfold bad at this
    simp only [decide_eq_true_eq] at this
    show n = ((n.toNat : Nat) : Int)
    omega
  · intro n hn
    obtain ⟨x, hx, rfl⟩ := List.mem_map.1 hn
    have := h.2 x hx
    unfold bad at this
    simp only [decide_eq_true_eq] at this
    omega
/-- The sum of the shares, of 2^15, of the lengths below n. -/
def share (l : List Nat) : Nat → Nat
  | 0 => 0
  | n + 1 => share l n + tal l n * 2 ^ (15 - n)
theorem share_le (l : List Nat) (n : Nat) : share l n ≤ n * (l.length * 32768) := by
  induction n with
  | zero => exact Nat.zero_le _
  | succ n ih =>
    unfold share
    have h1 := tal_le l n
    have h2 : 2 ^ (15 - n) ≤ 32768 := by
      have : (2 : Nat) ^ (15 - n) ≤ 2 ^ 15 := Nat.pow_le_pow_right (by omega) (by omega)
      exact this
    have h3 : tal l n * 2 ^ (15 - n) ≤ l.length * 32768 := Nat.mul_le_mul h1 h2
    rw [Nat.succ_mul]
    omega
def sum (l : List Nat) : Nat := share l 16
/-- How lengths are: -1 wanting, 0 full, 1 too many. -/
def state (l : List Nat) : Int := if sum l < 32768 then -1 else if 32768 < sum l then 1 else 0
/-- The first code of each length. -/
def fst (l : List Nat) : Nat → Nat
  | 0 => 0
  | 1 => 0
  | n + 2 => (fst l (n + 1) + tal l (n + 1)) * 2
theorem fst_share (l : List Nat) (n : Nat) (h1 : 1 ≤ n) (h : n ≤ 16) : fst l n * 2 ^ (16 - n) = 2 * share l n := by
  induction n with
  | zero => omega
  | succ n ih =>
    cases n with
    | zero =>
      show 0 * _ = 2 * (share l 0 + tal l 0 * 2 ^ 15)
      simp [share, tal]
    | succ n =>
      have := ih (by omega) (by omega)
      rw [show fst l (n + 1 + 1) = (fst l (n + 1) + tal l (n + 1)) * 2 from rfl, show share l (n + 1 + 1) = share l (n + 1) + tal l (n + 1) * 2 ^ (15 - (n + 1)) from rfl]
      have e1 : 16 - (n + 1) = (16 - (n + 1 + 1)) + 1 := by omega
      have e2 : 15 - (n + 1) = 16 - (n + 1 + 1) := by omega
      rw [e1, Nat.pow_succ] at this
      rw [e2]
      generalize 2 ^ (16 - (n + 1 + 1)) = p at this ⊢
      generalize fst l (n + 1) = a at this ⊢
      generalize tal l (n + 1) = b
      generalize share l (n + 1) = c at this ⊢
      have h3 : (a + b) * 2 * p = a * (p * 2) + 2 * (b * p) := by
        rw [Nat.add_mul, Nat.add_mul, Nat.mul_assoc, Nat.mul_assoc b 2 p, Nat.mul_comm 2 p, ← Nat.mul_assoc b p 2, Nat.mul_comm (b * p) 2]
      rw [h3, this, Nat.mul_add]
theorem share_mono (l : List Nat) (n k : Nat) (h : n ≤ k) : share l n ≤ share l k := by
  obtain ⟨d, rfl⟩ : ∃ d, k = n + d := ⟨k - n, by omega⟩
  clear h
  induction d with
  | zero => exact Nat.le_refl _
  | succ d ih => rw [← Nat.add_assoc, share]; omega
theorem fst_le (l : List Nat) (n : Nat) (h : n ≤ 16) (hs : sum l ≤ 32768) : fst l n ≤ 65536 := by
  rcases Nat.eq_zero_or_pos n with h0 | h0
  · subst h0; exact Nat.zero_le _
  · have h1 := fst_share l n h0 h
    have h2 := share_mono l n 16 h
    have h3 : 1 ≤ 2 ^ (16 - n) := Nat.one_le_two_pow
    have h4 : fst l n * 1 ≤ fst l n * 2 ^ (16 - n) := Nat.mul_le_mul_left _ h3
    unfold sum at hs
    omega
/-- The code of a symbol. -/
def codeAt (l : List Nat) (k : Nat) : Nat := if l.getD k 0 = 0 then 0 else fst l (l.getD k 0) + (l.take k).count (l.getD k 0)
def codes (l : List Nat) : List Nat := (List.range l.length).map (codeAt l)
/-- The symbols of a length, the first k of them. -/
def idx (l : List Nat) (n k : Nat) : List Nat := (List.range k).filter fun i => l.getD i 0 == n
theorem idx_succ (l : List Nat) (n k : Nat) : idx l n (k + 1) = if l.getD k 0 = n then idx l n k ++ [k] else idx l n k := by
  unfold idx
  rw [List.range_succ, List.filter_append]
  have e : List.filter (fun i => l.getD i 0 == n) [k] = if l.getD k 0 = n then [k] else [] := by
    rw [List.filter_cons]
    by_cases h : l.getD k 0 = n
    · rw [if_pos h, if_pos (by rw [h]; exact beq_self_eq_true n)]; rfl
    · rw [if_neg h, if_neg (by rw [beq_iff_eq]; exact h)]; rfl
  rw [e]
  split
  · rfl
  · rw [List.append_nil]
theorem idx_zero (l : List Nat) (n : Nat) : idx l n 0 = [] := rfl
/-- The symbols of the lengths 1 to n, by their codes. -/
def rowsB (l : List Nat) : Nat → List Nat
  | 0 => []
  | n + 1 => rowsB l n ++ idx l (n + 1) l.length
def rows (l : List Nat) : List Nat := rowsB l 15
theorem idx_len (l : List Nat) (n k : Nat) : (idx l n k).length ≤ k := by
  have := List.length_filter_le (fun i => l.getD i 0 == n) (List.range k)
  rwa [List.length_range] at this
theorem rowsB_len (l : List Nat) (n : Nat) : (rowsB l n).length ≤ n * l.length := by
  induction n with
  | zero => exact Nat.zero_le _
  | succ n ih =>
    rw [rowsB, List.length_append, Nat.succ_mul]
    have := idx_len l (n + 1) l.length
    omega
end PH
end Go.Proofs.Ytdlbhoedmaifpaa
