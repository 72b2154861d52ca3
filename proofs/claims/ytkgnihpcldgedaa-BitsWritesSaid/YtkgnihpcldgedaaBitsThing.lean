/- BitsThing: a row of things, as a writer's state; the plain law of there and back. -/
import Derived.Test.YtkgnihpcldgedaaBitsShort
namespace Go.Proofs.Ytkgnihpcldgedaa
open Go.RowKit
/-- A number of so many bits, perhaps a code; or bytes. -/
structure Thing where
  n : Nat
  m : Nat
  c : Bool
  b : List UInt8
  v : Value
namespace Thing
def k (x : Thing) : Nat := x.m % 58
def num (x : Thing) : Nat := x.n % 2 ^ x.k
def by_ (x : Thing) : List UInt8 := x.b.take 20
/-- What lies in the row for it. -/
def lies (x : Thing) : Nat := if x.by_ ≠ [] then PBits.le x.by_ else if x.c then PBits.rev x.num x.k else x.num
/-- Where it begins, and where it ends, behind N bits. -/
def from_ (x : Thing) (N : Nat) : Nat := if x.by_ ≠ [] then (N + 7) / 8 * 8 else N
def size (x : Thing) : Nat := if x.by_ ≠ [] then 8 * x.by_.length else x.k
theorem lies_lt (x : Thing) : x.lies < 2 ^ x.size := by
  unfold lies size
  by_cases h : x.by_ ≠ []
  · rw [if_pos h, if_pos h, ← p256]; exact PBits.le_lt _
  · rw [if_neg h, if_neg h]
    split
    · exact PBits.rev_lt _ _
    · exact Nat.mod_lt _ (Nat.two_pow_pos _)
theorem size_le (x : Thing) : x.size ≤ 160 := by
  unfold size
  have : x.by_.length ≤ 20 := by unfold by_; simp; omega
  have : x.k < 58 := Nat.mod_lt _ (by decide)
  split <;> omega
theorem from_le (x : Thing) (N : Nat) : N ≤ x.from_ N ∧ x.from_ N ≤ N + 7 := by unfold from_; split <;> omega
def stp (s : Nat × Nat) (x : Thing) : Nat × Nat := (s.1 + x.lies * 2 ^ x.from_ s.2, x.from_ s.2 + x.size)
def st (l : List Thing) : Nat × Nat := l.foldl stp (0, 0)
theorem st_snoc (l : List Thing) (i : Nat) (h : i < l.length) : st (l.take (i + 1)) = stp (st (l.take i)) l[i] := by
  unfold st
  rw [List.take_succ_eq_append_getElem h, List.foldl_append]; rfl
theorem stp_lt (s : Nat × Nat) (x : Thing) (h : s.1 < 2 ^ s.2) : (stp s x).1 < 2 ^ (stp s x).2 := by
  have h1 : s.1 < 2 ^ x.from_ s.2 := Nat.lt_of_lt_of_le h (Nat.pow_le_pow_right (by decide) (x.from_le s.2).1)
  exact PBits.put_lt _ _ _ _ h1 x.lies_lt
theorem st_lt (l : List Thing) : (st l).1 < 2 ^ (st l).2 := by
  have key : ∀ (l : List Thing) (s : Nat × Nat), s.1 < 2 ^ s.2 → (l.foldl stp s).1 < 2 ^ (l.foldl stp s).2 := by
    intro l
    induction l with
    | nil => exact fun _ h => h
    | cons x l ih => exact fun s h => ih _ (stp_lt s x h)
  exact key l _ (by decide)
theorem st_le (l : List Thing) : (st l).2 ≤ 167 * l.length := by
  have key : ∀ (l : List Thing) (s : Nat × Nat), (l.foldl stp s).2 ≤ s.2 + 167 * l.length := by
    intro l
    induction l with
    | nil => exact fun _ => by simp
    | cons x l ih =>
      intro s
      have h1 := ih (stp s x)
      have h2 : (stp s x).2 ≤ s.2 + 167 := by
        have := x.size_le; have := (x.from_le s.2).2
        unfold stp; simp only; omega
      simp only [List.foldl_cons, List.length_cons]
      omega
  have := key l (0, 0)
  simpa [st] using this
/-- What was laid stays: what comes later lies above it. -/
theorem foldl_more (l : List Thing) : ∀ s : Nat × Nat, ∃ W, (l.foldl stp s).1 = s.1 + 2 ^ s.2 * W ∧ s.2 ≤ (l.foldl stp s).2 := by
  induction l with
  | nil => exact fun s => ⟨0, by simp, Nat.le_refl _⟩
  | cons x l ih =>
    intro s
    obtain ⟨W, h1, h2⟩ := ih (stp s x)
    have hf := (x.from_le s.2).1
    obtain ⟨d, hd⟩ : ∃ d, x.from_ s.2 = s.2 + d := ⟨x.from_ s.2 - s.2, by omega⟩
    refine ⟨2 ^ d * x.lies + 2 ^ (d + x.size) * W, ?_, ?_⟩
    · rw [List.foldl_cons, h1]
      show s.1 + x.lies * 2 ^ x.from_ s.2 + 2 ^ (x.from_ s.2 + x.size) * W = _
      rw [hd, Nat.mul_add, Nat.pow_add, show s.2 + d + x.size = s.2 + (d + x.size) by omega, Nat.pow_add 2 s.2 (d + x.size), Nat.mul_comm x.lies, Nat.mul_assoc, Nat.mul_assoc]
      omega
    · rw [List.foldl_cons]
      have : (stp s x).2 = x.from_ s.2 + x.size := rfl
      omega
theorem st_more (l : List Thing) (i : Nat) : ∃ W, (st l).1 = (st (l.take i)).1 + 2 ^ (st (l.take i)).2 * W ∧ (st (l.take i)).2 ≤ (st l).2 := by
  have := foldl_more (l.drop i) (st (l.take i))
  unfold st at this ⊢
  rw [← List.foldl_append, List.take_append_drop] at this
  exact this
/-- The row's number, from where a thing begins. -/
theorem st_at (l : List Thing) (i : Nat) (h : i < l.length) : ∃ W, (st l).1 / 2 ^ l[i].from_ (st (l.take i)).2 = l[i].lies + 2 ^ l[i].size * W := by
  obtain ⟨W, h1, _⟩ := st_more l (i + 1)
  rw [st_snoc l i h] at h1
  have h2 := st_lt (l.take i)
  have h3 : (st (l.take i)).1 < 2 ^ l[i].from_ (st (l.take i)).2 := Nat.lt_of_lt_of_le h2 (Nat.pow_le_pow_right (by decide) (l[i].from_le _).1)
  refine ⟨W, ?_⟩
  rw [h1]
  show ((st (l.take i)).1 + l[i].lies * 2 ^ l[i].from_ (st (l.take i)).2 + 2 ^ (l[i].from_ (st (l.take i)).2 + l[i].size) * W) / _ = _
  generalize l[i].from_ (st (l.take i)).2 = F at h3 ⊢
  rw [Nat.pow_add, Nat.mul_assoc, Nat.add_assoc, Nat.mul_comm l[i].lies, ← Nat.mul_add, Nat.add_mul_div_left _ _ (Nat.two_pow_pos F), Nat.div_eq_of_lt h3, Nat.zero_add]
/-- The bytes that a writer of the row hands out. -/
def row (l : List Thing) : List UInt8 := PBits.bytesOf (st l).1 (((st l).2 + 7) / 8)
theorem row_len (l : List Thing) : (row l).length = ((st l).2 + 7) / 8 := PBits.bytesOf_length _ _
theorem row_le (l : List Thing) : PBits.le (row l) = (st l).1 := by
  unfold row
  rw [PBits.le_bytesOf, Nat.mod_eq_of_lt]
  rw [p256]
  exact Nat.lt_of_lt_of_le (st_lt l) (Nat.pow_le_pow_right (by decide) (by omega))
theorem row_peek (l : List Thing) (i : Nat) (h : i < l.length) : PBits.peek (row l) (l[i].from_ (st (l.take i)).2) l[i].size = l[i].lies := by
  obtain ⟨W, hW⟩ := st_at l i h
  unfold PBits.peek
  rw [row_le, hW, Nat.add_mul_mod_self_left, Nat.mod_eq_of_lt l[i].lies_lt]
theorem st_end (l : List Thing) (i : Nat) (h : i < l.length) : l[i].from_ (st (l.take i)).2 + l[i].size ≤ (st l).2 := by
  obtain ⟨_, _, h2⟩ := st_more l (i + 1)
  rw [st_snoc l i h] at h2
  exact h2
theorem le_inj (a b : List UInt8) (hl : a.length = b.length) (h : PBits.le a = PBits.le b) : a = b := by
  rw [← PBits.bytesOf_le a, ← PBits.bytesOf_le b, h, hl]
theorem le_take (l : List UInt8) (k : Nat) (h : k ≤ l.length) : PBits.le (l.take k) = PBits.le l % 256 ^ k := by
  conv => rhs; rw [← List.take_append_drop k l, PBits.le_append]
  have h2 : (l.take k).length = k := by simp [h]
  have h1 := PBits.le_lt (l.take k)
  rw [h2] at h1 ⊢
  rw [Nat.add_mul_mod_self_left, Nat.mod_eq_of_lt h1]
theorem row_bytes (l : List Thing) (i : Nat) (h : i < l.length) (hb : l[i].by_ ≠ []) :
    ((row l).drop (((st (l.take i)).2 + 7) / 8)).take l[i].by_.length = l[i].by_ := by
  have hs := st_end l i h
  have hf : l[i].from_ (st (l.take i)).2 = 8 * (((st (l.take i)).2 + 7) / 8) := by unfold from_; rw [if_pos hb]; omega
  have hz : l[i].size = 8 * l[i].by_.length := by unfold size; rw [if_pos hb]
  obtain ⟨W, hW⟩ := st_at l i h
  have hll : l[i].lies = PBits.le l[i].by_ := by unfold lies; rw [if_pos hb]
  rw [hf, hz] at hs
  rw [hf, hz, hll, ← p256, ← p256] at hW
  generalize ((st (l.take i)).2 + 7) / 8 = q at *
  have hlen : q + l[i].by_.length ≤ (row l).length := by rw [row_len]; omega
  refine le_inj _ _ (by simp; omega) ?_
  rw [le_take _ _ (by simp; omega), PBits.le_drop, row_le, hW, Nat.add_mul_mod_self_left, Nat.mod_eq_of_lt (PBits.le_lt _)]
theorem row_rest (l : List Thing) (k : Nat) : PBits.peek (row l) (st l).2 k = 0 := by
  unfold PBits.peek
  rw [row_le, Nat.div_eq_of_lt (st_lt l), Nat.zero_mod]
end Thing
end Go.Proofs.Ytkgnihpcldgedaa
