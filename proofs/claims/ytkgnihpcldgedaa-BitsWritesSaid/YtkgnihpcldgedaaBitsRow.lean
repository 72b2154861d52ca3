/- BitsRow: rows of bits, as the document's own answer keeps them: plain laws. -/
import Derived.Test.YtkgnihpcldgedaaBitsThing
namespace Go.Proofs.Ytkgnihpcldgedaa
open Go.RowKit
namespace PBits
def num : List Bool → Nat
  | [] => 0
  | b :: l => b.toNat + 2 * num l
def bitsOf (n : Nat) : Nat → List Bool
  | 0 => []
  | k + 1 => (n % 2 == 1) :: bitsOf (n / 2) k
theorem bitsOf_length (n k : Nat) : (bitsOf n k).length = k := by
  induction k generalizing n with
  | zero => rfl
  | succ k ih => simp [bitsOf, ih]
theorem num_lt (l : List Bool) : num l < 2 ^ l.length := by
  induction l with
  | nil => simp [num]
  | cons b l ih =>
    have : b.toNat ≤ 1 := by cases b <;> decide
    simp only [num, List.length_cons, Nat.pow_succ]
    omega
theorem num_append (a b : List Bool) : num (a ++ b) = num a + 2 ^ a.length * num b := by
  induction a with
  | nil => simp [num]
  | cons x a ih =>
    simp only [List.cons_append, num, ih, List.length_cons, Nat.pow_succ, Nat.mul_add]
    rw [← Nat.mul_assoc, Nat.mul_comm 2 (2 ^ a.length)]
    omega
theorem num_bitsOf (n k : Nat) : num (bitsOf n k) = n % 2 ^ k := by
  induction k generalizing n with
  | zero => simp [bitsOf, num, Nat.mod_one]
  | succ k ih =>
    have h := Nat.mod_mul (x := n) (a := 2) (b := 2 ^ k)
    have e : (2 : Nat) ^ (k + 1) = 2 * 2 ^ k := by rw [Nat.pow_succ, Nat.mul_comm]
    have hb : (n % 2 == 1).toNat = n % 2 := by
      rcases Nat.mod_two_eq_zero_or_one n with h | h <;> rw [h] <;> rfl
    simp only [bitsOf, num, ih, hb, e, h]
theorem bitsOf_num (l : List Bool) : bitsOf (num l) l.length = l := by
  induction l with
  | nil => rfl
  | cons b l ih =>
    have h1 : ((b.toNat + 2 * num l) % 2 == 1) = b := by
      cases b <;> simp <;> omega
    have h2 : (b.toNat + 2 * num l) / 2 = num l := by
      have : b.toNat ≤ 1 := by cases b <;> decide
      omega
    simp only [num, List.length_cons, bitsOf, h1, h2, ih]
theorem bitsOf_snoc (n j : Nat) : bitsOf n (j + 1) = bitsOf n j ++ [n / 2 ^ j % 2 == 1] := by
  induction j generalizing n with
  | zero => simp [bitsOf]
  | succ j ih =>
    rw [bitsOf, ih (n / 2), bitsOf, Nat.div_div_eq_div_mul, Nat.pow_succ, Nat.mul_comm (2 ^ j) 2]
    rfl
theorem num_rev_bitsOf (n k : Nat) : num (bitsOf n k).reverse = rev n k := by
  induction k generalizing n with
  | zero => rfl
  | succ k ih =>
    have hb : (n % 2 == 1).toNat = n % 2 := by
      rcases Nat.mod_two_eq_zero_or_one n with h | h <;> rw [h] <;> rfl
    rw [bitsOf, List.reverse_cons, num_append, ih, List.length_reverse, bitsOf_length, rev]
    simp only [num, hb]
    rw [Nat.mul_zero, Nat.add_zero, Nat.mul_comm, Nat.add_comm]
theorem num_false (m : Nat) : num (List.replicate m false) = 0 := by
  induction m with
  | zero => rfl
  | succ m ih => simp [List.replicate_succ, num, ih]
theorem num_drop (l : List Bool) (q : Nat) : num (l.drop q) = num l / 2 ^ q := by
  by_cases h : q ≤ l.length
  · conv => rhs; rw [← List.take_append_drop q l, num_append]
    have h1 := num_lt (l.take q)
    have h2 : (l.take q).length = q := by simp [h]
    rw [h2] at h1 ⊢
    rw [Nat.add_mul_div_left _ _ (Nat.two_pow_pos q), Nat.div_eq_of_lt h1, Nat.zero_add]
  · rw [List.drop_eq_nil_of_le (by omega)]
    have h1 := num_lt l
    rw [Nat.div_eq_of_lt (Nat.lt_of_lt_of_le h1 (Nat.pow_le_pow_right (by decide) (by omega)))]
    rfl
theorem num_take (l : List Bool) (k : Nat) (h : k ≤ l.length) : num (l.take k) = num l % 2 ^ k := by
  conv => rhs; rw [← List.take_append_drop k l, num_append]
  have h2 : (l.take k).length = k := by simp [h]
  have h1 := num_lt (l.take k)
  rw [h2] at h1 ⊢
  rw [Nat.add_mul_mod_self_left, Nat.mod_eq_of_lt h1]
theorem num_inj (a b : List Bool) (hl : a.length = b.length) (h : num a = num b) : a = b := by
  rw [← bitsOf_num a, ← bitsOf_num b, h, hl]
/-- The bits of bytes. -/
def ofB : List UInt8 → List Bool
  | [] => []
  | c :: l => bitsOf c.toNat 8 ++ ofB l
theorem ofB_length (l : List UInt8) : (ofB l).length = 8 * l.length := by
  induction l with
  | nil => rfl
  | cons c l ih => simp only [ofB, List.length_append, bitsOf_length, ih, List.length_cons]; omega
theorem num_ofB (l : List UInt8) : num (ofB l) = le l := by
  induction l with
  | nil => rfl
  | cons c l ih =>
    have hc := c.toNat_lt
    rw [ofB, num_append, num_bitsOf, bitsOf_length, ih, le, Nat.mod_eq_of_lt hc]
theorem ofB_snoc (l : List UInt8) (c : UInt8) : ofB (l ++ [c]) = ofB l ++ bitsOf c.toNat 8 := by
  induction l with
  | nil => simp [ofB]
  | cons d l ih => simp [ofB, ih]
/-- A number of the bits that begin at a place. -/
theorem num_mid (l : List Bool) (a k : Nat) (h : a + k ≤ l.length) : num ((l.drop a).take k) = num l / 2 ^ a % 2 ^ k := by
  rw [num_take _ _ (by simp; omega), num_drop]
theorem num_step (l : List Bool) (i : Nat) (h : i < l.length) : num (l.drop i) = l[i].toNat + 2 * num (l.drop (i + 1)) := by
  rw [List.drop_eq_getElem_cons h]; rfl
end PBits
end Go.Proofs.Ytkgnihpcldgedaa
