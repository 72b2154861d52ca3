/- BitsMath: numbers as rows of bits and of bytes, the lowest first: plain laws, no program in sight. -/
import Derived.WalkKit
namespace Go.Proofs.Ytdlbhoedmaifpaa.PBits
/-- Bytes as a number, the lowest first. -/
def le : List UInt8 → Nat
  | [] => 0
  | b :: l => b.toNat + 256 * le l
/-- A number's lowest bytes. -/
def bytesOf (V : Nat) : Nat → List UInt8
  | 0 => []
  | n + 1 => UInt8.ofNat (V % 256) :: bytesOf (V / 256) n
theorem le_lt (l : List UInt8) : le l < 256 ^ l.length := by
  induction l with
  | nil => simp [le]
  | cons b l ih =>
    have := b.toNat_lt
    simp only [le, List.length_cons, Nat.pow_succ]
    omega
theorem bytesOf_length (V n : Nat) : (bytesOf V n).length = n := by
  induction n generalizing V with
  | zero => rfl
  | succ n ih => simp [bytesOf, ih]
theorem le_bytesOf (V n : Nat) : le (bytesOf V n) = V % 256 ^ n := by
  induction n generalizing V with
  | zero => simp [bytesOf, le, Nat.mod_one]
  | succ n ih =>
    have h := Nat.mod_mul (x := V) (a := 256) (b := 256 ^ n)
    have hb : (UInt8.ofNat (V % 256)).toNat = V % 256 := by rw [UInt8.toNat_ofNat']; omega
    have e : (256 : Nat) ^ (n + 1) = 256 * 256 ^ n := by rw [Nat.pow_succ, Nat.mul_comm]
    simp only [bytesOf, le, ih, hb, e, h]
theorem bytesOf_le (l : List UInt8) : bytesOf (le l) l.length = l := by
  induction l with
  | nil => rfl
  | cons b l ih =>
    have hb := b.toNat_lt
    have h1 : (b.toNat + 256 * le l) % 256 = b.toNat := by omega
    have h2 : (b.toNat + 256 * le l) / 256 = le l := by omega
    simp only [le, List.length_cons, bytesOf, h1, h2, ih]
    simp
theorem bytesOf_add (V n m : Nat) : bytesOf V (n + m) = bytesOf V n ++ bytesOf (V / 256 ^ n) m := by
  induction n generalizing V with
  | zero => simp [bytesOf]
  | succ n ih =>
    rw [show n + 1 + m = (n + m) + 1 by omega]
    simp only [bytesOf, ih, List.cons_append, Nat.div_div_eq_div_mul]
    rw [show 256 * 256 ^ n = 256 ^ (n + 1) by rw [Nat.pow_succ, Nat.mul_comm]]
/-- What is laid ahead of the bytes does not turn them. -/
theorem bytesOf_more (V W n : Nat) : bytesOf (V + W * 256 ^ n) n = bytesOf V n := by
  induction n generalizing V W with
  | zero => rfl
  | succ n ih =>
    have h1 : (V + W * 256 ^ (n + 1)) % 256 = V % 256 := by
      rw [Nat.pow_succ, ← Nat.mul_assoc, Nat.add_mul_mod_self_right]
    have h2 : (V + W * 256 ^ (n + 1)) / 256 = V / 256 + W * 256 ^ n := by
      rw [Nat.pow_succ, ← Nat.mul_assoc, Nat.add_mul_div_right _ _ (by omega)]
    simp only [bytesOf, h1, h2, ih]
theorem le_append (a b : List UInt8) : le (a ++ b) = le a + 256 ^ a.length * le b := by
  induction a with
  | nil => simp [le]
  | cons x a ih =>
    simp only [List.cons_append, le, ih, List.length_cons, Nat.pow_succ, Nat.mul_add]
    rw [← Nat.mul_assoc, Nat.mul_comm 256 (256 ^ a.length)]
    omega
/-- A number's bits the other way round. -/
def rev (n : Nat) : Nat → Nat
  | 0 => 0
  | k + 1 => (n % 2) * 2 ^ k + rev (n / 2) k
theorem rev_lt (n k : Nat) : rev n k < 2 ^ k := by
  induction k generalizing n with
  | zero => simp [rev]
  | succ k ih =>
    have := ih (n / 2)
    have hm : n % 2 = 0 ∨ n % 2 = 1 := by omega
    simp only [rev, Nat.pow_succ]
    rcases hm with h | h <;> rw [h] <;> omega
theorem rev_bit (n k i : Nat) : (rev n k).testBit i = (decide (i < k) && n.testBit (k - 1 - i)) := by
  induction k generalizing n i with
  | zero => simp [rev]
  | succ k ih =>
    have hl := rev_lt (n / 2) k
    simp only [rev]
    rw [Nat.mul_comm, Nat.testBit_two_pow_mul_add _ hl, ih]
    by_cases h1 : i < k
    · have e : k + 1 - 1 - i = (k - 1 - i) + 1 := by omega
      rw [if_pos h1, e, Nat.testBit_succ]
      simp [h1, show i < k + 1 by omega]
    · rw [if_neg h1]
      by_cases h2 : i = k
      · subst h2
        simp [Nat.testBit_zero]
      · have h3 : ¬ i < k + 1 := by omega
        have h4 : ∃ j, i - k = j + 1 := ⟨i - k - 1, by omega⟩
        obtain ⟨j, hj⟩ := h4
        rw [hj, Nat.testBit_succ]
        have h5 : n % 2 / 2 = 0 := by omega
        simp [h3, h5]
theorem rev_rev (n k : Nat) : rev (rev n k) k = n % 2 ^ k := by
  apply Nat.eq_of_testBit_eq
  intro i
  rw [rev_bit, rev_bit, Nat.testBit_mod_two_pow]
  by_cases h : i < k
  · have h1 : k - 1 - i < k := by omega
    have h2 : k - 1 - (k - 1 - i) = i := by omega
    simp [h, h1, h2]
  · simp [h]
/-- One step of math/bits.Reverse64: neighbours of so many bits change places. -/
def sw (s M x : Nat) : Nat := (x / 2 ^ s &&& M) ||| (x &&& M) * 2 ^ s
def swi (s i : Nat) : Nat := if i / s % 2 = 0 then i + s else i - s
def Mask (s M : Nat) : Prop := ∀ j, j < 64 → M.testBit j = decide (j / s % 2 = 0)
theorem sw_bit (s M x i : Nat) (hs : s = 1 ∨ s = 2 ∨ s = 4 ∨ s = 8 ∨ s = 16 ∨ s = 32) (hM : Mask s M) (hi : i < 64) : (sw s M x).testBit i = x.testBit (swi s i) := by
  unfold sw swi
  rw [Nat.testBit_or, Nat.testBit_and, Nat.testBit_div_two_pow, Nat.testBit_mul_two_pow, Nat.testBit_and, hM i hi, hM (i - s) (by omega)]
  by_cases h : i / s % 2 = 0
  · have h2 : s ≤ i → ¬ (i - s) / s % 2 = 0 := by
      rcases hs with rfl | rfl | rfl | rfl | rfl | rfl <;> omega
    rw [if_pos h]
    by_cases h3 : s ≤ i
    · simp [h, h2 h3]
    · simp [h, h3]
  · have h2 : (i - s) / s % 2 = 0 := by
      rcases hs with rfl | rfl | rfl | rfl | rfl | rfl <;> omega
    have h3 : s ≤ i := by
      rcases hs with rfl | rfl | rfl | rfl | rfl | rfl <;> omega
    rw [if_neg h]
    simp [h, h2, h3]
theorem mask1 : Mask 1 6148914691236517205 := by unfold Mask; decide +kernel
theorem mask2 : Mask 2 3689348814741910323 := by unfold Mask; decide +kernel
theorem mask4 : Mask 4 1085102592571150095 := by unfold Mask; decide +kernel
theorem mask8 : Mask 8 71777214294589695 := by unfold Mask; decide +kernel
theorem mask16 : Mask 16 281470681808895 := by unfold Mask; decide +kernel
theorem mask32 : Mask 32 4294967295 := by unfold Mask; decide +kernel
def rev64 (x : Nat) : Nat := sw 32 4294967295 (sw 16 281470681808895 (sw 8 71777214294589695 (sw 4 1085102592571150095 (sw 2 3689348814741910323 (sw 1 6148914691236517205 x)))))
theorem swi_all : ∀ i, i < 64 → swi 1 (swi 2 (swi 4 (swi 8 (swi 16 (swi 32 i))))) = 63 - i ∧ swi 32 i < 64 ∧ swi 16 (swi 32 i) < 64 ∧ swi 8 (swi 16 (swi 32 i)) < 64 ∧ swi 4 (swi 8 (swi 16 (swi 32 i))) < 64 ∧ swi 2 (swi 4 (swi 8 (swi 16 (swi 32 i)))) < 64 := by decide +kernel
theorem rev64_bit (x i : Nat) (hi : i < 64) : (rev64 x).testBit i = x.testBit (63 - i) := by
  obtain ⟨h0, h1, h2, h3, h4, h5⟩ := swi_all i hi
  unfold rev64
  rw [sw_bit 32 _ _ _ (by omega) mask32 hi, sw_bit 16 _ _ _ (by omega) mask16 h1, sw_bit 8 _ _ _ (by omega) mask8 h2, sw_bit 4 _ _ _ (by omega) mask4 h3, sw_bit 2 _ _ _ (by omega) mask2 h4, sw_bit 1 _ _ _ (by omega) mask1 h5, h0]
theorem sw_lt (s M x : Nat) (hM : M * 2 ^ s < 18446744073709551616) (hM2 : M < 18446744073709551616) : sw s M x < 18446744073709551616 := by
  unfold sw
  rw [show (18446744073709551616 : Nat) = 2 ^ 64 by decide] at *
  refine Nat.or_lt_two_pow (Nat.and_lt_two_pow _ hM2) ?_
  exact Nat.lt_of_le_of_lt (Nat.mul_le_mul_right _ Nat.and_le_right) hM
theorem rev64_lt (x : Nat) : rev64 x < 18446744073709551616 := by
  unfold rev64 sw
  rw [show (18446744073709551616 : Nat) = 2 ^ 64 by decide]
  refine Nat.or_lt_two_pow (Nat.and_lt_two_pow _ (by decide)) ?_
  exact Nat.lt_of_le_of_lt (Nat.mul_le_mul_right _ Nat.and_le_right) (by decide)
theorem rev64_rev (x k : Nat) (hk : k ≤ 64) : rev64 x / 2 ^ (64 - k) = rev x k := by
  apply Nat.eq_of_testBit_eq
  intro i
  rw [Nat.testBit_div_two_pow, rev_bit]
  by_cases h : i < k
  · rw [rev64_bit _ _ (by omega), show 63 - (i + (64 - k)) = k - 1 - i by omega]
    simp [h]
  · rw [Nat.testBit_lt_two_pow (Nat.lt_of_lt_of_le (rev64_lt x) (by rw [show (18446744073709551616 : Nat) = 2 ^ 64 by decide]; exact Nat.pow_le_pow_right (by omega) (by omega)))]
    simp [h]
/-- What Put does to a writer (V, N), in its cells' words. -/
theorem pow_parts (N : Nat) : 2 ^ N = 2 ^ (N % 8) * 256 ^ (N / 8) := by
  rw [show (256 : Nat) = 2 ^ 8 by decide, ← Nat.pow_mul, ← Nat.pow_add]
  congr 1
  omega
theorem put_bytes (V n N : Nat) : bytesOf (V + n * 2 ^ N) (N / 8) = bytesOf V (N / 8) := by
  rw [pow_parts N, ← Nat.mul_assoc, bytesOf_more]
theorem put_wait (V n N : Nat) : (V + n * 2 ^ N) / 256 ^ (N / 8) = V / 256 ^ (N / 8) + n * 2 ^ (N % 8) := by
  rw [pow_parts N, ← Nat.mul_assoc, Nat.add_mul_div_right _ _ (Nat.pow_pos (by decide))]
theorem put_lt (V n N k : Nat) (hV : V < 2 ^ N) (hn : n < 2 ^ k) : V + n * 2 ^ N < 2 ^ (N + k) := by
  have h : (n + 1) * 2 ^ N ≤ 2 ^ k * 2 ^ N := Nat.mul_le_mul_right _ hn
  rw [Nat.add_mul, Nat.one_mul] at h
  rw [Nat.pow_add, Nat.mul_comm (2 ^ N)]
  omega
theorem byte_next (X q : Nat) : bytesOf X (q + 1) = bytesOf X q ++ [UInt8.ofNat (X / 256 ^ q % 256)] := by
  rw [bytesOf_add]
  rfl
theorem div_next (X q : Nat) : X / 256 ^ q / 256 = X / 256 ^ (q + 1) := by
  rw [Nat.div_div_eq_div_mul, Nat.pow_succ]
end Go.Proofs.Ytdlbhoedmaifpaa.PBits
