/- BitsW: the walks of math/bits.Reverse64 and of bits.Reverse. -/
import Derived.Test.YtkgnihpcldgedaaProg
import Derived.Test.YtkgnihpcldgedaaBase
import Derived.Test.YtkgnihpcldgedaaBitsMath
import Derived.Laws.BitsAllLaws
namespace Go.Proofs.Ytkgnihpcldgedaa
open Go.RowKit

/-- A step, in the program's words. -/
theorem sw_words (s M x : Nat) (hx : x < 18446744073709551616) (hM : M < 18446744073709551616) (hM2 : M * 2 ^ s < 18446744073709551616) (p : Int) (hp : p = ((2 ^ s : Nat) : Int)) :
    bits .or .u64 (bits .and .u64 ((x : Int) / p) (M : Int)) (IntKind.u64.wrap (bits .and .u64 (x : Int) (M : Int) * p)) = ((PBits.sw s M x : Nat) : Int) := by
  subst hp
  have h0 : (x : Int) / ((2 ^ s : Nat) : Int) = ((x / 2 ^ s : Nat) : Int) := by rw [Int.natCast_ediv]
  have h1 : x / 2 ^ s < 18446744073709551616 := Nat.lt_of_le_of_lt (Nat.div_le_self _ _) hx
  have h2 : (x &&& M) * 2 ^ s < 18446744073709551616 := Nat.lt_of_le_of_lt (Nat.mul_le_mul_right _ Nat.and_le_right) hM2
  have h3 : (x / 2 ^ s &&& M) < 18446744073709551616 := Nat.lt_of_le_of_lt Nat.and_le_right hM
  rw [h0, u64_and_nat _ _ h1 hM, u64_and_nat _ _ hx hM, ← Int.natCast_mul, IntKind.wrap_u64, Int.emod_eq_of_lt (by omega) (by omega), u64_or_nat _ _ h3 h2]
  rfl
/-- The last step has no mask. -/
theorem sw_words32 (x : Nat) (hx : x < 18446744073709551616) :
    bits .or .u64 ((x : Int) / 4294967296) (IntKind.u64.wrap ((x : Int) * 4294967296)) = ((PBits.sw 32 4294967295 x : Nat) : Int) := by
  have h1 : x / 4294967296 < 18446744073709551616 := by omega
  have h2 : (x &&& 4294967295) = x % 4294967296 := Nat.and_two_pow_sub_one_eq_mod x 32
  have h3 : (x / 4294967296 &&& 4294967295) = x / 4294967296 := by
    rw [show (4294967295 : Nat) = 2 ^ 32 - 1 by decide, Nat.and_two_pow_sub_one_eq_mod]; omega
  have h4 : IntKind.u64.wrap ((x : Int) * 4294967296) = ((x % 4294967296 * 4294967296 : Nat) : Int) := by rw [IntKind.wrap_u64]; omega
  have h5 : (x : Int) / 4294967296 = ((x / 4294967296 : Nat) : Int) := by omega
  rw [h4, h5, u64_or_nat _ _ h1 (by omega)]
  unfold PBits.sw
  rw [h2, show (2 : Nat) ^ 32 = 4294967296 by decide, h3]

theorem revBytes_any (x : Nat) (w : World) (hx : x < 18446744073709551616) :
    Calls Try.prog 104 #[.int .u64 (x : Int)] w fun e w' => e = .returned (.int .u64 (PBits.sw 32 4294967295 (PBits.sw 16 281470681808895 (PBits.sw 8 71777214294589695 x)) : Nat)) ∧ w = w' := by
  have l8 := PBits.sw_lt 8 71777214294589695 x (by decide) (by decide)
  have e8 := sw_words 8 71777214294589695 x hx (by decide) (by decide) 256 (by decide)
  have l16 := PBits.sw_lt 16 281470681808895 (PBits.sw 8 71777214294589695 x) (by decide) (by decide)
  have e16 := sw_words 16 281470681808895 _ l8 (by decide) (by decide) 65536 (by decide)
  have e32 := sw_words32 _ l16
  simp only [Int.cast_ofNat_Int] at e8 e16
  go_enter Try.func104, Try.ntmps104
  go_wp2
  go_ret
  exact ⟨rfl, rfl⟩
theorem rev64_any (x : Nat) (w : World) (hx : x < 18446744073709551616) :
    Calls Try.prog 85 #[.int .u64 (x : Int)] w fun e w' => e = .returned (.int .u64 (PBits.rev64 x : Nat)) ∧ w = w' := by
  have l1 := PBits.sw_lt 1 6148914691236517205 x (by decide) (by decide)
  have e1 := sw_words 1 6148914691236517205 x hx (by decide) (by decide) 2 (by decide)
  have l2 := PBits.sw_lt 2 3689348814741910323 (PBits.sw 1 6148914691236517205 x) (by decide) (by decide)
  have e2 := sw_words 2 3689348814741910323 _ l1 (by decide) (by decide) 4 (by decide)
  have l4 := PBits.sw_lt 4 1085102592571150095 (PBits.sw 2 3689348814741910323 (PBits.sw 1 6148914691236517205 x)) (by decide) (by decide)
  have e4 := sw_words 4 1085102592571150095 _ l2 (by decide) (by decide) 16 (by decide)
  simp only [Int.cast_ofNat_Int] at e1 e2 e4
  go_enter Try.func85, Try.ntmps85
  go_wp2_with fail
  refine (revBytes_any _ _ l4).mono ?_
  rintro e w2 ⟨rfl, rfl⟩
  go_wp2
  go_ret
  exact ⟨rfl, rfl⟩
/-- bits.Reverse, at any number of bits. -/
theorem reverse_any (x K : Nat) (m : Int) (w : World) (hx : x < 18446744073709551616) (hK : (K : Int) = min (max m 0) 64) :
    Calls Try.prog 31 #[.int .u64 (x : Int), .int .i64 m] w fun e w' => e = .returned (.int .u64 (PBits.rev x K : Nat)) ∧ w = w' := by
  have hk64 : K ≤ 64 := by omega
  have f1 : ∀ W : World, (Builtin.max_ #[3, 3] 3 #[.int .i64 m, .int .i64 0]).run Try.prog W = .ok (.int .i64 (max m 0)) W := fun W => by
    simp [Builtin.max_, Builtin.max2]
    split <;> omega
  have f2 : ∀ W : World, (Builtin.min_ #[3, 3] 3 #[.int .i64 (max m 0), .int .i64 64]).run Try.prog W = .ok (.int .i64 (K : Int)) W := fun W => by
    simp [Builtin.min_, Builtin.min2]
    split <;> omega
  clear hK
  have hr := PBits.rev64_lt x
  go_enter Try.func31, Try.ntmps31
  by_cases h0 : K = 0
  · subst h0
    go_wp2
    go_ret
    exact ⟨rfl, rfl⟩
  · have hq := PBits.rev64_rev x K hk64
    go_wp2_with fail
    refine (rev64_any _ _ hx).mono ?_
    rintro e w2 ⟨rfl, rfl⟩
    go_wp2
    go_ret
    refine ⟨?_, rfl⟩
    rw [← hq]
    simp [Int.natCast_ediv]
end Go.Proofs.Ytkgnihpcldgedaa
