/- HuffJ: the document's power. -/
import Derived.Test.YtdlbhoedmaifpaaHuffI
namespace Go.Proofs.Ytdlbhoedmaifpaa
open Go.RowKit
set_option maxRecDepth 100000 in
theorem power_ok (n : Nat) (hn : n ≤ 15) (w : World) : Calls Try.prog 55 #[.int .i64 (n : Int)] w fun e w' => e = .returned (.int .i64 ((2 ^ n : Nat) : Int)) ∧ w = w' := by
  go_enter Try.func55, Try.ntmps55
  go_wp2_with fail
  go_loopw [3, 4] (fun c3 c4 wr => ∃ (i x : Nat), c3 = .int .i64 (x : Int) ∧ c4 = .int .i64 (i : Int) ∧ i ≤ n ∧ 2 ^ i = x ∧ w = wr) (fun _ c4 _ => n - (intOf c4).toNat)
  case atStart => exact ⟨0, 1, rfl, rfl, Nat.zero_le _, rfl, rfl⟩
  case round =>
    obtain ⟨i, x, rfl, rfl, hi, hx, rfl⟩ := hrel
    have hxl : x ≤ 32768 := by
      rw [← hx]
      have : (2 : Nat) ^ i ≤ 2 ^ 15 := Nat.pow_le_pow_right (by omega) (by omega)
      exact this
    have HX := Lib.hid hx
    clear hx
    by_cases h : i < n
    · have k1 : (i : Int) < (n : Int) := by omega
      go_wp2_with fail
      go_roundw
      case rel => exact ⟨i + 1, 2 * x, by go_num, by go_num, by omega, by rw [Nat.pow_succ, HX.out]; omega, trivial⟩
      case measure => first | (simp [intOf]; omega) | simp [intOf]
    · have k1 : ¬ (i : Int) < (n : Int) := by omega
      obtain rfl : i = n := by omega
      go_wp2_with fail
      go_ret
      exact ⟨ret_i64 (by have := HX.out; norm_cast; exact this.symm), rfl⟩
end Go.Proofs.Ytdlbhoedmaifpaa
