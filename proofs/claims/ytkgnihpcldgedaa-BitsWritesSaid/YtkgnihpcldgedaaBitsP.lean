/- BitsP: the reader's Peek, Get, Align, Bytes. -/
import Derived.Test.YtkgnihpcldgedaaBitsQ
namespace Go.Proofs.Ytkgnihpcldgedaa
open Go.RowKit
theorem p256 (j : Nat) : (256 : Nat) ^ j = 2 ^ (8 * j) := by rw [show (256 : Nat) = 2 ^ 8 by decide, ← Nat.pow_mul]
theorem peek_step (R j b : Nat) (hj : j ≤ 7) (hb : b = R / 256 ^ j % 256) :
    bits .or .u64 ((R : Int) % 256 ^ j) (IntKind.u64.wrap ((b : Int) * 2 ^ (8 * j))) = ((R % 256 ^ (j + 1) : Nat) : Int) := by
  have hb2 : b < 256 := by rw [hb]; exact Nat.mod_lt _ (by decide)
  have e0 : ((R : Int) % 256 ^ j) = ((R % 256 ^ j : Nat) : Int) := by simp
  have hx : R % 256 ^ j < 2 ^ (8 * j) := by rw [← p256]; exact Nat.mod_lt _ (Nat.pow_pos (by decide))
  have h64 : (2 : Nat) ^ (8 * j) ≤ 72057594037927936 := Nat.pow_le_pow_right (n := 2) (by decide) (show 8 * j ≤ 56 by omega)
  have hy : b * 2 ^ (8 * j) < 18446744073709551616 := by
    have := Nat.mul_le_mul (show b ≤ 255 by omega) h64
    omega
  have e1 : IntKind.u64.wrap ((b : Int) * 2 ^ (8 * j)) = ((b * 2 ^ (8 * j) : Nat) : Int) := by
    rw [show ((b : Int) * 2 ^ (8 * j)) = ((b * 2 ^ (8 * j) : Nat) : Int) by simp, IntKind.wrap_u64]
    generalize b * 2 ^ (8 * j) = y at hy
    omega
  rw [e0, e1, u64_or_nat _ _ (by omega) hy, Nat.mul_comm b, Nat.or_comm, ← Nat.two_pow_add_eq_or_of_lt hx, PBits.mod_next, ← hb, p256, Nat.add_comm]
theorem u64_mask (x k : Nat) (hx : x < 18446744073709551616) (hk : k ≤ 63) : bits .and .u64 (x : Int) (IntKind.u64.wrap (IntKind.u64.wrap (2 ^ k) - 1)) = ((x % 2 ^ k : Nat) : Int) := by
  have h1 : (2 : Nat) ^ k ≤ 9223372036854775808 := Nat.pow_le_pow_right (n := 2) (by decide) hk
  have h0 : 0 < (2 : Nat) ^ k := Nat.two_pow_pos k
  have e1 : ((2 : Int) ^ k) = ((2 ^ k : Nat) : Int) := by simp
  have e2 : IntKind.u64.wrap (IntKind.u64.wrap (2 ^ k) - 1) = ((2 ^ k - 1 : Nat) : Int) := by
    rw [e1, IntKind.wrap_u64, IntKind.wrap_u64]
    generalize (2 : Nat) ^ k = y at h1 h0
    omega
  rw [e2, u64_and_nat _ _ hx (by omega), Nat.and_two_pow_sub_one_eq_mod]
theorem peek_end (R j r k : Nat) (hj : j ≤ 8) (hk : k ≤ 57) :
    bits .and .u64 ((R : Int) % 256 ^ j / 2 ^ r) (IntKind.u64.wrap (IntKind.u64.wrap (2 ^ k) - 1)) = ((R % 256 ^ j / 2 ^ r % 2 ^ k : Nat) : Int) := by
  have e0 : ((R : Int) % 256 ^ j / 2 ^ r) = ((R % 256 ^ j / 2 ^ r : Nat) : Int) := by simp
  have h1 : R % 256 ^ j < 256 ^ j := Nat.mod_lt _ (Nat.pow_pos (by decide))
  have h2 : (256 : Nat) ^ j ≤ 18446744073709551616 := Nat.pow_le_pow_right (n := 256) (by decide) hj
  have h3 : R % 256 ^ j / 2 ^ r ≤ R % 256 ^ j := Nat.div_le_self _ _
  rw [e0, u64_mask _ _ (by omega) (by omega)]
set_option maxRecDepth 100000 in
set_option maxHeartbeats 1000000 in
theorem peek_ok (g : Nat) (l : List UInt8) (at_ : Nat) (m : Int) (k : Nat) {w0 w : World} {L : List Pr} (H : Sp w0 (Rr g l at_ :: L) w) (ha : at_ ≤ 8 * l.length) (hl : l.length ≤ 1000000000) (hk : (k : Int) = min (min (max m 0) 57) ((8 * l.length - at_ : Nat) : Int)) :
    Calls Try.prog 57 #[.pointer (some ⟨g, 0, none⟩), .int .i64 m] w fun e w' => e = .returned (.tuple #[.int .u64 (PBits.peek l at_ k : Nat), .int .i64 (k : Int)]) ∧ Keep w w' := by
  obtain ⟨_, _, _, _, _, _, c2⟩ := rr_open H
  have hk57 : k ≤ 57 := by omega
  have f1 : ∀ W : World, (Builtin.max_ #[3, 3] 3 #[.int .i64 m, .int .i64 0]).run Try.prog W = .ok (.int .i64 (max m 0)) W := fun W => by
    simp [Builtin.max_, Builtin.max2]
    split <;> omega
  have f2 : ∀ W : World, (Builtin.min_ #[3, 3, 3] 3 #[.int .i64 (max m 0), .int .i64 57, .int .i64 ((8 * l.length - at_ : Nat) : Int)]).run Try.prog W = .ok (.int .i64 (k : Int)) W := fun W => by
    rw [hk]
    simp [Builtin.min_, Builtin.min2]
    split <;> split <;> omega
  have HK := Lib.hid hk
  clear hk
  go_enter Try.func57, Try.ntmps57
  go_wp2_with fail
  refine (rnone_any g _ c2).mono ?_
  rintro e w2 ⟨rfl, rfl⟩
  go_wp2_with fail
  refine (left_ok g l at_ H ha hl).mono ?_
  rintro e w2 ⟨rfl, hKp⟩
  replace H := hKp.sep H
  clear c2
  go_wp2_with fail
  clear f1 f2
  obtain ⟨A, c, H, hB, c0, c1, c2⟩ := rr_open H
  obtain ⟨q, hq0⟩ : ∃ q, q = at_ / 8 := ⟨_, rfl⟩
  have hq : (at_ : Int) / 8 = (q : Int) := by omega
  have hql : q ≤ l.length := by omega
  obtain ⟨R, hR⟩ : ∃ R, R = PBits.le l / 256 ^ q := ⟨_, rfl⟩
  have HQ := Lib.hid hq0
  have HR := Lib.hid hR
  have HB := Lib.hid hB
  clear hq0 hR hB
  obtain ⟨_, _, eA, _, _, hcm⟩ := id HB.out
  unfold maxLen at hcm
  clear eA
  go_loop [6, 7] (fun n i => ∃ j : Nat, j ≤ 8 ∧ 8 * j ≤ k + 14 ∧ i = .int .i64 (j : Int) ∧ n = .int .u64 ((R % 256 ^ j : Nat) : Int)) (fun _ i => 8 - (intOf i).toNat)
  case atStart => exact ⟨0, by omega, by omega, rfl, by simp [Nat.mod_one]⟩
  case round =>
    obtain ⟨j, hj1, hj2, rfl, rfl⟩ := hrel
    by_cases hlt : 8 * j < k + 7
    · have hlt' : (8 : Int) * j < k + 7 := by omega
      by_cases hin : q + j < l.length
      · have hin' : (q : Int) + j < l.length := by omega
        have hin0 : (0 : Int) ≤ (q : Int) + j := by omega
        obtain ⟨_, _, eA, hr, _, _⟩ := id HB.out
        injection eA with eA _ eC
        subst eA eC
        obtain ⟨ad, rfl, hc⟩ := hr.at8 hin
        clear hr
        obtain ⟨b, hb⟩ : ∃ b, l[q + j].toNat = b := ⟨_, rfl⟩
        rw [hb] at hc
        have hb2 : b < 256 := by rw [← hb]; exact (l[q + j]).toNat_lt
        have HBB := Lib.hid hb
        clear hb
        have hst := Lib.hid (peek_step R j b (by omega) (by rw [HR.out, Nat.div_div_eq_div_mul, ← Nat.pow_add, PBits.le_byte, List.getD_eq_getElem?_getD, List.getElem?_eq_getElem hin]; exact HBB.out.symm))
        go_wp2
        go_round
        case rel => exact ⟨j + 1, by omega, by omega, by go_num, by rw [← hst.out]⟩
        case measure => simp [intOf]; omega
      · have hin' : ¬ (q : Int) + j < l.length := by omega
        have hst : Hid (R % 256 ^ j = R % 256 ^ (j + 1)) := by
          have h1 := PBits.le_lt (l.drop q)
          rw [PBits.le_drop, ← HR.out] at h1
          have h2 : R < 256 ^ j := Nat.lt_of_lt_of_le h1 (Nat.pow_le_pow_right (by decide) (by simp; omega))
          have h3 : R < 256 ^ (j + 1) := Nat.lt_of_lt_of_le h2 (Nat.pow_le_pow_right (by decide) (by omega))
          show _ = _
          rw [Nat.mod_eq_of_lt h2, Nat.mod_eq_of_lt h3]
        go_wp2
        go_round
        case rel => exact ⟨j + 1, by omega, by omega, by go_num, by rw [← hst.out]⟩
        case measure => simp [intOf]; omega
    · have hlt' : ¬ (8 : Int) * j < k + 7 := by omega
      obtain ⟨r, hr⟩ : ∃ r, at_ % 8 = r := ⟨_, rfl⟩
      have hr' : (at_ : Int) % 8 = (r : Int) := by omega
      have hr8 : r < 8 := by omega
      have HX := Lib.hid hr
      clear hr
      go_wp2
      go_quiet (fail)
      go_wp2
      go_ret2
      have e := peek_end R j r k hj1 hk57
      have e2 := PBits.peek_of l at_ k j (by omega)
      rw [← HQ.out, ← HR.out, HX.out] at e2
      rw [e2] at e
      exact ⟨congrArg (fun x => Ending.returned (.tuple #[.int .u64 x, .int .i64 (k : Int)])) e, hKp.trans (Keep.drewN _ _)⟩
theorem get_ok (g : Nat) (l : List UInt8) (at_ k : Nat) {w0 w : World} {L : List Pr} (H : Sp w0 (Rr g l at_ :: L) w) (ha : at_ + k ≤ 8 * l.length) (hk : k ≤ 57) (hl : l.length ≤ 1000000000) :
    Calls Try.prog 39 #[.pointer (some ⟨g, 0, none⟩), .int .i64 (k : Int)] w fun e w' => e = .returned (.tuple #[.int .u64 (PBits.peek l at_ k : Nat), .int .i64 0]) ∧ Sp w0 (Rr g l (at_ + k) :: L) w' := by
  obtain ⟨_, _, _, _, _, _, c2⟩ := rr_open H
  go_enter Try.func39, Try.ntmps39
  go_wp2_with fail
  refine (rnone_any g _ c2).mono ?_
  rintro e w2 ⟨rfl, rfl⟩
  clear c2
  go_wp2_with fail
  refine (peek_ok g l at_ k k H (by omega) hl (by omega)).mono ?_
  rintro e w2 ⟨rfl, hK⟩
  replace H := hK.sep H
  clear hK
  go_wp2_with fail
  refine (skip_ok g l at_ k H ha hk hl).mono ?_
  rintro e w2 ⟨rfl, H⟩
  go_wp2
  go_ret2
  exact ⟨rfl, H⟩
theorem get_short (g : Nat) (l : List UInt8) (at_ k : Nat) {w0 w : World} {L : List Pr} (H : Sp w0 (Rr g l at_ :: L) w) (ha : at_ ≤ 8 * l.length) (hs : 8 * l.length < at_ + k) (hk : k ≤ 57) (hl : l.length ≤ 1000000000) :
    Calls Try.prog 39 #[.pointer (some ⟨g, 0, none⟩), .int .i64 (k : Int)] w fun e w' => e = .returned (.tuple #[.int .u64 0, .int .i64 4]) ∧ Keep w w' := by
  obtain ⟨_, _, _, _, _, _, c2⟩ := rr_open H
  go_enter Try.func39, Try.ntmps39
  go_wp2_with fail
  refine (rnone_any g _ c2).mono ?_
  rintro e w2 ⟨rfl, rfl⟩
  clear c2
  go_wp2_with fail
  refine (peek_ok g l at_ k (8 * l.length - at_) H (by omega) hl (by omega)).mono ?_
  rintro e w2 ⟨rfl, hK⟩
  replace H := hK.sep H
  go_wp2_with fail
  refine (skip_short g l at_ k H ha hs hk hl).mono ?_
  rintro e w2 ⟨rfl, hK2⟩
  go_wp2
  go_ret2
  exact ⟨rfl, hK.trans hK2⟩
theorem get_bad (g : Nat) (l : List UInt8) (at_ : Nat) (m : Int) {w0 w : World} {L : List Pr} (H : Sp w0 (Rr g l at_ :: L) w) (ha : at_ ≤ 8 * l.length) (h : m < 0 ∨ 57 < m) (hl : l.length ≤ 1000000000) :
    Calls Try.prog 39 #[.pointer (some ⟨g, 0, none⟩), .int .i64 m] w fun e w' => e = .returned (.tuple #[.int .u64 0, .int .i64 1]) ∧ Keep w w' := by
  obtain ⟨_, _, _, _, _, _, c2⟩ := rr_open H
  obtain ⟨k, hk⟩ : ∃ k : Nat, (k : Int) = min (min (max m 0) 57) ((8 * l.length - at_ : Nat) : Int) := ⟨(min (min (max m 0) 57) ((8 * l.length - at_ : Nat) : Int)).toNat, by omega⟩
  have HK := Lib.hid hk
  clear hk
  go_enter Try.func39, Try.ntmps39
  go_wp2_with fail
  refine (rnone_any g _ c2).mono ?_
  rintro e w2 ⟨rfl, rfl⟩
  clear c2
  go_wp2_with fail
  refine (peek_ok g l at_ m k H ha hl HK.out).mono ?_
  rintro e w2 ⟨rfl, hK⟩
  replace H := hK.sep H
  obtain ⟨_, _, _, _, _, _, c2⟩ := rr_open H
  go_wp2_with fail
  refine (skip_bad g m c2 h).mono ?_
  rintro e w2 ⟨rfl, rfl⟩
  go_wp2
  go_ret2
  exact ⟨rfl, hK⟩
end Go.Proofs.Ytkgnihpcldgedaa
