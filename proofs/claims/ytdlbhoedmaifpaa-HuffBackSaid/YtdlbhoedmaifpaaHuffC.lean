/- HuffC: State. -/
import Derived.Test.YtdlbhoedmaifpaaHuffB
namespace Go.Proofs.Ytdlbhoedmaifpaa
open Go.RowKit
def cmpI (x y : Int) : Int := if x < y then -1 else if y < x then 1 else 0
set_option maxRecDepth 100000 in
theorem nan_ok (x : Int) (w : World) : Calls Try.prog 70 #[.int .i64 x] w fun e w' => e = .returned (.bool false) ∧ w = w' := by
  go_enter Try.func70, Try.ntmps70
  go_wp2
  go_ret
  exact ⟨rfl, rfl⟩
set_option maxRecDepth 100000 in
theorem cmp_ok (x y : Int) (w : World) : Calls Try.prog 58 #[.int .i64 x, .int .i64 y] w fun e w' => e = .returned (.int .i64 (cmpI x y)) ∧ w = w' := by
  obtain ⟨r, hr⟩ : ∃ r, cmpI x y = r := ⟨_, rfl⟩
  rw [hr]
  have HR := Lib.hid hr
  clear hr
  go_enter Try.func58, Try.ntmps58
  go_wp2_with fail
  refine (nan_ok x _).mono ?_
  rintro _ _ ⟨rfl, rfl⟩
  go_wp2_with fail
  refine (nan_ok y _).mono ?_
  rintro _ _ ⟨rfl, rfl⟩
  by_cases h1 : x < y
  · go_wp2_with fail
    go_ret
    exact ⟨ret_i64 (by rw [← HR.out]; unfold cmpI; rw [if_pos h1]), rfl⟩
  · by_cases h2 : y < x
    · go_wp2_with fail
      go_ret
      exact ⟨ret_i64 (by rw [← HR.out]; unfold cmpI; rw [if_neg (by omega), if_pos (by omega)]), rfl⟩
    · go_wp2_with fail
      go_ret
      exact ⟨ret_i64 (by rw [← HR.out]; unfold cmpI; rw [if_neg (by omega), if_neg (by omega)]), rfl⟩
theorem index16 (f : Nat → Nat) (i : Nat) (h : i < 16) (w : World) : (Instr.index 112 (.agg (cntV f).toArray) (.int .i64 (i : Int))).run Try.prog w = .ok (.int .i64 (f i : Int)) w := by
  simp [Instr.index, run_underlying Try.underlying112, asIntOf, part, Result.andThen, cntV_get f i h]
  intro h2; omega
set_option maxRecDepth 100000 in
set_option maxHeartbeats 2000000 in
theorem state_ok (A : Option Addr) (n c : Nat) (m : List Nat) {w0 w : World} {L : List Pr} (H : Sp w0 L w) (hn : n = m.length) (hb : Ent L fun w => Rd w A (cells64 (castI m))) (hl : n ≤ 1024) (h15 : ∀ x ∈ m, x ≤ 15) :
    Calls Try.prog 33 #[.slice A n c] w fun e w' => e = .returned (.tuple #[.int .i64 (PH.state m), .int .i64 0]) ∧ Sp w0 L w' := by
  have hmay := hmay_ok A n c (castI m) H (by simpa [castI] using hn) hb (by omega)
  have hmt : PH.may (castI m) = true := by
    unfold PH.may
    rw [decide_eq_true (by rw [← show n = (castI m).length by simpa [castI] using hn]; exact hl), Bool.true_and, Bool.not_eq_true', List.any_eq_false]
    intro x hx
    obtain ⟨y, hy, rfl⟩ := List.mem_map.1 hx
    have := h15 y hy
    unfold PH.bad
    simp only [decide_eq_true_eq]
    omega
  rw [hmt] at hmay
  have HN := Lib.hid hn
  have HB := Lib.hid hb
  have H15 := Lib.hid h15
  have hst : cmpI (PH.sum m : Int) 32768 = PH.state m := by
    unfold cmpI PH.state
    by_cases h1 : PH.sum m < 32768
    · rw [if_pos h1, if_pos (by omega)]
    · rw [if_neg h1, if_neg (by omega)]
      by_cases h2 : 32768 < PH.sum m
      · rw [if_pos h2, if_pos (by omega)]
      · rw [if_neg h2, if_neg (by omega)]
  have HST := Lib.hid hst
  clear hn hb h15 hmt hst
  obtain ⟨st, hst⟩ : ∃ st, PH.state m = st := ⟨_, rfl⟩
  rw [hst]
  rw [hst] at HST
  clear hst
  obtain ⟨t, ht⟩ : ∃ t, tallyV m = t := ⟨_, rfl⟩
  have hix : ∀ (i : Nat) (w : World), i < 16 → (Instr.index 112 t (.int .i64 (i : Int))).run Try.prog w = .ok (.int .i64 (PH.tal m i : Int)) w := fun i w h => by rw [← ht]; exact index16 _ i h w
  have HIX := Lib.hid hix
  have HT := Lib.hid ht
  clear hix ht
  go_enter Try.func33, Try.ntmps33
  go_wp2_with fail
  refine hmay.mono ?_
  rintro _ w1 ⟨rfl, H1⟩
  clear hmay
  go_wp2_with fail
  refine (tally_ok A n c m H1 HN.out HB.out (by omega) H15.out).mono ?_
  rintro _ w2 ⟨rfl, H2⟩
  rw [HT.out]
  go_wp2_with fail
  go_loopw [4, 12] (fun sv iv wr => ∃ i : Nat, iv = .int .i64 (i : Int) ∧ sv = .int .i64 (PH.share m i : Int) ∧ i ≤ 16 ∧ Sp w0 L wr) (fun _ iv _ => 16 - (intOf iv).toNat)
  case atStart => exact ⟨0, rfl, rfl, by omega, H2⟩
  case round =>
    obtain ⟨i, rfl, rfl, hi, H3⟩ := hrel
    by_cases hin : i < 16
    · have k1 : (i : Int) < 16 := by omega
      have hx := HIX.out i wr hin
      obtain ⟨q, hq⟩ : ∃ q, PH.tal m i = q := ⟨_, rfl⟩
      have hqn : q ≤ n := by rw [← hq, HN.out]; exact PH.tal_le m i
      obtain ⟨s, hs⟩ : ∃ s, PH.share m i = s := ⟨_, rfl⟩
      have hsn : s ≤ 600000000 := by
        rw [← hs]
        have := PH.share_le m i
        rw [← HN.out] at this
        have h2 : i * (n * 32768) ≤ 16 * (1024 * 32768) := Nat.mul_le_mul (by omega) (Nat.mul_le_mul_right _ hl)
        omega
      have hss : PH.share m (i + 1) = s + q * 2 ^ (15 - i) := by rw [PH.share, hs, hq]
      rw [hq] at hx
      rw [hs]
      obtain ⟨p, hp⟩ : ∃ p, q * 2 ^ (15 - i) = p := ⟨_, rfl⟩
      have hpn : p ≤ 40000000 := by
        rw [← hp]
        have : (2 : Nat) ^ (15 - i) ≤ 2 ^ 15 := Nat.pow_le_pow_right (by omega) (by omega)
        have h2 : q * 2 ^ (15 - i) ≤ 1024 * 2 ^ 15 := Nat.mul_le_mul (by omega) this
        omega
      rw [hp] at hss
      have HSS := Lib.hid hss
      have HP := Lib.hid hp
      clear hss hp hq hs
      obtain ⟨d, hd⟩ : ∃ d, 15 - i = d := ⟨_, rfl⟩
      have e1 : (15 : Int) - (i : Int) = (d : Int) := by omega
      have hd15 : d ≤ 15 := by omega
      rw [hd] at HP
      have e2 : (q : Int) * 2 ^ d = (p : Int) := by
        rw [← HP.out]
        simp
      clear hd
      go_wp2_with fail
      go_roundw
      case rel =>
        refine ⟨i + 1, by go_num, ?_, by omega, H3⟩
        rw [HSS.out]
        exact congrArg (Value.int .i64) (by omega)
      case measure => first | (simp [intOf]; omega) | simp [intOf]
    · have k1 : ¬ (i : Int) < 16 := by omega
      obtain rfl : i = 16 := by omega
      obtain ⟨s, hs⟩ : ∃ s, PH.share m 16 = s := ⟨_, rfl⟩
      have hs2 : PH.sum m = s := hs
      rw [hs2] at HST
      rw [hs]
      clear hs hs2
      go_wp2_with fail
      refine (cmp_ok (s : Int) 32768 _).mono ?_
      rintro _ _ ⟨rfl, rfl⟩
      rw [HST.out]
      go_wp2_with fail
      go_ret2
      exact ⟨rfl, H3⟩
end Go.Proofs.Ytdlbhoedmaifpaa
