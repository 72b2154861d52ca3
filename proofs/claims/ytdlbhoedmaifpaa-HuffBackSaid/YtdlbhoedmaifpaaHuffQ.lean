/- HuffQ: bits the other way round, of 32; the law's comparison of rows. -/
import Derived.Test.YtdlbhoedmaifpaaHuffP
import Derived.Test.YtdlbhoedmaifpaaBitsMath
import Derived.Laws.BitsAllLaws
namespace Go.Proofs.Ytdlbhoedmaifpaa
open Go.RowKit
namespace PBits
def Mask32 (s M : Nat) : Prop := ∀ j, j < 32 → M.testBit j = decide (j / s % 2 = 0)
theorem sw_bit32 (s M x i : Nat) (hs : s = 1 ∨ s = 2 ∨ s = 4 ∨ s = 8 ∨ s = 16) (hM : Mask32 s M) (hi : i < 32) : (sw s M x).testBit i = x.testBit (swi s i) := by
  unfold sw swi
  rw [Nat.testBit_or, Nat.testBit_and, Nat.testBit_div_two_pow, Nat.testBit_mul_two_pow, Nat.testBit_and, hM i hi, hM (i - s) (by omega)]
  by_cases h : i / s % 2 = 0
  · have h2 : s ≤ i → ¬ (i - s) / s % 2 = 0 := by
      rcases hs with rfl | rfl | rfl | rfl | rfl <;> omega
    rw [if_pos h]
    by_cases h3 : s ≤ i
    · simp [h, h2 h3]
    · simp [h, h3]
  · have h2 : (i - s) / s % 2 = 0 := by
      rcases hs with rfl | rfl | rfl | rfl | rfl <;> omega
    have h3 : s ≤ i := by
      rcases hs with rfl | rfl | rfl | rfl | rfl <;> omega
    rw [if_neg h]
    simp [h, h2, h3]
theorem m32_1 : Mask32 1 1431655765 := by unfold Mask32; decide +kernel
theorem m32_2 : Mask32 2 858993459 := by unfold Mask32; decide +kernel
theorem m32_4 : Mask32 4 252645135 := by unfold Mask32; decide +kernel
theorem m32_8 : Mask32 8 16711935 := by unfold Mask32; decide +kernel
theorem m32_16 : Mask32 16 65535 := by unfold Mask32; decide +kernel
def rev32 (x : Nat) : Nat := sw 16 65535 (sw 8 16711935 (sw 4 252645135 (sw 2 858993459 (sw 1 1431655765 x))))
theorem swi_all32 : ∀ i, i < 32 → swi 1 (swi 2 (swi 4 (swi 8 (swi 16 i)))) = 31 - i ∧ swi 16 i < 32 ∧ swi 8 (swi 16 i) < 32 ∧ swi 4 (swi 8 (swi 16 i)) < 32 ∧ swi 2 (swi 4 (swi 8 (swi 16 i))) < 32 := by decide +kernel
theorem rev32_bit (x i : Nat) (hi : i < 32) : (rev32 x).testBit i = x.testBit (31 - i) := by
  obtain ⟨h0, h1, h2, h3, h4⟩ := swi_all32 i hi
  unfold rev32
  rw [sw_bit32 16 _ _ _ (by omega) m32_16 hi, sw_bit32 8 _ _ _ (by omega) m32_8 h1, sw_bit32 4 _ _ _ (by omega) m32_4 h2, sw_bit32 2 _ _ _ (by omega) m32_2 h3, sw_bit32 1 _ _ _ (by omega) m32_1 h4, h0]
theorem sw_lt32 (s M x : Nat) (hM : M * 2 ^ s < 4294967296) (hM2 : M < 4294967296) : sw s M x < 4294967296 := by
  unfold sw
  rw [show (4294967296 : Nat) = 2 ^ 32 by decide] at *
  refine Nat.or_lt_two_pow (Nat.and_lt_two_pow _ hM2) ?_
  exact Nat.lt_of_le_of_lt (Nat.mul_le_mul_right _ Nat.and_le_right) hM
theorem rev32_lt (x : Nat) : rev32 x < 4294967296 := by
  unfold rev32
  exact sw_lt32 16 65535 _ (by decide) (by decide)
theorem rev32_rev (x k : Nat) (hk : k ≤ 32) : rev32 x / 2 ^ (32 - k) = rev x k := by
  apply Nat.eq_of_testBit_eq
  intro i
  rw [Nat.testBit_div_two_pow, rev_bit]
  by_cases h : i < k
  · rw [rev32_bit _ _ (by omega), show 31 - (i + (32 - k)) = k - 1 - i by omega]
    simp [h]
  · rw [Nat.testBit_lt_two_pow (Nat.lt_of_lt_of_le (rev32_lt x) (by rw [show (4294967296 : Nat) = 2 ^ 32 by decide]; exact Nat.pow_le_pow_right (by omega) (by omega)))]
    simp [h]
end PBits
theorem sw_words_u32 (s M x : Nat) (hx : x < 4294967296) (hM : M < 4294967296) (hM2 : M * 2 ^ s < 4294967296) (p : Int) (hp : p = ((2 ^ s : Nat) : Int)) :
    bits .or .u32 (bits .and .u32 ((x : Int) / p) (M : Int)) (bits .and .u32 (x : Int) (M : Int) * p % 4294967296) = ((PBits.sw s M x : Nat) : Int) := by
  subst hp
  have h0 : (x : Int) / ((2 ^ s : Nat) : Int) = ((x / 2 ^ s : Nat) : Int) := by rw [Int.natCast_ediv]
  have h1 : x / 2 ^ s < 4294967296 := Nat.lt_of_le_of_lt (Nat.div_le_self _ _) hx
  have h2 : (x &&& M) * 2 ^ s < 4294967296 := Nat.lt_of_le_of_lt (Nat.mul_le_mul_right _ Nat.and_le_right) hM2
  have h3 : (x / 2 ^ s &&& M) < 4294967296 := Nat.lt_of_le_of_lt Nat.and_le_right hM
  rw [h0, u32_and_nat _ _ h1 hM, u32_and_nat _ _ hx hM, ← Int.natCast_mul, Int.emod_eq_of_lt (by omega) (by omega), u32_or_nat _ _ h3 h2]
  rfl
theorem sw_words16 (x : Nat) (hx : x < 4294967296) :
    bits .or .u32 ((x : Int) / 65536) ((x : Int) * 65536 % 4294967296) = ((PBits.sw 16 65535 x : Nat) : Int) := by
  have h1 : x / 65536 < 4294967296 := by omega
  have h2 : (x &&& 65535) = x % 65536 := Nat.and_two_pow_sub_one_eq_mod x 16
  have h3 : (x / 65536 &&& 65535) = x / 65536 := by
    rw [show (65535 : Nat) = 2 ^ 16 - 1 by decide, Nat.and_two_pow_sub_one_eq_mod]; omega
  have h4 : (x : Int) * 65536 % 4294967296 = ((x % 65536 * 65536 : Nat) : Int) := by omega
  have h5 : (x : Int) / 65536 = ((x / 65536 : Nat) : Int) := by omega
  rw [h4, h5, u32_or_nat _ _ h1 (by omega)]
  unfold PBits.sw
  rw [h2, show (2 : Nat) ^ 16 = 65536 by decide, h3]
theorem revBytes32_any (x : Nat) (w : World) (hx : x < 4294967296) :
    Calls Try.prog 71 #[.int .u32 (x : Int)] w fun e w' => e = .returned (.int .u32 (PBits.sw 16 65535 (PBits.sw 8 16711935 x) : Nat)) ∧ w = w' := by
  have l8 := PBits.sw_lt32 8 16711935 x (by decide) (by decide)
  have e8 := sw_words_u32 8 16711935 x hx (by decide) (by decide) 256 (by decide)
  have e16 := sw_words16 _ l8
  simp only [Int.cast_ofNat_Int] at e8 e16
  go_enter Try.func71, Try.ntmps71
  go_wp2
  go_ret
  exact ⟨rfl, rfl⟩
theorem rev32_any (x : Nat) (w : World) (hx : x < 4294967296) :
    Calls Try.prog 60 #[.int .u32 (x : Int)] w fun e w' => e = .returned (.int .u32 (PBits.rev32 x : Nat)) ∧ w = w' := by
  have l1 := PBits.sw_lt32 1 1431655765 x (by decide) (by decide)
  have e1 := sw_words_u32 1 1431655765 x hx (by decide) (by decide) 2 (by decide)
  have l2 := PBits.sw_lt32 2 858993459 (PBits.sw 1 1431655765 x) (by decide) (by decide)
  have e2 := sw_words_u32 2 858993459 _ l1 (by decide) (by decide) 4 (by decide)
  have l4 := PBits.sw_lt32 4 252645135 (PBits.sw 2 858993459 (PBits.sw 1 1431655765 x)) (by decide) (by decide)
  have e4 := sw_words_u32 4 252645135 _ l2 (by decide) (by decide) 16 (by decide)
  simp only [Int.cast_ofNat_Int] at e1 e2 e4
  go_enter Try.func60, Try.ntmps60
  go_wp2_with fail
  refine (revBytes32_any _ _ l4).mono ?_
  rintro e w2 ⟨rfl, rfl⟩
  go_wp2
  go_ret
  exact ⟨rfl, rfl⟩
/-- huff.Turned, at any number of bits. -/
theorem turned_any (x K : Nat) (m : Int) (w : World) (hx : x < 4294967296) (hK : (K : Int) = max 0 (min m 32)) :
    Calls Try.prog 41 #[.int .u32 (x : Int), .int .i64 m] w fun e w' => e = .returned (.int .u32 (PBits.rev x K : Nat)) ∧ w = w' := by
  have hk32 : K ≤ 32 := by omega
  have f1 : ∀ W : World, (Builtin.min_ #[3, 3] 3 #[.int .i64 m, .int .i64 32]).run Try.prog W = .ok (.int .i64 (min m 32)) W := fun W => by
    simp [Builtin.min_, Builtin.min2]
    split <;> omega
  have f2 : ∀ W : World, (Builtin.max_ #[3, 3] 3 #[.int .i64 0, .int .i64 (min m 32)]).run Try.prog W = .ok (.int .i64 (K : Int)) W := fun W => by
    simp [Builtin.max_, Builtin.max2]
    split <;> omega
  have hr := PBits.rev32_lt x
  have hq := PBits.rev32_rev x K hk32
  obtain ⟨d, hd⟩ : ∃ d, 32 - K = d := ⟨_, rfl⟩
  have y1 : (32 : Int) - (K : Int) = (d : Int) := by omega
  rw [hd] at hq
  have HQ := Lib.hid hq
  have hl := PBits.rev_lt x K
  have hl2 : PBits.rev x K < 4294967296 := by
    refine Nat.lt_of_lt_of_le hl ?_
    have : (2 : Nat) ^ K ≤ 2 ^ 32 := Nat.pow_le_pow_right (by omega) hk32
    exact this
  obtain ⟨R, hR⟩ : ∃ R, PBits.rev x K = R := ⟨_, rfl⟩
  have y2 : ((PBits.rev32 x : Nat) : Int) / 2 ^ d = (R : Int) := by
    rw [← hR, ← hq]; simp
  rw [hR] at hl2
  rw [hR]
  clear hK hq hd hl hR HQ
  go_enter Try.func41, Try.ntmps41
  go_wp2_with fail
  refine (rev32_any _ _ hx).mono ?_
  rintro e w2 ⟨rfl, rfl⟩
  go_wp2
  go_ret
  exact ⟨rfl, rfl⟩
set_option maxRecDepth 100000 in
set_option maxHeartbeats 1000000 in
/-- The document's Turned. -/
theorem rturned_any (x K : Nat) (m : Int) (w : World) (hx : x < 4294967296) (hK : (K : Int) = max 0 (min m 32)) :
    Calls Try.prog 42 #[.int .u32 (x : Int), .int .i64 m] w fun e w' => e = .returned (.int .u32 (PBits.rev x K : Nat)) ∧ w = w' := by
  have HX := Lib.hid hx
  obtain ⟨R, hR⟩ : ∃ R, PBits.rev x K = R := ⟨_, rfl⟩
  rw [hR]
  have HR := Lib.hid hR
  have key : ∀ mm : Int, (mm = m ∨ mm = 32) → 32 ≥ mm → (mm ≤ 0 ∧ K = 0 ∨ mm = (K : Int)) → True := fun _ _ _ _ => trivial
  by_cases h32 : 32 < m
  · obtain rfl : K = 32 := by omega
    clear hK hR hx key
    go_enter Try.func42, Try.ntmps42
    go_wp2_with fail
    go_loopw [0, 5, 6] (fun cv ov iv wr => ∃ (i o cc : Nat), iv = .int .i64 (i : Int) ∧ ov = .int .u32 (o : Int) ∧ cv = .int .u32 (cc : Int) ∧ i ≤ 32 ∧ cc < 4294967296 ∧ o < 4294967296 ∧ Hid (o < 2 ^ i ∧ o * 2 ^ (32 - i) + PBits.rev cc (32 - i) = R) ∧ w = wr) (fun _ _ iv _ => 32 - (intOf iv).toNat)
    case atStart => exact ⟨0, 0, x, rfl, rfl, rfl, Nat.zero_le _, HX.out, by omega, Lib.hid ⟨by simp, by rw [Nat.zero_mul, Nat.zero_add]; exact HR.out⟩, rfl⟩
    case round =>
      obtain ⟨i, o, cc, rfl, rfl, rfl, hik, hcc, ho, HE, rfl⟩ := hrel
      by_cases hlt : i < 32
      · have k1 : (i : Int) < 32 := by omega
        have ho2 : o < 2147483648 := by
          have h1 := HE.out.1
          have : (2 : Nat) ^ i ≤ 2 ^ 31 := Nat.pow_le_pow_right (by omega) (by omega)
          omega
        obtain ⟨b, hb⟩ : ∃ b, cc % 2 = b := ⟨_, rfl⟩
        obtain ⟨h, hh⟩ : ∃ h, cc / 2 = h := ⟨_, rfl⟩
        have y1 : (cc : Int) % 2 = (b : Int) := by omega
        have y2 : (cc : Int) / 2 = (h : Int) := by omega
        have y3 : (cc : Int).tmod 2 = (b : Int) := by rw [Int.tmod_eq_emod_of_nonneg (by omega)]; exact y1
        have y4 : (cc : Int).tdiv 2 = (h : Int) := by rw [Int.tdiv_eq_ediv_of_nonneg (by omega)]; exact y2
        have hb2 : b < 2 := by omega
        have hh2 : h < 4294967296 := by omega
        have hnext : 2 * o + b < 2 ^ (i + 1) ∧ (2 * o + b) * 2 ^ (32 - (i + 1)) + PBits.rev h (32 - (i + 1)) = R := by
          obtain ⟨h1, h2⟩ := HE.out
          refine ⟨by rw [Nat.pow_succ]; omega, ?_⟩
          rw [show 32 - i = (32 - (i + 1)) + 1 by omega, PBits.rev, hb, hh, Nat.pow_succ] at h2
          rw [← h2, Nat.add_mul, Nat.mul_comm 2 o, Nat.mul_assoc o 2, Nat.mul_comm 2 (2 ^ _)]
          omega
        have HNX := Lib.hid hnext
        clear hb hh hnext
        go_wp2_with fail
        go_roundw
        case rel => exact ⟨i + 1, 2 * o + b, h, by go_num, by go_num, rfl, by omega, hh2, by omega, HNX, trivial⟩
        case measure => first | (simp [intOf]; omega) | simp [intOf]
      · have k1 : ¬ (i : Int) < 32 := by omega
        obtain rfl : i = 32 := by omega
        have hRo : R = o := by
          have h2 := HE.out.2
          rw [Nat.sub_self] at h2
          simp [PBits.rev] at h2
          exact h2.symm
        subst hRo
        go_wp2_with fail
        go_ret
        exact ⟨rfl, rfl⟩
  · by_cases h0 : m ≤ 0
    · obtain rfl : K = 0 := by omega
      obtain rfl : R = 0 := by rw [← hR]; rfl
      have k1 : ¬ (0 : Int) < m := by omega
      clear hK hR hx key
      go_enter Try.func42, Try.ntmps42
      go_wp2_with fail
      go_loopw [0, 5, 6] (fun cv ov iv wr => ov = .int .u32 0 ∧ iv = .int .i64 0 ∧ w = wr) (fun _ _ _ _ => 0)
      case atStart => exact ⟨rfl, rfl, rfl⟩
      case round =>
        obtain ⟨rfl, rfl, rfl⟩ := hrel
        go_wp2_with fail
        go_ret
        exact ⟨rfl, rfl⟩
    · obtain rfl : m = (K : Int) := by omega
      have hk32 : K ≤ 32 := by omega
      clear hK hR hx key
      go_enter Try.func42, Try.ntmps42
      go_wp2_with fail
      go_loopw [0, 5, 6] (fun cv ov iv wr => ∃ (i o cc : Nat), iv = .int .i64 (i : Int) ∧ ov = .int .u32 (o : Int) ∧ cv = .int .u32 (cc : Int) ∧ i ≤ K ∧ cc < 4294967296 ∧ o < 4294967296 ∧ Hid (o < 2 ^ i ∧ o * 2 ^ (K - i) + PBits.rev cc (K - i) = R) ∧ w = wr) (fun _ _ iv _ => K - (intOf iv).toNat)
      case atStart => exact ⟨0, 0, x, rfl, rfl, rfl, Nat.zero_le _, HX.out, by omega, Lib.hid ⟨by simp, by rw [Nat.zero_mul, Nat.zero_add]; exact HR.out⟩, rfl⟩
      case round =>
        obtain ⟨i, o, cc, rfl, rfl, rfl, hik, hcc, ho, HE, rfl⟩ := hrel
        by_cases hlt : i < K
        · have k1 : (i : Int) < (K : Int) := by omega
          have ho2 : o < 2147483648 := by
            have h1 := HE.out.1
            have : (2 : Nat) ^ i ≤ 2 ^ 31 := Nat.pow_le_pow_right (by omega) (by omega)
            omega
          obtain ⟨b, hb⟩ : ∃ b, cc % 2 = b := ⟨_, rfl⟩
          obtain ⟨h, hh⟩ : ∃ h, cc / 2 = h := ⟨_, rfl⟩
          have y1 : (cc : Int) % 2 = (b : Int) := by omega
          have y2 : (cc : Int) / 2 = (h : Int) := by omega
          have y3 : (cc : Int).tmod 2 = (b : Int) := by rw [Int.tmod_eq_emod_of_nonneg (by omega)]; exact y1
          have y4 : (cc : Int).tdiv 2 = (h : Int) := by rw [Int.tdiv_eq_ediv_of_nonneg (by omega)]; exact y2
          have hb2 : b < 2 := by omega
          have hh2 : h < 4294967296 := by omega
          have hnext : 2 * o + b < 2 ^ (i + 1) ∧ (2 * o + b) * 2 ^ (K - (i + 1)) + PBits.rev h (K - (i + 1)) = R := by
            obtain ⟨h1, h2⟩ := HE.out
            refine ⟨by rw [Nat.pow_succ]; omega, ?_⟩
            rw [show K - i = (K - (i + 1)) + 1 by omega, PBits.rev, hb, hh, Nat.pow_succ] at h2
            rw [← h2, Nat.add_mul, Nat.mul_comm 2 o, Nat.mul_assoc o 2, Nat.mul_comm 2 (2 ^ _)]
            omega
          have HNX := Lib.hid hnext
          clear hb hh hnext
          go_wp2_with fail
          go_roundw
          case rel => exact ⟨i + 1, 2 * o + b, h, by go_num, by go_num, rfl, by omega, hh2, by omega, HNX, trivial⟩
          case measure => first | (simp [intOf]; omega) | simp [intOf]
        · have k1 : ¬ (i : Int) < (K : Int) := by omega
          obtain rfl : i = K := by omega
          have hRo : R = o := by
            have h2 := HE.out.2
            rw [Nat.sub_self] at h2
            simp [PBits.rev] at h2
            exact h2.symm
          subst hRo
          go_wp2_with fail
          go_ret
          exact ⟨rfl, rfl⟩
set_option maxRecDepth 100000 in
set_option maxHeartbeats 1000000 in
/-- The law's comparison of two rows of numbers. -/
theorem ints_ok (A B : Option Addr) (n c m d : Nat) (l1 l2 : List Int) {w0 w : World} {L : List Pr} (H : Sp w0 L w) (hn : n = l1.length) (hm : m = l2.length) (ha : Ent L fun w => Rd w A (cells64 l1)) (hb : Ent L fun w => Rd w B (cells64 l2)) (hl : n ≤ 1000000000) :
    Calls Try.prog 28 #[.slice A n c, .slice B m d] w fun e w' => e = .returned (.bool (decide (l1 = l2))) ∧ Sp w0 L w' := by
  obtain ⟨r, hr⟩ : ∃ r, decide (l1 = l2) = r := ⟨_, rfl⟩
  rw [hr]
  have HR := Lib.hid hr
  have HN := Lib.hid hn
  have HM := Lib.hid hm
  have HA := Lib.hid ha
  have HB := Lib.hid hb
  clear hr hn hm ha hb
  by_cases hnm : n = m
  · have k0 : ((n : Int) != (m : Int)) = false := by rw [hnm]; simp
    have HNM := Lib.hid hnm
    have k9 : n ≤ m := by omega
    clear hnm
    go_enter Try.func28, Try.ntmps28
    go_wp2_with fail
    go_loopw [5] (fun iv wr => ∃ (i : Nat), iv = .int .i64 (i : Int) ∧ i ≤ n ∧ Hid (l1.take i = l2.take i) ∧ Sp w0 L wr) (fun iv _ => n - (intOf iv).toNat)
    case atStart => exact ⟨0, rfl, Nat.zero_le _, Lib.hid rfl, H⟩
    case round =>
      clear H
      obtain ⟨i, rfl, hin, HE, H⟩ := hrel
      by_cases hlt : i < n
      · have k1 : (i : Int) < (n : Int) := by omega
        have k2 : (i : Int) < (m : Int) := by omega
        have hi1 : i < l1.length := by rw [← HN.out]; exact hlt
        have hi2 : i < l2.length := by rw [← HM.out]; omega
        obtain ⟨al, hal, hc1⟩ := (HA.out _ _ H).at64 (k := i) hi1
        obtain ⟨bl, hbl, hc2⟩ := (HB.out _ _ H).at64 (k := i) hi2
        obtain ⟨x, hx⟩ : ∃ x, l1[i] = x := ⟨_, rfl⟩
        obtain ⟨y, hy⟩ : ∃ y, l2[i] = y := ⟨_, rfl⟩
        rw [hx] at hc1
        rw [hy] at hc2
        subst hal hbl
        by_cases hxy : x = y
        · have k3 : (x != y) = false := by rw [hxy]; simp
          have hnext : l1.take (i + 1) = l2.take (i + 1) := by
            rw [List.take_succ_eq_append_getElem hi1, List.take_succ_eq_append_getElem hi2, HE.out, hx, hy, hxy]
          have HNX := Lib.hid hnext
          clear hx hy hxy hnext
          go_wp2_with fail
          go_quiet (fail)
          go_wp2_with fail
          go_roundw
          case rel => exact ⟨i + 1, by go_num, by omega, HNX, H.drewN _⟩
          case measure => first | (simp [intOf]; omega) | simp [intOf]
        · have k3 : (x != y) = true := by simpa using hxy
          have hrf : r = false := by
            rw [← HR.out]
            refine decide_eq_false fun h => hxy ?_
            subst h
            rw [← hx, ← hy]
          subst hrf
          clear hx hy
          go_wp2_with fail
          go_quiet (fail)
          go_wp2_with fail
          go_ret
          exact ⟨rfl, H.drewN _⟩
      · have k1 : ¬ (i : Int) < (n : Int) := by omega
        obtain rfl : i = n := by omega
        have hrt : r = true := by
          rw [← HR.out]
          refine decide_eq_true ?_
          have h := HE.out
          rwa [List.take_of_length_le (by rw [← HN.out]; exact Nat.le_refl _), List.take_of_length_le (by rw [← HM.out, ← HNM.out]; exact Nat.le_refl _)] at h
        subst hrt
        go_wp2_with fail
        go_ret
        exact ⟨rfl, H⟩
  · have k0 : ((n : Int) != (m : Int)) = true := by simp; omega
    have hrf : r = false := by
      rw [← HR.out]
      refine decide_eq_false fun h => hnm ?_
      rw [HN.out, HM.out, h]
    subst hrf
    go_enter Try.func28, Try.ntmps28
    go_wp2_with fail
    go_ret
    exact ⟨rfl, H⟩
end Go.Proofs.Ytdlbhoedmaifpaa
