/- BitsShort: the walk of the law. -/
import Derived.Test.YtkgnihpcldgedaaBitsTurned
namespace Go.Proofs.Ytkgnihpcldgedaa
open Go.RowKit
namespace PBits
theorem peek_bit (l : List UInt8) (f k i : Nat) (h : i < k) : peek l f k / 2 ^ i % 2 = (l.getD ((f + i) / 8) 0).toNat / 2 ^ ((f + i) % 8) % 2 := by
  unfold peek
  have e1 : (2 : Nat) ^ k = 2 ^ i * (2 * 2 ^ (k - i - 1)) := by
    rw [← Nat.pow_succ', ← Nat.pow_add]
    congr 1; omega
  rw [e1, Nat.mod_mul_right_div_self, Nat.mod_mul_right_mod, Nat.div_div_eq_div_mul, ← Nat.pow_add, ← le_byte]
  obtain ⟨q, hq⟩ : ∃ q, (f + i) / 8 = q := ⟨_, rfl⟩
  obtain ⟨r, hr⟩ : ∃ r, (f + i) % 8 = r := ⟨_, rfl⟩
  have hr8 : r < 8 := by omega
  have e2 : f + i = 8 * q + r := by omega
  rw [hq, hr, e2, Nat.pow_add, ← p256, ← Nat.div_div_eq_div_mul]
  have e3 : (256 : Nat) = 2 ^ r * (2 * 2 ^ (7 - r)) := by
    rw [← Nat.pow_succ', ← Nat.pow_add, show r + (7 - r + 1) = 8 by omega]
  generalize le l / 256 ^ q = y
  conv => rhs; rw [e3, Nat.mod_mul_right_div_self, Nat.mod_mul_right_mod]
end PBits
theorem u8_bit (x i : Nat) (hx : x < 256) : bits .and .u8 ((x : Int) / 2 ^ i) 1 = ((x / 2 ^ i % 2 : Nat) : Int) := by
  have e0 : ((x : Int) / 2 ^ i) = ((x / 2 ^ i : Nat) : Int) := by simp
  have h1 : x / 2 ^ i ≤ x := Nat.div_le_self _ _
  have e1 : (BitVec.ofInt 8 ((x / 2 ^ i : Nat) : Int)).toNat = x / 2 ^ i := by
    rw [BitVec.ofInt_natCast, BitVec.toNat_ofNat]; exact Nat.mod_eq_of_lt (by omega)
  have e2 : (BitVec.ofInt 8 (1 : Int)).toNat = 1 := rfl
  rw [e0]
  show IntKind.u8.wrap ((BitVec.ofInt 8 ((x / 2 ^ i : Nat) : Int) &&& BitVec.ofInt 8 (1 : Int)).toNat : Int) = _
  rw [BitVec.toNat_and, e1, e2, nat_mask1]
  show ((x / 2 ^ i % 2 : Nat) : Int) % 256 = _
  omega
set_option maxRecDepth 100000 in
set_option maxHeartbeats 2000000 in
theorem short_any (A : Option Addr) (ca : Nat) (b0 : List UInt8) (at_ many : Nat) {w0 w : World} {L : List Pr} (H : Sp w0 L w) (hE : ∀ w', Sp w0 L w' → Byt w' (.slice A b0.length ca) b0) (ha : at_ < 65536) (hm : many < 256) :
    Calls Try.prog 7 #[.slice A b0.length ca, .int .u16 (at_ : Int), .int .u8 (many : Int)] w fun e w' => e = .returned (.bool true) ∧ Sp w0 L w' := by
  obtain ⟨hb1, hb2⟩ : b0.length ≤ ca ∧ ca ≤ maxLen := by
    obtain ⟨_, _, e, _, h1, h2⟩ := hE w H
    injection e with _ _ e
    subst e
    exact ⟨h1, h2⟩
  unfold maxLen at hb2
  obtain ⟨n, hn⟩ : ∃ n : Nat, n = min b0.length 100 := ⟨_, rfl⟩
  have hmn : ∀ W : World, (Builtin.min_ #[3, 3] 3 #[.int .i64 (b0.length : Int), .int .i64 100]).run Try.prog W = .ok (.int .i64 (n : Int)) W := fun W => by
    simp [Builtin.min_, Builtin.min2]
    split <;> omega
  have hna : n ≤ b0.length := by omega
  have hnk : n ≤ 100 := by omega
  have hnc : (n : Int) ≤ ca := by omega
  clear hn
  obtain ⟨l, hl⟩ : ∃ l, b0.take n = l := ⟨_, rfl⟩
  have hll : l.length = n := by rw [← hl]; simp; omega
  have hB : ∀ w', Sp w0 L w' → Byt w' (.slice A n ca) l := fun w' H' => by rw [← hl]; exact (hE w' H').take n hna
  have HL := Lib.hid hll
  clear hl hll hE
  obtain ⟨f, hf⟩ : ∃ f, at_ % (8 * n + 1) = f := ⟨_, rfl⟩
  have hf1 : (at_ : Int) % (8 * n + 1) = (f : Int) := by rw [← hf]; simp
  have hf2 : f ≤ 8 * n := by have := Nat.mod_lt at_ (show 0 < 8 * n + 1 by omega); omega
  obtain ⟨k, hk⟩ : ∃ k, k = many % 58 := ⟨_, rfl⟩
  have hk1 : (many : Int) % 58 = (k : Int) := by omega
  have hk57 : k ≤ 57 := by omega
  clear hk hf
  go_enter Try.func7, Try.ntmps7
  go_wp2_with fail
  refine (newReader_ok H (hB _ H) (by rw [HL.out]; omega)).mono ?_
  rintro e w1 ⟨_, rfl, g, rfl, H1⟩
  clear hmn
  go_wp2_with fail
  rw [hf1]
  clear hf1
  go_loopw [9] (fun i wr => ∃ d : Nat, d ≤ f ∧ i = .int .i64 ((f - d : Nat) : Int) ∧ Sp w0 (Rr g l d :: L) wr) (fun i _ => (intOf i).toNat)
  case atStart => exact ⟨0, Nat.zero_le _, rfl, H1⟩
  case round =>
    obtain ⟨d, hd, rfl, H2⟩ := hrel
    by_cases hlt : d < f
    · obtain ⟨e, he⟩ : ∃ e, e = f - d := ⟨_, rfl⟩
      rw [← he]
      have hlt' : (0 : Int) < (e : Int) := by omega
      obtain ⟨c, hc⟩ : ∃ c : Nat, c = min e 57 := ⟨_, rfl⟩
      have hmn : ∀ W : World, (Builtin.min_ #[3, 3] 3 #[.int .i64 (e : Int), .int .i64 57]).run Try.prog W = .ok (.int .i64 (c : Int)) W := fun W => by
        simp [Builtin.min_, Builtin.min2]
        split <;> omega
      have hc1 : c ≤ 57 := by omega
      have hc2 : c ≤ e := by omega
      have hc3 : 0 < c := by omega
      have he2 : e ≤ 1000 := by omega
      have hc2' : (c : Int) ≤ e := by omega
      have HE := Lib.hid he
      clear hc he
      go_wp2_with fail
      refine (skip_ok g l d c H2 (by rw [HL.out]; have := HE.out; omega) hc1 (by rw [HL.out]; omega)).mono ?_
      rintro _ w3 ⟨rfl, H3⟩
      clear hmn
      go_wp2
      go_roundw
      case rel => exact ⟨d + c, by have := HE.out; omega, by have := HE.out; rw [show ((f - (d + c) : Nat) : Int) = (e : Int) - c by omega], H3⟩
      case measure => simp [intOf]; omega
    · obtain rfl : d = f := by omega
      rw [Nat.sub_self]
      by_cases hs : 8 * n < d + k
      · have hs' : (8 : Int) * n - d < k := by omega
        go_wp2_with fail
        refine (get_short g l d k H2 (by rw [HL.out]; omega) (by rw [HL.out]; omega) hk57 (by rw [HL.out]; omega)).mono ?_
        rintro _ w3 ⟨rfl, K3⟩
        have H3 := K3.sep H2
        obtain ⟨_, _, _, _, _, c1, c2⟩ := rr_open H3
        clear hk1
        go_wp2_with fail
        refine (at_ok g d c1 c2).mono ?_
        rintro _ w4 ⟨rfl, rfl⟩
        clear c1 c2
        go_wp2_with fail
        refine (skip_short g l d k H3 (by rw [HL.out]; omega) (by rw [HL.out]; omega) hk57 (by rw [HL.out]; omega)).mono ?_
        rintro _ w4 ⟨rfl, K4⟩
        have H4 := K4.sep H3
        go_wp2_with fail
        refine (left_ok g l d H4 (by rw [HL.out]; omega) (by rw [HL.out]; omega)).mono ?_
        rintro _ w5 ⟨rfl, K5⟩
        have H5 := K5.sep H4
        have el : (((8 * l.length - d : Nat) : Int) == (8 : Int) * n - d) = true := by rw [HL.out, beq_iff_eq]; omega
        go_wp2_with fail
        refine (wakes_ok H5.tail).mono ?_
        rintro e w14 ⟨rfl, H14⟩
        go_wp2
        go_ret
        exact ⟨rfl, H14⟩
      · have hs' : ¬ (8 : Int) * n - d < k := by omega
        have hs2 : d + k ≤ 8 * n := by omega
        go_wp2_with fail
        refine (get_ok g l d k H2 (by rw [HL.out]; omega) hk57 (by rw [HL.out]; omega)).mono ?_
        rintro _ w3 ⟨rfl, H3⟩
        obtain ⟨_, _, _, _, _, c1, c2⟩ := rr_open H3
        clear hk1
        go_wp2_with fail
        refine (at_ok g _ c1 c2).mono ?_
        rintro _ w4 ⟨rfl, rfl⟩
        clear c1 c2
        obtain ⟨p, hp⟩ : ∃ p, PBits.peek l d k = p := ⟨_, rfl⟩
        have hp2 : p < 2 ^ k := by rw [← hp]; exact Nat.mod_lt _ (Nat.two_pow_pos k)
        have hp64 : p < 18446744073709551616 := Nat.lt_of_lt_of_le hp2 (two64 _ (by omega))
        rw [hp]
        have HP := Lib.hid hp
        clear hp
        have ea : (((d + k : Nat) : Int) == (d : Int) + k) = true := by rw [beq_iff_eq]; omega
        go_wp2_with fail
        go_loopw [114] (fun i wr => ∃ j : Nat, j ≤ k ∧ i = .int .i64 (j : Int) ∧ Sp w0 (Rr g l (d + k) :: L) wr) (fun i _ => k - (intOf i).toNat)
        case atStart => exact ⟨0, Nat.zero_le _, rfl, H3⟩
        case round =>
          clear hs hs' ea
          obtain ⟨j, hj, rfl, H4⟩ := hrel
          by_cases hlt2 : j < k
          · have hlt2' : (j : Int) < k := by omega
            obtain ⟨q, hq⟩ : ∃ q, (d + j) / 8 = q := ⟨_, rfl⟩
            obtain ⟨r, hr⟩ : ∃ r, (d + j) % 8 = r := ⟨_, rfl⟩
            have hq1 : ((d : Int) + j) / 8 = (q : Int) := by omega
            have hr1 : ((d : Int) + j) % 8 = (r : Int) := by omega
            have hr8 : r < 8 := by omega
            have hqn : q < n := by omega
            have hqi : (q : Int) < n := by omega
            have hq0 : (0 : Int) ≤ (q : Int) := by omega
            have hd1 : (d : Int) ≤ 800 := by omega
            obtain ⟨_, _, eA, hrd, _, _⟩ := hB _ H4.tail
            injection eA with eA e2 e3
            subst eA
            clear e2 e3
            obtain ⟨ad, rfl, hc⟩ := hrd.at8 (k := q) (by rw [HL.out]; exact hqn)
            clear hrd
            obtain ⟨b, hb⟩ : ∃ b, (l[q]'(by rw [HL.out]; exact hqn)).toNat = b := ⟨_, rfl⟩
            rw [hb] at hc
            have hb2 : b < 256 := by rw [← hb]; exact UInt8.toNat_lt _
            have hbit := PBits.peek_bit l d k j hlt2
            rw [hq, hr, HP.out, List.getD_eq_getElem?_getD, List.getElem?_eq_getElem (by rw [HL.out]; exact hqn), Option.getD_some, hb] at hbit
            have s1 := u64_bit p j hp64
            have s2 := u8_bit b r hb2
            obtain ⟨z, hz⟩ : ∃ z, b / 2 ^ r % 2 = z := ⟨_, rfl⟩
            rw [hz] at s2 hbit
            rw [hbit] at s1
            have hz2 : z < 2 := by rw [← hz]; exact Nat.mod_lt _ (by decide)
            clear hz hbit hb hq hr
            go_wp2
            have sw1 : IntKind.i64.wrap ((d : Int) + j) = (d : Int) + j := IntWalk.i64_in _ (by omega)
            have sw2 : (0 : Int) ≤ (d : Int) + j := by omega
            go_quiet (fail)
            clear s1 s2 hq1 hr1 sw1 sw2 hc
            go_wp2
            go_roundw
            case rel => exact ⟨j + 1, by omega, by go_num, H4.drewN _⟩
            case measure => simp [intOf]; omega
          · have hlt2' : ¬ (j : Int) < k := by omega
            have ed : (p : Int) / 2 ^ k = 0 := by
              have : p / 2 ^ k = 0 := Nat.div_eq_of_lt hp2
              exact_mod_cast this
            go_wp2_with fail
            refine (wakes_ok H4.tail).mono ?_
            rintro e w14 ⟨rfl, H14⟩
            go_wp2
            go_ret
            exact ⟨rfl, H14⟩
end Go.Proofs.Ytkgnihpcldgedaa
