/- BitsTurned: the walk of the law. -/
import Derived.Test.YtkgnihpcldgedaaBitsV
namespace Go.Proofs.Ytkgnihpcldgedaa
open Go.RowKit
theorem u64_bit (x i : Nat) (hx : x < 18446744073709551616) : bits .and .u64 ((x : Int) / 2 ^ i) 1 = ((x / 2 ^ i % 2 : Nat) : Int) := by
  have e0 : ((x : Int) / 2 ^ i) = ((x / 2 ^ i : Nat) : Int) := by simp
  have h1 : x / 2 ^ i ≤ x := Nat.div_le_self _ _
  rw [e0, show (1 : Int) = ((1 : Nat) : Int) by rfl, u64_and_nat _ _ (by omega) (by decide), nat_mask1]
theorem mod_bit (x j : Nat) : x % 2 ^ j + x / 2 ^ j % 2 * 2 ^ j = x % 2 ^ (j + 1) := by
  rw [Nat.mod_pow_succ, Nat.mul_comm]
theorem rev_at (x k j : Nat) (hj : j < k) : PBits.rev x k / 2 ^ j % 2 = x / 2 ^ (k - 1 - j) % 2 := by
  have h := PBits.rev_bit x k j
  rw [Nat.testBit_eq_decide_div_mod_eq, Nat.testBit_eq_decide_div_mod_eq] at h
  have h2 : (PBits.rev x k / 2 ^ j % 2 = 1) ↔ (x / 2 ^ (k - 1 - j) % 2 = 1) := by
    have := congrArg (· = true) h
    simp only [hj, decide_true, Bool.true_and, decide_eq_true_eq] at this
    exact this.to_iff
  omega
set_option maxRecDepth 100000 in
set_option maxHeartbeats 2000000 in
theorem turned_any (n many : Nat) {w0 w : World} {L : List Pr} (H : Sp w0 L w) (hn : n < 18446744073709551616) (hm : many < 256) :
    Calls Try.prog 6 #[.int .u64 (n : Int), .int .u8 (many : Int)] w fun e w' => e = .returned (.bool true) ∧ Sp w0 L w' := by
  obtain ⟨k, hk⟩ : ∃ k, k = many % 58 := ⟨_, rfl⟩
  have hk1 : (many : Int) % 58 = (k : Int) := by omega
  have hk57 : k ≤ 57 := by omega
  clear hk
  have hms := u64_mask n k hn (by omega)
  obtain ⟨x, hx⟩ : ∃ x, x = n % 2 ^ k := ⟨_, rfl⟩
  rw [← hx] at hms
  have hxk : x < 2 ^ k := by rw [hx]; exact Nat.mod_lt _ (Nat.two_pow_pos k)
  have hx64 : x < 18446744073709551616 := Nat.lt_of_lt_of_le hxk (two64 _ (by omega))
  clear hx
  go_enter Try.func6, Try.ntmps6
  go_wp2_with fail
  refine (reverse_any x k (k : Int) _ hx64 (by omega)).mono ?_
  rintro e w1 ⟨rfl, rfl⟩
  clear hms hk1
  go_wp2_with fail
  refine (newWriter_ok H).mono ?_
  rintro e w1 ⟨_, rfl, g1, rfl, H1⟩
  go_wp2_with fail
  refine (newWriter_ok H1).mono ?_
  rintro e w2 ⟨_, rfl, g2, rfl, H2⟩
  go_wp2_with fail
  refine (newWriter_ok H2).mono ?_
  rintro e w3 ⟨_, rfl, g3, rfl, H3⟩
  go_wp2_with fail
  refine (newWriter_ok H3).mono ?_
  rintro e w4 ⟨_, rfl, g4, rfl, H4⟩
  go_wp2_with fail
  refine (put_ok g1 0 0 x k (H4.pick 4 [3, 0, 1, 2]) (by decide) hk57 hxk (by decide)).mono ?_
  rintro e w5 ⟨rfl, H5⟩
  go_wp2_with fail
  refine (code_ok g3 0 0 x k (H5.pick 4 [2, 0, 1, 3]) (by decide) hk57 hxk (by decide)).mono ?_
  rintro e w6 ⟨rfl, H6⟩
  have e1 : 0 + x * 2 ^ 0 = x := by simp
  have e2 : 0 + PBits.rev x k * 2 ^ 0 = PBits.rev x k := by simp
  replace H6 : Sp w0 (Wr g2 0 0 :: Wr g4 0 0 :: Wr g1 (0 + x * 2 ^ 0) (0 + k) :: Wr g3 (0 + PBits.rev x k * 2 ^ 0) (0 + k) :: L) w6 := H6.pick 4 [3, 2, 1, 0]
  rw [e1, e2, Nat.zero_add] at H6
  clear e1 e2
  go_wp2
  go_loopw [40] (fun i wr => ∃ j : Nat, j ≤ k ∧ i = .int .i64 (j : Int) ∧ Sp w0 (Wr g2 (x % 2 ^ j) j :: Wr g4 (PBits.rev x k % 2 ^ j) j :: Wr g1 x k :: Wr g3 (PBits.rev x k) k :: L) wr) (fun i _ => k - (intOf i).toNat)
  case atStart => exact ⟨0, Nat.zero_le _, rfl, by simpa [Nat.mod_one] using H6⟩
  case round =>
    obtain ⟨j, hj, rfl, H7⟩ := hrel
    by_cases hlt : j < k
    · have hlt' : (j : Int) < k := by omega
      have hb1 := u64_bit x j hx64
      obtain ⟨b, hb⟩ : ∃ b, x / 2 ^ j % 2 = b := ⟨_, rfl⟩
      have hb2 : b < 2 ^ 1 := by rw [← hb]; exact Nat.mod_lt _ (by decide)
      obtain ⟨d, hd⟩ : ∃ d, k - 1 - j = d := ⟨_, rfl⟩
      have hd1 : (k : Int) - 1 - j = (d : Int) := by omega
      have hb3 := u64_bit x d hx64
      obtain ⟨c, hc⟩ : ∃ c, x / 2 ^ d % 2 = c := ⟨_, rfl⟩
      have hc2 : c < 2 ^ 1 := by rw [← hc]; exact Nat.mod_lt _ (by decide)
      rw [hb] at hb1
      rw [hc] at hb3
      have HB := Lib.hid hb
      have HC := Lib.hid hc
      have HD := Lib.hid hd
      clear hb hc hd
      go_wp2_with fail
      refine (put_ok g2 _ j b 1 H7 (Nat.mod_lt _ (Nat.two_pow_pos j)) (by decide) hb2 (by omega)).mono ?_
      rintro e w8 ⟨rfl, H8⟩
      go_wp2_with fail
      refine (put_ok g4 _ j c 1 (H8.pick 2 [1, 0]) (Nat.mod_lt _ (Nat.two_pow_pos j)) (by decide) hc2 (by omega)).mono ?_
      rintro e w9 ⟨rfl, H9⟩
      clear hb1 hb3 hd1
      go_wp2
      go_roundw
      case rel =>
        refine ⟨j + 1, by omega, by go_num, ?_⟩
        rw [← mod_bit x j, ← mod_bit (PBits.rev x k) j, rev_at x k j hlt, HD.out, HB.out, HC.out]
        exact H9.pick 2 [1, 0]
      case measure => simp [intOf]; omega
    · have hlt' : ¬ (j : Int) < k := by omega
      obtain rfl : j = k := by omega
      rw [Nat.mod_eq_of_lt hxk, Nat.mod_eq_of_lt (PBits.rev_lt x j)] at H7
      have hr64 : PBits.rev x j < 18446744073709551616 := Nat.lt_of_lt_of_le (PBits.rev_lt x j) (two64 _ (by omega))
      have er : PBits.rev (PBits.rev x j) j = x := by rw [PBits.rev_rev, Nat.mod_eq_of_lt hxk]
      have ed : ((PBits.rev x j : Nat) : Int) / 2 ^ j = 0 := by
        have : PBits.rev x j / 2 ^ j = 0 := Nat.div_eq_of_lt (PBits.rev_lt x j)
        exact_mod_cast this
      obtain ⟨y, hy⟩ : ∃ y, y = PBits.rev x j := ⟨_, rfl⟩
      rw [← hy] at H7 er ed hr64 ⊢
      clear hy
      have hy := Lib.hid er
      clear er
      go_wp2_with fail
      refine (reverse_any y j (j : Int) _ hr64 (by omega)).mono ?_
      rintro e w8 ⟨rfl, rfl⟩
      rw [hy.out]
      go_wp2_with fail
      refine (done_ok g1 x j (H7.pick 4 [2, 0, 1, 3]) (by omega)).mono ?_
      rintro e w8 ⟨v1, rfl, H8⟩
      go_wp2_with fail
      refine (done_ok g2 x j (H8.pick 3 [2, 0, 1]) (by omega)).mono ?_
      rintro e w9 ⟨v2, rfl, H9⟩
      go_wp2_with fail
      refine (equal_ok (H9.row_byt 2 (by rw [PBits.bytesOf_length]; rfl)) (H9.row_byt 0 (by rw [PBits.bytesOf_length]; rfl))).mono ?_
      rintro e w10 ⟨rfl, rfl⟩
      rw [beq_self_eq_true]
      replace H9 : Sp w0 (Wr g3 y j :: Wr g4 y j :: L) w9 := H9.pick 6 [5, 4]
      go_wp2_with fail
      refine (done_ok g3 y j H9 (by omega)).mono ?_
      rintro e w11 ⟨v3, rfl, H11⟩
      go_wp2_with fail
      refine (done_ok g4 y j (H11.pick 3 [2, 0, 1]) (by omega)).mono ?_
      rintro e w12 ⟨v4, rfl, H12⟩
      go_wp2_with fail
      refine (equal_ok (H12.row_byt 2 (by rw [PBits.bytesOf_length]; rfl)) (H12.row_byt 0 (by rw [PBits.bytesOf_length]; rfl))).mono ?_
      rintro e w13 ⟨rfl, rfl⟩
      rw [beq_self_eq_true]
      go_wp2_with fail
      refine (wakes_ok (H12.pick 4 [])).mono ?_
      rintro e w14 ⟨rfl, H14⟩
      go_wp2
      go_ret
      exact ⟨rfl, H14⟩
end Go.Proofs.Ytkgnihpcldgedaa
