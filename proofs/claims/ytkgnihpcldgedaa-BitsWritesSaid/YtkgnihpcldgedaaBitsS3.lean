/- BitsS3: bytes.Clone, bytes.Equal; the writer's other functions. -/
import Derived.Test.YtkgnihpcldgedaaBitsS2
import Derived.Test.YtkgnihpcldgedaaBytes
namespace Go.Proofs.Ytkgnihpcldgedaa
open Go.RowKit
set_option maxRecDepth 100000 in
theorem clone_ok {w0 w : World} {L : List Pr} {v : Value} {l : List UInt8} (H : Sp w0 L w) (hb : Byt w v l) (hl : l.length ≤ 1000000000) :
    Calls Try.prog 22 #[v] w (Ret fun v' w' => Sp w0 (Row 5 1 v' l.length (cells8 l) :: L) w') := by
  obtain ⟨A, c, rfl, hr, h1, h2⟩ := hb
  unfold maxLen at h2
  have e0 := fun (W : World) => Lib.run_eql_slice_nil (P := Try.prog) W 22 5 A l.length c 0 0 Try.underlying22
  have hr' := Lib.hid hr
  cases A with
  | none =>
    have hl0 : l = [] := by
      rcases l with _ | ⟨x, l⟩
      · rfl
      · obtain ⟨ad, h, _⟩ := hr (by simp [cells8]); cases h
    clear hr
    have HL := Lib.hid hl0
    clear hl0
    go_enter Try.func22, Try.ntmps22
    go_wp2
    go_ret
    obtain rfl := HL.out
    exact ⟨_, rfl, H.rowNil _ _⟩
  | some a =>
    clear hr
    go_enter Try.func22, Try.ntmps22
    obtain ⟨i0, hi, hz0, hz1, hz2⟩ := info_parts info8
    go_wp2_with (at_builtin; refine wpList_append_sp rfl _ _ 22 rfl 5 i0 (.int .u8 0) 1 1 Try.underlying22 hi hz0 hz1 hz2 rfl (by decide) (.slice (some ⟨w.heap.size, 0, none⟩) 0 0) 0 [] rfl ((H.newBk [] _).bkRow 1 0 rfl (by decide)) (some a) l.length c (cells8 l) rfl (by simp [cells8]) (hr'.out.alloc _) (cells8_one l) (by unfold maxLen; omega) (by omega) ?_)
    intro v' w' H2 _
    clear e0
    go_wp2
    go_ret
    exact ⟨_, rfl, H2⟩
set_option maxRecDepth 100000 in
theorem equal_ok {w : World} {v u : Value} {l m : List UInt8} (hv : Byt w v l) (hu : Byt w u m) :
    Calls Try.prog 27 #[v, u] w fun e w' => e = .returned (.bool (l == m)) ∧ w = w' := by
  have s1 := run_str (P := Try.prog) w 22 9 5 v l Try.underlying22 Try.underlying5 Try.underlying9 hv
  have s2 := run_str (P := Try.prog) w 22 9 5 u m Try.underlying22 Try.underlying5 Try.underlying9 hu
  go_enter Try.func27, Try.ntmps27
  go_wp2
  go_ret
  have e : ((strOf l).toList == (strOf m).toList) = (l == m) := by
    unfold strOf
    rw [ByteArray.toList_mk, ByteArray.toList_mk]
  exact ⟨by rw [← e]; rfl, rfl⟩
theorem bad_shift (n k : Nat) (h : ¬ n < 2 ^ k) : ((n : Int) / 2 ^ k == 0) = false := by
  rw [beq_eq_false_iff_ne]
  intro e
  apply h
  have h2 : n / 2 ^ k = 0 := by exact_mod_cast e
  exact (Nat.div_eq_zero_iff_lt (Nat.two_pow_pos k)).1 h2
theorem put_neg (g n : Nat) (m : Int) (w : World) (c3 : w.cell? ⟨g, 3, none⟩ = some (.bool true)) (h : m < 0) :
    Calls Try.prog 33 #[.pointer (some ⟨g, 0, none⟩), .int .u64 (n : Int), .int .i64 m] w fun e w' => e = .returned (.int .i64 1) ∧ w = w' := by
  go_enter Try.func33, Try.ntmps33
  go_wp2_with fail
  refine (wasks_bad g m _ _ c3 (.inl h)).mono ?_
  rintro e w2 ⟨rfl, rfl⟩
  go_wp2
  go_ret
  exact ⟨rfl, rfl⟩
theorem right_bad (n k : Nat) (h : 57 < k ∨ ¬ n < 2 ^ k) : (k : Int) < 0 ∨ (57 : Int) < k ∨ (decide ((k : Int) < 0) || (n : Int) / 2 ^ min k 64 == 0) = false := by
  by_cases hk : 57 < k
  · exact .inr (.inl (by omega))
  · refine .inr (.inr ?_)
    rw [Nat.min_eq_left (by omega), bad_shift n k (by rcases h with h | h <;> first | omega | exact h)]
    simp
theorem put_bad (g n k : Nat) (w : World) (c3 : w.cell? ⟨g, 3, none⟩ = some (.bool true)) (h : 57 < k ∨ ¬ n < 2 ^ k) :
    Calls Try.prog 33 #[.pointer (some ⟨g, 0, none⟩), .int .u64 (n : Int), .int .i64 (k : Int)] w fun e w' => e = .returned (.int .i64 1) ∧ w = w' := by
  go_enter Try.func33, Try.ntmps33
  go_wp2_with fail
  refine (wasks_bad g k _ _ c3 (right_bad n k h)).mono ?_
  rintro e w2 ⟨rfl, rfl⟩
  go_wp2
  go_ret
  exact ⟨rfl, rfl⟩
theorem code_neg (g n : Nat) (m : Int) (w : World) (c3 : w.cell? ⟨g, 3, none⟩ = some (.bool true)) (h : m < 0) :
    Calls Try.prog 34 #[.pointer (some ⟨g, 0, none⟩), .int .u64 (n : Int), .int .i64 m] w fun e w' => e = .returned (.int .i64 1) ∧ w = w' := by
  go_enter Try.func34, Try.ntmps34
  go_wp2_with fail
  refine (wasks_bad g m _ _ c3 (.inl h)).mono ?_
  rintro e w2 ⟨rfl, rfl⟩
  go_wp2
  go_ret
  exact ⟨rfl, rfl⟩
theorem code_bad (g n k : Nat) (w : World) (c3 : w.cell? ⟨g, 3, none⟩ = some (.bool true)) (h : 57 < k ∨ ¬ n < 2 ^ k) :
    Calls Try.prog 34 #[.pointer (some ⟨g, 0, none⟩), .int .u64 (n : Int), .int .i64 (k : Int)] w fun e w' => e = .returned (.int .i64 1) ∧ w = w' := by
  go_enter Try.func34, Try.ntmps34
  go_wp2_with fail
  refine (wasks_bad g k _ _ c3 (right_bad n k h)).mono ?_
  rintro e w2 ⟨rfl, rfl⟩
  go_wp2
  go_ret
  exact ⟨rfl, rfl⟩
theorem wr_made {w0 w : World} {L : List Pr} {g V N : Nat} (H : Sp w0 (Wr g V N :: L) w) : w.cell? ⟨g, 3, none⟩ = some (.bool true) := by
  obtain ⟨v, H⟩ := H.unex
  exact H.unstar.cell 0 rfl 3
theorem code_ok (g V N n k : Nat) {w0 w : World} {L : List Pr} (H : Sp w0 (Wr g V N :: L) w) (hV : V < 2 ^ N) (hk : k ≤ 57) (hn : n < 2 ^ k) (hN : N ≤ 1000000000) :
    Calls Try.prog 34 #[.pointer (some ⟨g, 0, none⟩), .int .u64 (n : Int), .int .i64 (k : Int)] w fun e w' => e = .returned (.int .i64 0) ∧ Sp w0 (Wr g (V + PBits.rev n k * 2 ^ N) (N + k) :: L) w' := by
  have d1 : ((n : Int) / 2 ^ k == 0) = true := by
    rw [beq_iff_eq]
    have : n / 2 ^ k = 0 := Nat.div_eq_of_lt hn
    exact_mod_cast this
  have c3 := wr_made H
  go_enter Try.func34, Try.ntmps34
  go_wp2_with fail
  refine (wasks_ok g k _ c3 (by omega) (by omega)).mono ?_
  rintro e w2 ⟨rfl, rfl⟩
  clear d1 c3
  go_wp2_with fail
  refine (reverse_any n k (k : Int) _ (Nat.lt_of_lt_of_le hn (two64 _ (by omega))) (by omega)).mono ?_
  rintro e w2 ⟨rfl, rfl⟩
  go_wp2_with fail
  refine (put_ok g V N (PBits.rev n k) k H hV hk (PBits.rev_lt n k) hN).mono ?_
  rintro e w2 ⟨rfl, H⟩
  go_wp2
  go_ret
  exact ⟨rfl, H⟩
theorem newWriter_ok {w0 w : World} {L : List Pr} (H : Sp w0 L w) :
    Calls Try.prog 32 #[] w (Ret fun v w' => ∃ g, v = .pointer (some ⟨g, 0, none⟩) ∧ Sp w0 (Wr g 0 0 :: L) w') := by
  go_enter Try.func32, Try.ntmps32
  go_wp2
  go_ret
  exact ⟨_, rfl, _, rfl, Sp.ex (.slice none 0 0) (Sp.star (((H.rowNil 5 1).newBk _ _)))⟩
theorem i64_and7 (x : Int) : bits .and .i64 x 7 = x % 8 := by
  have e2 : (BitVec.ofInt 64 (7 : Int)).toNat = 7 := rfl
  show IntKind.i64.wrap ((BitVec.ofInt 64 x &&& BitVec.ofInt 64 (7 : Int)).toNat : Int) = _
  rw [BitVec.toNat_and, BitVec.toNat_ofInt, e2, nat_mask3, IntKind.wrap_i64]
  omega
theorem align_ok (g V N : Nat) {w0 w : World} {L : List Pr} (H : Sp w0 (Wr g V N :: L) w) (hV : V < 2 ^ N) (hN : N ≤ 1000000000) :
    Calls Try.prog 44 #[.pointer (some ⟨g, 0, none⟩)] w fun e w' => e = .returned (.int .i64 0) ∧ Sp w0 (Wr g V ((N + 7) / 8 * 8) :: L) w' := by
  have c3 := wr_made H
  obtain ⟨m, hm⟩ : ∃ m, m = N % 8 := ⟨_, rfl⟩
  have c2 : w.cell? ⟨g, 2, none⟩ = some (.int .i64 (m : Int)) := by
    obtain ⟨v, H⟩ := H.unex
    rw [hm]
    exact H.unstar.cell 0 rfl 2
  have hm8 : m < 8 := by omega
  have HM := Lib.hid hm
  clear hm
  have ha : bits .and .i64 (-(m : Int)) 7 = (((8 - m) % 8 : Nat) : Int) := by rw [i64_and7]; omega
  go_enter Try.func44, Try.ntmps44
  go_wp2_with fail
  refine (wnone_any g _ c3).mono ?_
  rintro e w2 ⟨rfl, rfl⟩
  go_wp2_with fail
  refine (put_ok g V N 0 ((8 - m) % 8) H hV (by omega) (Nat.two_pow_pos _) hN).mono ?_
  rintro e w2 ⟨rfl, H⟩
  clear ha
  go_wp2
  go_ret
  refine ⟨rfl, ?_⟩
  have e1 : N + (8 - m) % 8 = (N + 7) / 8 * 8 := by rw [HM.out]; omega
  rwa [Nat.zero_mul, Nat.add_zero, e1] at H
/-- Bytes, behind whole bytes. -/
theorem bytes_ok (g V N : Nat) {v : Value} {l : List UInt8} {w0 w : World} {L : List Pr} (H : Sp w0 (Wr g V N :: L) w) (hb : Byt w v l) (hN8 : N % 8 = 0) (hV : V < 2 ^ N) (hN : N ≤ 1000000000) (hl : l.length ≤ 1000000000) :
    Calls Try.prog 46 #[.pointer (some ⟨g, 0, none⟩), v] w fun e w' => e = .returned (.int .i64 0) ∧ Sp w0 (Wr g (V + PBits.le l * 2 ^ N) (N + 8 * l.length) :: L) w' := by
  have c3 := wr_made H
  have HN := Lib.hid hN8
  obtain ⟨u, H⟩ := H.unex
  replace H := H.unstar
  rw [hN8] at H
  clear hN8
  have c2 : w.cell? ⟨g, 2, none⟩ = some (.int .i64 0) := H.cell 0 rfl 2
  have c0 : w.cell? ⟨g, 0, none⟩ = some u := H.cell 0 rfl 0
  have z0 : w.frozen? ⟨g, 0, none⟩ = false := H.frozen 0 rfl 0
  obtain ⟨A, c, rfl, hr, h1, h2⟩ := hb
  obtain ⟨i0, hi, hz0, hz1, hz2⟩ := info_parts info8
  go_enter Try.func46, Try.ntmps46
  go_wp2_with fail
  refine (wasks_ok g 0 _ c3 (by omega) (by omega)).mono ?_
  rintro e w2 ⟨rfl, rfl⟩
  go_wp2_with (at_builtin; refine wpList_append_sp rfl _ _ 22 rfl 5 i0 (.int .u8 0) 1 1 Try.underlying22 hi hz0 hz1 hz2 rfl (by decide) u (N / 8) (cells8 (PBits.bytesOf V (N / 8))) rfl H.swap A l.length c (cells8 l) rfl (by simp [cells8]) hr (cells8_one l) (by unfold maxLen; omega) (by omega) ?_)
  intro v' w' H2 _
  clear c0 z0 c2 c3
  have c0 : w'.cell? ⟨g, 0, none⟩ = some u := H2.cell 1 rfl 0
  have z0 : w'.frozen? ⟨g, 0, none⟩ = false := H2.frozen 1 rfl 0
  obtain ⟨A1, c1, rfl, _, _⟩ := Row.form H2 0 rfl
  go_wp2
  go_ret
  refine ⟨rfl, Sp.ex (.slice A1 (N / 8 + l.length) c1) (Sp.star ?_)⟩
  have H3 := H2.swap.set 0 (.slice A1 (N / 8 + l.length) c1)
  have e1 := HN.out
  have e2 : (N + 8 * l.length) / 8 = N / 8 + l.length := by omega
  have e3 : (N + 8 * l.length) % 8 = 0 := by omega
  have hVl : V < 256 ^ (N / 8) := by
    have := PBits.pow_parts N
    rw [e1] at this
    simpa [this] using hV
  have e4 : (V + PBits.le l * 2 ^ N) / 256 ^ (N / 8 + l.length) = 0 := by
    have h5 := PBits.le_lt l
    rw [PBits.pow_parts N, e1, Nat.pow_zero, Nat.one_mul, Nat.pow_add, ← Nat.div_div_eq_div_mul, Nat.add_mul_div_right _ _ (Nat.pow_pos (by decide)), Nat.div_eq_of_lt hVl, Nat.zero_add, Nat.div_eq_of_lt h5]
  have e5 : PBits.bytesOf (V + PBits.le l * 2 ^ N) (N / 8 + l.length) = PBits.bytesOf V (N / 8) ++ l := by
    rw [PBits.bytesOf_add, PBits.put_bytes, PBits.pow_parts N, e1, Nat.pow_zero, Nat.one_mul, Nat.add_mul_div_right _ _ (Nat.pow_pos (by decide)), Nat.div_eq_of_lt hVl, Nat.zero_add, PBits.bytesOf_le]
  have e6 : V / 256 ^ (N / 8) = 0 := Nat.div_eq_of_lt hVl
  rw [e2, e3, e4, e5]
  rw [e6] at H3
  have e7 : cells8 (PBits.bytesOf V (N / 8) ++ l) = cells8 (PBits.bytesOf V (N / 8)) ++ cells8 l := by simp [cells8]
  rw [e7]
  exact H3
end Go.Proofs.Ytkgnihpcldgedaa
