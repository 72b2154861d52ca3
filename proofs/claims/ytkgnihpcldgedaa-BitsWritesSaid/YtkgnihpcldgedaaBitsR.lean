/- BitsR: the writer's Len and Done; the reader. -/
import Derived.Test.YtkgnihpcldgedaaBitsS3
namespace Go.Proofs.Ytkgnihpcldgedaa
open Go.RowKit
theorem bytes_bad (g V N : Nat) (v : Value) {w0 w : World} {L : List Pr} (H : Sp w0 (Wr g V N :: L) w) (hN8 : N % 8 ≠ 0) :
    Calls Try.prog 46 #[.pointer (some ⟨g, 0, none⟩), v] w fun e w' => e = .returned (.int .i64 1) ∧ w = w' := by
  have c3 := wr_made H
  obtain ⟨m, hm⟩ : ∃ m, m = N % 8 := ⟨_, rfl⟩
  have c2 : w.cell? ⟨g, 2, none⟩ = some (.int .i64 (m : Int)) := by
    obtain ⟨v, H⟩ := H.unex
    rw [hm]
    exact H.unstar.cell 0 rfl 2
  have hm0 : ((m : Int) == 0) = false := by
    rw [beq_eq_false_iff_ne]; omega
  clear hm
  go_enter Try.func46, Try.ntmps46
  go_wp2_with fail
  refine (wasks_bad g 0 false _ c3 (.inr (.inr rfl))).mono ?_
  rintro e w2 ⟨rfl, rfl⟩
  go_wp2
  go_ret
  exact ⟨rfl, rfl⟩
theorem len_ok (g V N : Nat) {w0 w : World} {L : List Pr} (H : Sp w0 (Wr g V N :: L) w) (hN : N ≤ 2000000000) :
    Calls Try.prog 48 #[.pointer (some ⟨g, 0, none⟩)] w fun e w' => e = .returned (.int .i64 (N : Int)) ∧ Keep w w' := by
  have c3 := wr_made H
  obtain ⟨v, H⟩ := H.unex
  replace H := H.unstar
  obtain ⟨q, hq⟩ : ∃ q, q = N / 8 := ⟨_, rfl⟩
  obtain ⟨m, hm⟩ : ∃ m, m = N % 8 := ⟨_, rfl⟩
  rw [← hq, ← hm] at H
  have hN' : N = 8 * q + m := by omega
  clear hq hm
  have HN := Lib.hid hN'
  obtain ⟨A, c, rfl, h1, h2⟩ := Row.form H 1 rfl
  have c0 : w.cell? ⟨g, 0, none⟩ = some (.slice A q c) := H.cell 0 rfl 0
  have c2 : w.cell? ⟨g, 2, none⟩ = some (.int .i64 (m : Int)) := H.cell 0 rfl 2
  have hb : q ≤ 250000000 := by omega
  have hb2 : m ≤ 2000000000 := by omega
  clear hN hN'
  go_enter Try.func48, Try.ntmps48
  go_wp2_with fail
  refine (wnone_any g _ c3).mono ?_
  rintro e w2 ⟨rfl, rfl⟩
  go_wp2
  go_quiet (fail)
  go_wp2
  go_ret
  exact ⟨ret_i64 (by rw [HN.out]; omega), Keep.drewN _ _⟩
theorem done_ok (g V N : Nat) {w0 w : World} {L : List Pr} (H : Sp w0 (Wr g V N :: L) w) (hN : N ≤ 1000000000) :
    Calls Try.prog 35 #[.pointer (some ⟨g, 0, none⟩)] w (Ret fun v w' => Sp w0 (Row 5 1 v ((N + 7) / 8) (cells8 (PBits.bytesOf V ((N + 7) / 8))) :: Wr g V N :: L) w') := by
  have c3 := wr_made H
  obtain ⟨v, H⟩ := H.unex
  replace H := H.unstar
  obtain ⟨q, hq⟩ : ∃ q, N / 8 = q := ⟨_, rfl⟩
  obtain ⟨m, hm⟩ : ∃ m, N % 8 = m := ⟨_, rfl⟩
  obtain ⟨wt, hwt⟩ : ∃ wt, V / 256 ^ q = wt := ⟨_, rfl⟩
  obtain ⟨bs, hbs⟩ : ∃ bs, PBits.bytesOf V q = bs := ⟨_, rfl⟩
  have hbl : bs.length = q := by rw [← hbs]; exact PBits.bytesOf_length _ _
  have hF : ∀ L' w', Sp w0 (WrB g v wt m :: Row 5 1 v q (cells8 bs) :: L') w' → Sp w0 (Wr g V N :: L') w' := fun L' w' H' => Sp.ex v (Sp.star (by rw [hq, hm, hwt, hbs]; exact H'))
  rw [hq, hm, hwt, hbs] at H
  have hq2 : q ≤ 130000000 := by omega
  have hm8 : m < 8 := by omega
  have hcase : (N + 7) / 8 = if 0 < m then q + 1 else q := by split <;> omega
  have hlast : PBits.bytesOf V (q + 1) = bs ++ [UInt8.ofNat (wt % 256)] := by rw [PBits.byte_next, hbs, hwt]
  have hrow : Byt w v bs := H.row_byt 1 (e := 5) (by rw [hbl]; rfl)
  have HA := Lib.hid hF
  have HB := Lib.hid hcase
  have HC := Lib.hid hlast
  have HD := Lib.hid hbl
  have HE := Lib.hid hbs
  clear hF hcase hlast hbl hq hm hwt hbs hN
  obtain ⟨A, c, ev, _, _⟩ := Row.form H 1 rfl
  subst ev
  have c0 : w.cell? ⟨g, 0, none⟩ = some (.slice A q c) := H.cell 0 rfl 0
  go_enter Try.func35, Try.ntmps35
  go_wp2_with fail
  refine (wnone_any g _ c3).mono ?_
  rintro e w2 ⟨rfl, rfl⟩
  go_wp2_with fail
  refine (clone_ok H hrow (by rw [HD.out]; omega)).mono ?_
  rintro e w2 ⟨u, rfl, H⟩
  rw [HD.out] at H
  clear c0 c3
  have c1 : w2.cell? ⟨g, 1, none⟩ = some (.int .u64 (wt : Int)) := H.cell 1 rfl 1
  have c2 : w2.cell? ⟨g, 2, none⟩ = some (.int .i64 (m : Int)) := H.cell 1 rfl 2
  obtain ⟨i0, hi, hz0, hz1, hz2⟩ := info_parts info8
  by_cases h0 : 0 < m
  · have h0' : (0 : Int) < m := by omega
    go_wp2_with (at_builtin; refine wpList_append_sp rfl _ _ 22 rfl 5 i0 (.int .u8 0) 1 1 Try.underlying22 hi hz0 hz1 hz2 rfl (by decide) u q (cells8 bs) rfl (H.newBk [.int .u8 ((wt : Int) % 256)] _).swap (some ⟨w2.heap.size, 0, none⟩) 1 1 [.int .u8 ((wt : Int) % 256)] rfl rfl (Rd.of_blk ((H.newBk [.int .u8 ((wt : Int) % 256)] _).blk 0 rfl)) (by intro u hu; rw [List.mem_singleton.1 hu]; rfl) (by unfold maxLen; omega) (by omega) ?_)
    intro v' w' H2 _
    clear c1 c2
    go_wp2
    go_ret
    refine ⟨_, rfl, ?_⟩
    have H3 := Sp.swap (HA.out _ _ (H2.pick 4 [2, 3, 0]))
    rw [HB.out, if_pos h0, HC.out]
    have e7 : cells8 (bs ++ [UInt8.ofNat (wt % 256)]) = cells8 bs ++ [.int .u8 ((wt : Int) % 256)] := by simp [cells8]
    rw [e7]
    exact H3
  · have h0' : ¬ (0 : Int) < m := by omega
    clear c1
    go_wp2
    go_ret
    refine ⟨_, rfl, ?_⟩
    rw [HB.out, if_neg h0, HE.out]
    exact (HA.out _ _ (H.pick 3 [1, 2, 0])).swap
end Go.Proofs.Ytkgnihpcldgedaa
