/- BitsKnown: the walk of the closed law. -/
import Derived.Test.YtkgnihpcldgedaaBitsN
namespace Go.Proofs.Ytkgnihpcldgedaa
open Go.RowKit
namespace PBits
theorem known_row : bytesOf (144115188075855871 + le [9] * 2 ^ 64) 9 = [255, 255, 255, 255, 255, 255, 255, 1, 9] := by decide +kernel
theorem known_peek : peek [255, 255, 255, 255, 255, 255, 255, 1, 9] 0 57 = 144115188075855871 := by decide +kernel
theorem known_rev : rev 1 64 = 9223372036854775808 := by decide +kernel
end PBits
set_option maxRecDepth 100000 in
set_option maxHeartbeats 4000000 in
theorem known_any {w0 w : World} {L : List Pr} (H : Sp w0 L w) :
    Calls Try.prog 11 #[] w fun e w' => e = .returned (.bool true) ∧ Sp w0 L w' := by
  have hsz : ∀ o : Obj, (w.alloc o).heap.size = w.heap.size + 1 := fun o => by simp
  have H2 := (H.newBk [.slice none 0 0, .int .u64 0, .int .i64 0, .bool false] 86).newBk [.slice none 0 0, .int .i64 0, .bool false] 88
  rw [hsz] at H2
  clear hsz
  go_enter Try.func11, Try.ntmps11
  go_wp2_with fail
  refine (get_no none 1 _ (.inl rfl)).mono ?_
  rintro e wA ⟨rfl, hw⟩
  rw [hw] at H2
  clear hw
  generalize w.heap.size + 1 = g2 at H2 ⊢
  generalize w.heap.size = g1 at H2 ⊢
  have b1 : wA.cell? ⟨g2, 1, none⟩ = some (.int .i64 ((0 : Nat) : Int)) := H2.cell 0 rfl 1
  have b2 : wA.cell? ⟨g2, 2, none⟩ = some (.bool false) := H2.cell 0 rfl 2
  have a2 : wA.cell? ⟨g1, 2, none⟩ = some (.int .i64 0) := H2.cell 1 rfl 2
  have a3 : wA.cell? ⟨g1, 3, none⟩ = some (.bool false) := H2.cell 1 rfl 3
  have n1 : NoW wA (some ⟨g1, 0, none⟩) := .inr ⟨g1, rfl, a3⟩
  have n2 : NoR wA (some ⟨g2, 0, none⟩) := .inr ⟨g2, rfl, b2⟩
  have m1 : NoW wA none := .inl rfl
  have m2 : NoR wA none := .inl rfl
  go_wp2_with fail
  refine (rbytes_no g2 0 0 _ b2 b1).mono ?_
  rintro e wB ⟨rfl, rfl⟩
  go_wp2_with fail
  refine (peek_no none 5 _ m2).mono ?_
  rintro e wB ⟨rfl, rfl⟩
  go_wp2_with fail
  refine (put_no none _ m1).mono ?_
  rintro e wB ⟨rfl, rfl⟩
  go_wp2_with fail
  refine (code_no _ _ n1).mono ?_
  rintro e wB ⟨rfl, rfl⟩
  go_wp2_with fail
  refine (align_no none _ m1).mono ?_
  rintro e wB ⟨rfl, rfl⟩
  go_wp2_with fail
  refine (bytes_no g1 _ 0 _ a3 a2).mono ?_
  rintro e wB ⟨rfl, rfl⟩
  go_wp2_with fail
  refine (len_no none _ m1).mono ?_
  rintro e wB ⟨rfl, rfl⟩
  go_wp2_with fail
  refine (done_no _ _ n1).mono ?_
  rintro e wB ⟨rfl, rfl⟩
  go_wp2_with fail
  refine (skip_no none 0 _ m2).mono ?_
  rintro e wB ⟨rfl, rfl⟩
  go_wp2_with fail
  refine (ralign_no _ _ n2).mono ?_
  rintro e wB ⟨rfl, rfl⟩
  go_wp2_with fail
  refine (left_no none _ m2).mono ?_
  rintro e wB ⟨rfl, rfl⟩
  go_wp2_with fail
  refine (at_no _ _ n2).mono ?_
  rintro e wB ⟨rfl, rfl⟩
  replace H2 : Sp w0 L wA := H2.pick 2 []
  clear b1 b2 a2 a3 n1 n2 m1 m2
  go_wp2_with fail
  refine (newWriter_ok H2).mono ?_
  rintro e w1 ⟨_, rfl, g, rfl, H3⟩
  have c3 := wr_made H3
  go_wp2_with fail
  refine (put_bad g 2 1 _ c3 (by decide)).mono ?_
  rintro e wB ⟨rfl, rfl⟩
  go_wp2_with fail
  refine (put_neg g 0 (-1) _ c3 (by decide)).mono ?_
  rintro e wB ⟨rfl, rfl⟩
  go_wp2_with fail
  refine (put_bad g 0 58 _ c3 (by decide)).mono ?_
  rintro e wB ⟨rfl, rfl⟩
  go_wp2_with fail
  refine (code_bad g 1 0 _ c3 (by decide)).mono ?_
  rintro e wB ⟨rfl, rfl⟩
  clear c3
  obtain ⟨M, hM⟩ : ∃ M : Nat, M = 144115188075855871 := ⟨_, rfl⟩
  have hM2 : M < 2 ^ 57 := by rw [hM]; decide
  have hMr : PBits.bytesOf (M + PBits.le [9] * 2 ^ 64) 9 = [255, 255, 255, 255, 255, 255, 255, 1, 9] := by rw [hM]; exact PBits.known_row
  have hMp : PBits.peek [255, 255, 255, 255, 255, 255, 255, 1, 9] 0 57 = M := by rw [hM]; exact PBits.known_peek
  have hMi : ((M : Nat) : Int) = 144115188075855871 := by rw [hM]; rfl
  have hMv : Value.int .u64 144115188075855871 = Value.int .u64 (M : Int) := by rw [hMi]
  have HI := Lib.hid hMi
  have HR := Lib.hid hMr
  have HP := Lib.hid hMp
  have HV := Lib.hid hMv
  clear hM hMi hMr hMp hMv
  go_wp2_with fail
  rw [HV.out]
  refine (put_ok g 0 0 M 57 H3 (by decide) (by decide) hM2 (by decide)).mono ?_
  rintro e w2 ⟨rfl, H4⟩
  have e1 : 0 + M * 2 ^ 0 = M := by simp
  rw [e1] at H4
  clear e1
  go_wp2_with fail
  refine (bytes_bad g M 57 _ (H4.alloc _) (by decide)).mono ?_
  rintro e wB ⟨rfl, hw⟩
  replace H4 := H4.alloc (.cells #[.int .u8 1] 5)
  rw [hw] at H4
  clear hw
  go_wp2_with fail
  refine (align_ok g M 57 H4 hM2 (by decide)).mono ?_
  rintro e w3 ⟨rfl, H5⟩
  replace H5 : Sp w0 (Wr g M 64 :: L) w3 := H5
  go_wp2_with fail
  have H6 := H5.newBk [.int .u8 9] 5
  refine (bytes_ok g M 64 H6.swap (Byt.of_blk [9] (H6.blk 0 rfl) (by simp [maxLen])) (by decide) (Nat.lt_of_lt_of_le hM2 (by decide)) (by decide) (by decide)).mono ?_
  rintro e w4 ⟨rfl, H7⟩
  replace H7 : Sp w0 (Wr g (M + PBits.le [9] * 2 ^ 64) 72 :: L) w4 := H7.pick 2 [0]
  go_wp2_with fail
  refine (done_ok g _ 72 H7 (by decide)).mono ?_
  rintro e w5 ⟨v, rfl, H8⟩
  replace H8 : Sp w0 (Row 5 1 v 9 (cells8 (PBits.bytesOf (M + PBits.le [9] * 2 ^ 64) 9)) :: L) w5 := H8.pick 2 [0]
  rw [HR.out] at H8
  obtain ⟨l, hl⟩ : ∃ l : List UInt8, l = [255, 255, 255, 255, 255, 255, 255, 1, 9] := ⟨_, rfl⟩
  have hp := HP.out
  have hl9 : l.length = 9 := by rw [hl]; rfl
  have hlt : (l.drop 8).take 1 = [9] := by rw [hl]; rfl
  rw [← hl] at H8 hp
  have HL9 := Lib.hid hl9
  have HLT := Lib.hid hlt
  have HP2 := Lib.hid hp
  clear hl hl9 hlt hp
  go_wp2_with fail
  refine (newReader_ok H8 (H8.row_byt 0 (by rw [HL9.out]; rfl)) (by rw [HL9.out]; decide)).mono ?_
  rintro e w6 ⟨_, rfl, r, rfl, H9⟩
  replace H9 : Sp w0 (Rr r l 0 :: L) w6 := H9.pick 2 [0]
  go_wp2_with fail
  refine (get_ok r l 0 57 H9 (by rw [HL9.out]; decide) (by decide) (by rw [HL9.out]; decide)).mono ?_
  rintro e w7 ⟨rfl, H10⟩
  rw [HP2.out]
  obtain ⟨_, _, _, _, _, c1, c2⟩ := rr_open H10
  go_wp2_with fail
  refine (rbytes_mid r 1 57 _ c2 c1 (by decide)).mono ?_
  rintro e wB ⟨rfl, rfl⟩
  clear c1 c2
  go_wp2_with fail
  refine (get_bad r l 57 58 H10 (by rw [HL9.out]; decide) (.inr (by decide)) (by rw [HL9.out]; decide)).mono ?_
  rintro e w8 ⟨rfl, K⟩
  replace H10 := K.sep H10
  clear K
  go_wp2_with fail
  refine (get_bad r l 57 (-1) H10 (by rw [HL9.out]; decide) (.inl (by decide)) (by rw [HL9.out]; decide)).mono ?_
  rintro e w9 ⟨rfl, K⟩
  replace H10 := K.sep H10
  clear K
  go_wp2_with fail
  refine (ralign_ok r l 57 H10 (by rw [HL9.out]; decide) (by rw [HL9.out]; decide)).mono ?_
  rintro e w10 ⟨rfl, H11⟩
  go_wp2_with fail
  refine (rbytes_ok r l 8 1 H11 (by rw [HL9.out]; decide) (by rw [HL9.out]; decide)).mono ?_
  rintro e w11 ⟨_, rfl, u, rfl, H12⟩
  rw [HLT.out] at H12
  go_wp2_with fail
  refine (rbytes_short r l 9 1 H12.swap (by rw [HL9.out]; decide) (by rw [HL9.out]; decide) (by rw [HL9.out]; decide)).mono ?_
  rintro e w12 ⟨rfl, K⟩
  replace H12 := K.sep H12
  clear K
  obtain ⟨_, _, _, _, _, _, c2⟩ := rr_open H12.swap
  go_wp2_with fail
  refine (rbytes_neg r (-1) _ c2 (by decide)).mono ?_
  rintro e wB ⟨rfl, rfl⟩
  clear c2
  have hMe : ((M : Int) == 144115188075855871) = true := by rw [HI.out]; rfl
  go_wp2_with fail
  have H13 := H12.newBk [.int .u8 9] 5
  refine (equal_ok (l := [9]) (m := [9]) (H13.row_byt 1 rfl) (Byt.of_blk [9] (H13.blk 0 rfl) (by simp [maxLen]))).mono ?_
  rintro e wB ⟨rfl, hw⟩
  rw [hw] at H13
  clear hw hMe
  replace H13 : Sp w0 L wB := H13.pick 3 []
  go_wp2_with fail
  refine (reverse_any 1 64 64 _ (by decide) (by decide)).mono ?_
  rintro e wC ⟨rfl, rfl⟩
  rw [PBits.known_rev]
  go_wp2_with fail
  refine (reverse_any 6 2 2 _ (by decide) (by decide)).mono ?_
  rintro e wC ⟨rfl, rfl⟩
  rw [show PBits.rev 6 2 = 1 by decide]
  go_wp2_with fail
  refine (reverse_any 9 0 (-1) _ (by decide) (by decide)).mono ?_
  rintro e wC ⟨rfl, rfl⟩
  rw [show PBits.rev 9 0 = 0 by decide]
  go_wp2_with fail
  refine (wakes_ok H13).mono ?_
  rintro e w14 ⟨rfl, H14⟩
  go_wp2
  go_ret
  exact ⟨rfl, H14⟩
end Go.Proofs.Ytkgnihpcldgedaa
