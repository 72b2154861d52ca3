/- BitsV: the document's examples, as the laws play them. -/
import Derived.Test.YtkgnihpcldgedaaBitsO
namespace Go.Proofs.Ytkgnihpcldgedaa
open Go.RowKit
set_option maxRecDepth 100000 in
set_option maxHeartbeats 1000000 in
theorem wakes_ok {w0 w : World} {L : List Pr} (H : Sp w0 L w) :
    Calls Try.prog 36 #[] w fun e w' => e = .returned (.bool true) ∧ Sp w0 L w' := by
  go_enter Try.func36, Try.ntmps36
  go_wp2_with fail
  refine (newWriter_ok H).mono ?_
  rintro e w1 ⟨_, rfl, g, rfl, H1⟩
  go_wp2_with fail
  refine (put_ok g 0 0 5 3 H1 (by decide) (by decide) (by decide) (by decide)).mono ?_
  rintro e w2 ⟨rfl, H2⟩
  go_wp2_with fail
  refine (put_ok g _ _ 1 1 H2 (by decide) (by decide) (by decide) (by decide)).mono ?_
  rintro e w3 ⟨rfl, H3⟩
  go_wp2_with fail
  refine (code_ok g _ _ 1 3 H3 (by decide) (by decide) (by decide) (by decide)).mono ?_
  rintro e w4 ⟨rfl, H4⟩
  replace H4 : Sp w0 (Wr g 77 7 :: L) w4 := H4
  go_wp2_with fail
  refine (len_ok g 77 7 H4 (by decide)).mono ?_
  rintro e w5 ⟨rfl, K5⟩
  have H5 := K5.sep H4
  go_wp2_with fail
  refine (done_ok g 77 7 H5 (by decide)).mono ?_
  rintro e w6 ⟨v, rfl, H6⟩
  replace H6 : Sp w0 (Row 5 1 v ([77] : List UInt8).length (cells8 [77]) :: Wr g 77 7 :: L) w6 := H6
  go_wp2_with fail
  refine (newReader_ok H6 (H6.row_byt 0 rfl) (by decide)).mono ?_
  rintro e w7 ⟨_, rfl, g2, rfl, H7⟩
  go_wp2_with fail
  refine (get_ok g2 [77] 0 3 H7 (by decide) (by decide) (by decide)).mono ?_
  rintro e w8 ⟨rfl, H8⟩
  rw [show PBits.peek [77] 0 3 = 5 by decide]
  go_wp2_with fail
  refine (get_ok g2 [77] 3 4 H8 (by decide) (by decide) (by decide)).mono ?_
  rintro e w9 ⟨rfl, H9⟩
  rw [show PBits.peek [77] 3 4 = 9 by decide]
  go_wp2_with fail
  refine (get_short g2 [77] 7 2 H9 (by decide) (by decide) (by decide) (by decide)).mono ?_
  rintro e w10 ⟨rfl, K10⟩
  have H10 := K10.sep H9
  go_wp2_with fail
  have H11 := H10.newBk [.int .u8 77] 5
  refine (equal_ok (l := [77]) (m := [77]) (H11.row_byt 2 rfl) (Byt.of_blk [77] (H11.blk 0 rfl) (by simp [maxLen]))).mono ?_
  rintro e w11 ⟨rfl, rfl⟩
  go_wp2_with fail
  refine (left_ok g2 [77] 7 H11.tail (by decide) (by decide)).mono ?_
  rintro e w12 ⟨rfl, K12⟩
  have H12 := K12.sep H11
  go_wp2
  go_ret
  exact ⟨rfl, H12.pick 4 []⟩
end Go.Proofs.Ytkgnihpcldgedaa
