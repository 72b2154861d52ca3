/- A pack of texts: InfKnown InfLaid InflateKnownProof. -/
import Derived.Below
import Derived.ChangeOld
import Derived.LaidMore
import Derived.Lib.LaidTab
import Derived.Lib.LaidU8
import Derived.OpenShut
import Derived.ProofKit
import Derived.SevenTiedAt
import Derived.ShutString
import Derived.Stop.Joined
import Derived.Stop.LaidErr
import Derived.Test.YtiogaejfcenooaaDoorCards
import Derived.Test.YtiogaejfcenooaaDoorRows
import Derived.Test.YtiogaejfcenooaaDoorTie
import Derived.WalkKit
import Derived.Test.YtiogaejfcenooaaDoorPk01
import Derived.Test.YtiogaejfcenooaaDoorPk22
import Derived.Test.YtiogaejfcenooaaDoorPk35
namespace Go.Proofs.YtiogaejfcenooaaDoor
set_option linter.unusedVariables false
set_option linter.unusedSimpArgs false
open Go.RowKit
def psK (gl gc gd : Nat) : List PartV := [⟨⟨2, [97, 98], [(255, 1), (254, 0), (0, 7), (100, 400)]⟩, .slice (some ⟨gl, 0, none⟩) 2 2, .slice (some ⟨gc, 0, none⟩) 4 4⟩, ⟨⟨1, [], [(255, 600)]⟩, .slice none 0 0, .slice (some ⟨gd, 0, none⟩) 1 1⟩, ⟨⟨0, [], []⟩, .slice none 0 0, .slice none 0 0⟩, ⟨⟨2, [], []⟩, .slice none 0 0, .slice none 0 0⟩]
theorem psK_p (gl gc gd : Nat) : (psK gl gc gd).map PartV.p = PI.lwK := rfl
theorem psK_ok {g gl gc gd : Nat} {w0 w : World} {L : List Pr} (H : Sp w0 (Bk g 42 ((psK gl gc gd).flatMap PartV.cells) :: Bk gd 33 [.int .u16 255, .int .u16 600] :: Bk gc 33 [.int .u16 255, .int .u16 1, .int .u16 254, .int .u16 0, .int .u16 0, .int .u16 7, .int .u16 100, .int .u16 400] :: Lit gl [97, 98] :: L) w) :
  Rd w (some ⟨g, 0, none⟩) ((psK gl gc gd).flatMap PartV.cells) ∧ ∀ x ∈ psK gl gc gd, x.Ok w := by
 refine ⟨Rd.of_blk (H.blk 0 rfl), fun x hx => ?_⟩
 have hn : Rd w none (cellsPr []) := Rd.nil
 simp only [psK, List.mem_cons, List.not_mem_nil, or_false] at hx
 rcases hx with rfl | rfl | rfl | rfl
 ·exact ⟨(show (2 : Nat) < 256 by decide), H.lit 3 rfl (by decide), ⟨_, _, rfl, Rd.of_blk (H.blk 2 rfl), Nat.le_refl 4, by decide⟩, (show ∀ c ∈ [((255 : Nat), (1 : Nat)), (254, 0), (0, 7), (100, 400)], c.1 < 65536 ∧ c.2 < 65536 by decide)⟩
 ·exact ⟨(show (1 : Nat) < 256 by decide), Byt.nil w, ⟨_, _, rfl, Rd.of_blk (H.blk 1 rfl), Nat.le_refl 1, by decide⟩, (show ∀ c ∈ [((255 : Nat), (600 : Nat))], c.1 < 65536 ∧ c.2 < 65536 by decide)⟩
 ·exact ⟨by decide, Byt.nil w, ⟨_, _, rfl, hn, by decide, by decide⟩, by decide⟩
 ·exact ⟨by decide, Byt.nil w, ⟨_, _, rfl, hn, by decide, by decide⟩, by decide⟩
set_option maxRecDepth 100000 in
set_option maxHeartbeats 16000000 in
theorem iknown_any (TL TA : Option Addr) (cl ca : Nat) {w0 w : World} {L : List Pr} (H : Sp w0 L w) (hT : Ent L (Tabs TL TA cl ca)) :
  Calls Tryd.prog 6 #[] w fun e w' => e = .returned (.bool true) ∧ Sp w0 L w' := by
 have HT := Lib.hid hT
 clear hT
 go_enter Tryd.func6, Tryd.ntmps6
 have H1 := ((((((((((H.newBk (cells8 [7]) 5).newBk (cells8 [1]) 5).newBk (cells8 [1, 1, 0, 0, 0]) 5).newBk (cells8 [1, 1, 0, 254, 255]) 5).newBk (cells8 [3]) 5).newBk (cells8 [253, 255]) 5).newBk (cells8 [245, 255, 255]) 5).newBk (cells8 [5, 254, 0, 0]) 5).newBk (cells8 [3, 2]) 5).newBk (cells8 [99, 4, 66, 0]) 5).newBk [.slice none 0 0, .int .i64 4, .slice (some ⟨w.heap.size, 0, none⟩) 1 1, .int .i64 20, .slice (some ⟨w.heap.size + 1, 0, none⟩) 1 1, .int .i64 4, .slice (some ⟨w.heap.size + 1 + 1, 0, none⟩) 5 5, .int .i64 20, .slice (some ⟨w.heap.size + 1 + 1 + 1, 0, none⟩) 5 5, .int .i64 4, .slice (some ⟨w.heap.size + 1 + 1 + 1 + 1, 0, none⟩) 1 1, .int .i64 4, .slice (some ⟨w.heap.size + 1 + 1 + 1 + 1 + 1, 0, none⟩) 2 2, .int .i64 4, .slice (some ⟨w.heap.size + 1 + 1 + 1 + 1 + 1 + 1, 0, none⟩) 3 3, .int .i64 20, .slice (some ⟨w.heap.size + 1 + 1 + 1 + 1 + 1 + 1 + 1, 0, none⟩) 4 4, .int .i64 20, .slice (some ⟨w.heap.size + 1 + 1 + 1 + 1 + 1 + 1 + 1 + 1, 0, none⟩) 2 2, .int .i64 20, .slice (some ⟨w.heap.size + 1 + 1 + 1 + 1 + 1 + 1 + 1 + 1 + 1, 0, none⟩) 4 4, .int .i64 20] 44
 simp only [al_size] at H1
 go_wp2_with fail
 generalize w.heap.size + 1 + 1 + 1 + 1 + 1 + 1 + 1 + 1 + 1 + 1 = gR at H1 ⊢
 generalize w.heap.size + 1 + 1 + 1 + 1 + 1 + 1 + 1 + 1 + 1 = g10 at H1 ⊢
 generalize w.heap.size + 1 + 1 + 1 + 1 + 1 + 1 + 1 + 1 = g9 at H1 ⊢
 generalize w.heap.size + 1 + 1 + 1 + 1 + 1 + 1 + 1 = g8 at H1 ⊢
 generalize w.heap.size + 1 + 1 + 1 + 1 + 1 + 1 = g7 at H1 ⊢
 generalize w.heap.size + 1 + 1 + 1 + 1 + 1 = g6 at H1 ⊢
 generalize w.heap.size + 1 + 1 + 1 + 1 = g5 at H1 ⊢
 generalize w.heap.size + 1 + 1 + 1 = g4 at H1 ⊢
 generalize w.heap.size + 1 + 1 = g3 at H1 ⊢
 generalize w.heap.size + 1 = g2 at H1 ⊢
 generalize w.heap.size = g1 at H1 ⊢
 clear H
 go_loopw [48] (fun iv wr => ∃ i : Nat, iv = .int .i64 (i : Int) ∧ i ≤ 11 ∧ Sp w0 (Bk gR 44 [.slice none 0 0, .int .i64 4, .slice (some ⟨g1, 0, none⟩) 1 1, .int .i64 20, .slice (some ⟨g2, 0, none⟩) 1 1, .int .i64 4, .slice (some ⟨g3, 0, none⟩) 5 5, .int .i64 20, .slice (some ⟨g4, 0, none⟩) 5 5, .int .i64 4, .slice (some ⟨g5, 0, none⟩) 1 1, .int .i64 4, .slice (some ⟨g6, 0, none⟩) 2 2, .int .i64 4, .slice (some ⟨g7, 0, none⟩) 3 3, .int .i64 20, .slice (some ⟨g8, 0, none⟩) 4 4, .int .i64 20, .slice (some ⟨g9, 0, none⟩) 2 2, .int .i64 20, .slice (some ⟨g10, 0, none⟩) 4 4, .int .i64 20] :: Bk g10 5 (cells8 [99, 4, 66, 0]) :: Bk g9 5 (cells8 [3, 2]) :: Bk g8 5 (cells8 [5, 254, 0, 0]) :: Bk g7 5 (cells8 [245, 255, 255]) :: Bk g6 5 (cells8 [253, 255]) :: Bk g5 5 (cells8 [3]) :: Bk g4 5 (cells8 [1, 1, 0, 254, 255]) :: Bk g3 5 (cells8 [1, 1, 0, 0, 0]) :: Bk g2 5 (cells8 [1]) :: Bk g1 5 (cells8 [7]) :: L) wr) (fun iv _ => 11 - (intOf iv).toNat)
 case atStart => exact ⟨0, rfl, by omega, H1⟩
 case round =>
  obtain ⟨i, rfl, hi, H2⟩ := hrel
  clear H1
  by_cases hlt : i < 11
  ·have k1 : (i : Int) < 11 := by omega
   obtain ⟨A9, n9, l, e, y0, y1, hb, he, hl⟩ : ∃ A9 n9 l e, wr.cell? ⟨gR, i * 2, none⟩ = some (.slice A9 n9 n9) ∧ wr.cell? ⟨gR, i * 2 + 1, none⟩ = some (.int .i64 ((e : Nat) : Int)) ∧ Ent (Bk gR 44 [.slice none 0 0, .int .i64 4, .slice (some ⟨g1, 0, none⟩) 1 1, .int .i64 20, .slice (some ⟨g2, 0, none⟩) 1 1, .int .i64 4, .slice (some ⟨g3, 0, none⟩) 5 5, .int .i64 20, .slice (some ⟨g4, 0, none⟩) 5 5, .int .i64 4, .slice (some ⟨g5, 0, none⟩) 1 1, .int .i64 4, .slice (some ⟨g6, 0, none⟩) 2 2, .int .i64 4, .slice (some ⟨g7, 0, none⟩) 3 3, .int .i64 20, .slice (some ⟨g8, 0, none⟩) 4 4, .int .i64 20, .slice (some ⟨g9, 0, none⟩) 2 2, .int .i64 20, .slice (some ⟨g10, 0, none⟩) 4 4, .int .i64 20] :: Bk g10 5 (cells8 [99, 4, 66, 0]) :: Bk g9 5 (cells8 [3, 2]) :: Bk g8 5 (cells8 [5, 254, 0, 0]) :: Bk g7 5 (cells8 [245, 255, 255]) :: Bk g6 5 (cells8 [253, 255]) :: Bk g5 5 (cells8 [3]) :: Bk g4 5 (cells8 [1, 1, 0, 254, 255]) :: Bk g3 5 (cells8 [1, 1, 0, 0, 0]) :: Bk g2 5 (cells8 [1]) :: Bk g1 5 (cells8 [7]) :: L) (fun w => Byt w (.slice A9 n9 n9) l) ∧ PI.all (PBits.ofB l) 100 = .error e ∧ l.length ≤ 9 := by
    have hcase : i = 0 ∨ i = 1 ∨ i = 2 ∨ i = 3 ∨ i = 4 ∨ i = 5 ∨ i = 6 ∨ i = 7 ∨ i = 8 ∨ i = 9 ∨ i = 10 := by omega
    rcases hcase with rfl | rfl | rfl | rfl | rfl | rfl | rfl | rfl | rfl | rfl | rfl
    ·exact ⟨_, _, _, _, H2.cell 0 rfl 0, H2.cell 0 rfl 1, fun _ _ h => Byt.nil _, PI.errOf_is PI.kn_0, by decide⟩
    ·exact ⟨_, _, _, _, H2.cell 0 rfl 2, H2.cell 0 rfl 3, fun _ _ h => Byt.of_blk [7] (h.blk 10 rfl) (by decide), PI.errOf_is PI.kn_1, by decide⟩
    ·exact ⟨_, _, _, _, H2.cell 0 rfl 4, H2.cell 0 rfl 5, fun _ _ h => Byt.of_blk [1] (h.blk 9 rfl) (by decide), PI.errOf_is PI.kn_2, by decide⟩
    ·exact ⟨_, _, _, _, H2.cell 0 rfl 6, H2.cell 0 rfl 7, fun _ _ h => Byt.of_blk [1, 1, 0, 0, 0] (h.blk 8 rfl) (by decide), PI.errOf_is PI.kn_3, by decide⟩
    ·exact ⟨_, _, _, _, H2.cell 0 rfl 8, H2.cell 0 rfl 9, fun _ _ h => Byt.of_blk [1, 1, 0, 254, 255] (h.blk 7 rfl) (by decide), PI.errOf_is PI.kn_4, by decide⟩
    ·exact ⟨_, _, _, _, H2.cell 0 rfl 10, H2.cell 0 rfl 11, fun _ _ h => Byt.of_blk [3] (h.blk 6 rfl) (by decide), PI.errOf_is PI.kn_5, by decide⟩
    ·exact ⟨_, _, _, _, H2.cell 0 rfl 12, H2.cell 0 rfl 13, fun _ _ h => Byt.of_blk [253, 255] (h.blk 5 rfl) (by decide), PI.errOf_is PI.kn_6, by decide⟩
    ·exact ⟨_, _, _, _, H2.cell 0 rfl 14, H2.cell 0 rfl 15, fun _ _ h => Byt.of_blk [245, 255, 255] (h.blk 4 rfl) (by decide), PI.errOf_is PI.kn_7, by decide⟩
    ·exact ⟨_, _, _, _, H2.cell 0 rfl 16, H2.cell 0 rfl 17, fun _ _ h => Byt.of_blk [5, 254, 0, 0] (h.blk 3 rfl) (by decide), PI.errOf_is PI.kn_8, by decide⟩
    ·exact ⟨_, _, _, _, H2.cell 0 rfl 18, H2.cell 0 rfl 19, fun _ _ h => Byt.of_blk [3, 2] (h.blk 2 rfl) (by decide), PI.errOf_is PI.kn_9, by decide⟩
    ·exact ⟨_, _, _, _, H2.cell 0 rfl 20, H2.cell 0 rfl 21, fun _ _ h => Byt.of_blk [99, 4, 66, 0] (h.blk 1 rfl) (by decide), PI.errOf_is PI.kn_10, by decide⟩
   have H3 := H2.newBk [.slice A9 n9 n9, .int .i64 (e : Int)] 44
   have HA := Lib.hid (xall_ok (.slice A9 n9 n9) l 100 TL TA cl ca H3 (fun w0 w h => hb w0 w h.tail) (by omega) (by decide) (fun w0 w h => HT.out w0 w (h.pick 12 [])))
   have HE := Lib.hid he
   clear hb he H2 H3
   go_wp2_with fail
   refine HA.out.mono ?_
   intro e9 w1 k9
   obtain ⟨rfl, H4⟩ := AEnd.bad HE.out k9
   clear k9 HA y0 y1
   generalize wr.heap.size = gx at H4 ⊢
   have y1 : w1.cell? ⟨gx, 1, none⟩ = some (.int .i64 (e : Int)) := H4.cell 0 rfl 1
   have kk : ((e : Int) != (e : Int)) = false := by simp
   go_wp2_with fail
   go_roundw
   case rel => exact ⟨i + 1, by first | rfl | go_num, by omega, H4.tail⟩
   case measure => first | (simp [intOf]; omega) | simp [intOf]
  ·have k1 : ¬ (i : Int) < 11 := by omega
   replace H2 := H2.pick 11 []
   have H3 := H2.newBk (cells8 [3, 0]) 5
   have HA := Lib.hid (xall_arg (.slice (some ⟨wr.heap.size, 0, none⟩) 2 2) (-1) H3 (by decide))
   clear H2 H3
   go_wp2_with fail
   refine HA.out.mono ?_
   rintro e9 w1 ⟨rfl, H4⟩
   replace H4 := H4.pick 1 []
   clear HA
   have H3 := H4.newBk (cells8 [1, 2, 0, 253, 255, 97, 98]) 5
   have HA := Lib.hid (xall_ok (.slice (some ⟨w1.heap.size, 0, none⟩) 7 7) [1, 2, 0, 253, 255, 97, 98] 1 TL TA cl ca H3 (fun _ _ h => Byt.of_blk [1, 2, 0, 253, 255, 97, 98] (h.blk 0 rfl) (by decide)) (by decide) (by decide) (fun w0 w h => HT.out w0 w (h.pick 1 [])))
   clear H3 H4
   go_wp2_with fail
   refine HA.out.mono ?_
   intro e9 w2 k9
   obtain ⟨rfl, H4⟩ := AEnd.bad (PI.errOf_is PI.kx_0) k9
   clear k9 HA
   replace H4 := H4.pick 1 []
   have H3 := H4.newBk (cells8 [1, 2, 0, 253, 255, 97]) 5
   have HA := Lib.hid (xall_ok (.slice (some ⟨w2.heap.size, 0, none⟩) 6 6) [1, 2, 0, 253, 255, 97] 1 TL TA cl ca H3 (fun _ _ h => Byt.of_blk [1, 2, 0, 253, 255, 97] (h.blk 0 rfl) (by decide)) (by decide) (by decide) (fun w0 w h => HT.out w0 w (h.pick 1 [])))
   clear H3 H4
   go_wp2_with fail
   refine HA.out.mono ?_
   intro e9 w3 k9
   obtain ⟨rfl, H4⟩ := AEnd.bad (PI.errOf_is PI.kx_1) k9
   clear k9 HA
   replace H4 := H4.pick 1 []
   have H3 := H4.newBk (cells8 [1, 3, 0, 252, 255, 97, 98]) 5
   have HA := Lib.hid (xall_ok (.slice (some ⟨w3.heap.size, 0, none⟩) 7 7) [1, 3, 0, 252, 255, 97, 98] 1 TL TA cl ca H3 (fun _ _ h => Byt.of_blk [1, 3, 0, 252, 255, 97, 98] (h.blk 0 rfl) (by decide)) (by decide) (by decide) (fun w0 w h => HT.out w0 w (h.pick 1 [])))
   clear H3 H4
   go_wp2_with fail
   refine HA.out.mono ?_
   intro e9 w4 k9
   obtain ⟨rfl, H4⟩ := AEnd.bad (PI.errOf_is PI.kx_2) k9
   clear k9 HA
   replace H4 := H4.pick 1 []
   obtain ⟨u5, hc, G⟩ := lit_ok H4 [97, 98]
   have hv : Sem.run Tryd.prog (convert 24 24 (.slice (some ⟨w4.heap.size, 0, none⟩) 2 2)) (w4.alloc (.cells #[.int .u8 97, .int .u8 98] 5)) = .ok (.slice (some ⟨w4.heap.size, 0, none⟩) 2 2) u5 := hc 2 rfl
   clear hc H4
   go_wp2_with fail
   clear hv
   have H5 := ((G.newBk [.int .u16 255, .int .u16 1, .int .u16 254, .int .u16 0, .int .u16 0, .int .u16 7, .int .u16 100, .int .u16 400] 33).newBk [.int .u16 255, .int .u16 600] 33).newBk ((psK w4.heap.size u5.heap.size (u5.heap.size + 1)).flatMap PartV.cells) 42
   simp only [al_size] at H5
   clear G
   have HW := Lib.hid (pwritten_ok (some ⟨u5.heap.size + 1 + 1, 0, none⟩) 4 4 (psK w4.heap.size u5.heap.size (u5.heap.size + 1)) H5 rfl (by decide) (by decide) (fun _ _ h => psK_ok h))
   clear H5
   refine HW.out.mono ?_
   rintro _ w6 ⟨v1, v2, rfl, H6⟩
   clear HW
   rw [psK_p] at H6
   replace H6 := H6.pick 6 [0, 1]
   obtain ⟨BW, hBW⟩ : ∃ x, PI.packB (PI.bitsW PI.lwK) = x := ⟨_, rfl⟩
   obtain ⟨OW, hOW⟩ : ∃ x, PI.outW PI.lwK = x := ⟨_, rfl⟩
   have hst := PI.stW_most (PI.partsW PI.lwK) (PI.partsW PI.lwK).length
   have hlp := PI.partsW_len PI.lwK
   have hBWl : BW.length = ((PI.bitsW PI.lwK).length + 7) / 8 := by rw [← hBW]; exact PI.packB_len _
   have hBW1 : BW.length ≤ 100000 := by
    have h2 : (PI.bitsW PI.lwK).length ≤ 9403 * (PI.partsW PI.lwK).length := hst.1
    omega
   have hol : OW.length = 881 := by rw [← hOW]; exact PI.out_len
   have hq : PI.all (PBits.ofB BW) 1048576 = .ok ((PI.bitsW PI.lwK).length, OW, PI.blksW (PI.partsW PI.lwK)) := by
    have h := PI.written_read PI.lwK 1048576 (by rw [PI.out_len]; decide)
    rw [hBW, hOW] at h; exact h
   obtain ⟨bl, hbl⟩ : ∃ q, BW.length = q := ⟨_, rfl⟩
   rw [hBW, hOW, hbl, hol] at H6
   rw [hbl] at hBW1
   have hu : ((PI.bitsW PI.lwK).length + 7) / 8 = bl := by rw [← hBWl, hbl]
   obtain ⟨VB, vbc, rfl, hvb1, hvb2⟩ := Row.form H6 0 rfl
   obtain ⟨VW, vwc, rfl, _, _⟩ := Row.form H6 1 rfl
   have HBL := Lib.hid hbl
   have HOL := Lib.hid hol
   have HQ := Lib.hid hq
   have HU := Lib.hid hu
   have HB4 := Lib.hid PI.blks_len
   have HA := Lib.hid (xall_ok (.slice VB bl vbc) BW 1048576 TL TA cl ca H6 (fun w0 w h => byt_row h 0 rfl HBL.out.symm) (by rw [HBL.out]; omega) (by decide) (fun w0 w h => HT.out w0 w (h.pick 2 [])))
   clear hBW hOW hst hlp hBWl hol hq hbl hu H6
   go_wp2_with fail
   refine HA.out.mono ?_
   intro e9 w7 k9
   obtain ⟨A7, c7, he7, H7⟩ := AEnd.got HQ.out k9
   simp only [HU.out, HOL.out] at he7 H7
   subst he7
   clear k9 HA
   have HA := Lib.hid (xblocks_ok (.slice VB bl vbc) BW 1048576 TL TA cl ca H7 (fun w0 w h => byt_row h 1 rfl HBL.out.symm) (by rw [HBL.out]; omega) (by decide) (fun w0 w h => HT.out w0 w (h.pick 3 [])))
   clear H7
   go_wp2_with fail
   refine HA.out.mono ?_
   intro e9 w8 k9
   obtain ⟨A8, c8, he8, H8⟩ := BEnd.got HQ.out k9
   simp only [HB4.out] at he8 H8
   subst he8
   clear k9 HA
   have s1 : (convert 24 9 (.slice A7 881 c7)).run Tryd.prog w8 = .ok (.string (strOf OW)) w8 := run_str w8 _ _ 5 _ OW Tryd.underlying24 Tryd.underlying5 Tryd.underlying9 (byt_row H8 1 rfl HOL.out.symm)
   have s2 : (convert 24 9 (.slice VW 881 vwc)).run Tryd.prog w8 = .ok (.string (strOf OW)) w8 := run_str w8 _ _ 5 _ OW Tryd.underlying24 Tryd.underlying5 Tryd.underlying9 (byt_row H8 3 rfl HOL.out.symm)
   obtain ⟨so, hso⟩ : ∃ so, strOf OW = so := ⟨_, rfl⟩
   rw [hso] at s1 s2
   obtain ⟨g8, rfl⟩ : ∃ g8, A8 = some ⟨g8, 0, none⟩ := by
    rcases (H8.owns 0 rfl).2 with ⟨e, _⟩ | ⟨g8, cap, cur, e, _⟩
    ·cases e
    ·injection e with e _ _; exact ⟨g8, e⟩
   obtain ⟨ab, e1, hr1⟩ := rdBlk (row3 H8 0 rfl) (PI.blk_is PI.blks_1)
   obtain ⟨ab2, e2, hr3⟩ := rdBlk (row3 H8 0 rfl) (PI.blk_is PI.blks_3)
   injection e1 with e1
   injection e2 with e2
   subst e1 e2
   have b2 : w8.cell? ⟨g8, 6, none⟩ = some (.int .i64 623) := hr1 2 _ rfl
   have d0 : w8.cell? ⟨g8, 12, none⟩ = some (.int .i64 2) := hr3 0 _ rfl
   have d1 : w8.cell? ⟨g8, 13, none⟩ = some (.bool true) := hr3 1 _ rfl
   have d2 : w8.cell? ⟨g8, 14, none⟩ = some (.int .i64 881) := hr3 2 _ rfl
   have d3 : w8.cell? ⟨g8, 15, none⟩ = some (.int .i64 881) := hr3 3 _ rfl
   have HTE := Lib.hid (xtells_ok TL TA cl ca (H8.pick 4 []) (fun w0 w h => HT.out w0 w h))
   clear hso hr1 hr3 H8
   go_wp2_with fail
   refine HTE.out.mono ?_
   rintro _ w9 ⟨rfl, H10⟩
   clear HTE
   go_wp2_with fail
   go_ret
   exact ⟨rfl, H10⟩
theorem iknown_law {W : World} (hT : ∃ TL TA cl ca, Tabs TL TA cl ca W) :
  Calls Tryd.prog 6 #[] W fun e w' => e = .returned (.bool true) ∧ Sp W [Same W] w' := by
 obtain ⟨TL, TA, cl, ca, hT⟩ := hT
 exact iknown_any TL TA cl ca (Sp.start W) (tabs_same hT)
end Go.Proofs.YtiogaejfcenooaaDoor

namespace Go.Proofs.YtiogaejfcenooaaDoor
set_option linter.unusedVariables false
set_option linter.unusedSimpArgs false
open Go.ChangeShapes Go.WideShapes Go.ChangeAt Go.RowKit Go.Lib
def pairData (l : List (Nat × Nat)) : DataW Unit := .slice (l.map fun x => .agg [.lit (.int .i64 (x.1 : Int)), .lit (.int .i64 (x.2 : Int))]) []
theorem pairs_of_reads {P : Program} {w : World} {name : String} {g : Nat} {t e : TypeId} {f0 f1 : Field} {l : List (Nat × Nat)} (hn : P.globalNamed name = some g) (hy : (P.globals[g]?).map (·.type) = some t)
  (ht : P.underlying t = some (.slice e)) (he : P.underlying e = some (.struct #[f0, f1])) (hc : P.cellsOf e = 2) (h0 : P.underlying f0.type = some (.int .i64)) (h1 : P.underlying f1.type = some (.int .i64))
  (hf0 : f0.offset = 0 ∧ P.cellsOf f0.type = 1) (hf1 : f1.offset = 1 ∧ P.cellsOf f1.type = 1) (hl : 0 < l.length) (h : VarReads P w name (pairData l)) :
  ∃ A c, w.cell? ⟨g, 0, none⟩ = some (.slice A l.length c) ∧ Rd w A (cellsP l) := by
 obtain ⟨g', t', cs, fuel, p, hg, hty, hvar, hd⟩ := h
 obtain rfl := Option.some.inj (hn.symm.trans hg)
 obtain rfl := Option.some.inj (hy.symm.trans hty)
 rcases DataW.trod_slice ht hd with ⟨_, hx⟩ | ⟨a, len, cap, el, rs, m, rfl, hcs, hx, _, hlc, _, hel, helem, hsp, _⟩
 ·cases hx
 have e0 := congrArg Prod.fst hx
 simp only [pairData, DataW.slice.injEq] at e0
 obtain ⟨eE, eR⟩ := e0
 have hlen : len = l.length := by
  have := congrArg List.length eE
  simp at this
  omega
 have hcell : ∀ i, i < l.length → w.cell? (a.add (i * 2)) = some (.int .i64 ((l.getD i (0, 0)).1 : Nat)) ∧ w.cell? (a.add (i * 2 + 1)) = some (.int .i64 ((l.getD i (0, 0)).2 : Nat)) := by
  intro i hi
  have h9 := helem i (by omega)
  rw [hc] at h9
  obtain ⟨b, hb⟩ : ∃ b, el[i]? = some b := ⟨el[i]'(by omega), List.getElem?_eq_getElem (by omega)⟩
  rw [hb] at h9
  obtain ⟨ce, hce, hte⟩ := Option.bind_eq_some_iff.1 h9
  obtain ⟨xs, n, _, hbx, hcl, hlen2, hf⟩ := DataW.trod_struct he hte
  have hb1 : b.1 = .agg [.lit (.int .i64 ((l.getD i (0, 0)).1 : Nat)), .lit (.int .i64 ((l.getD i (0, 0)).2 : Nat))] := by
   have := congrArg (·[i]?) eE
   simp [hb, hi, List.getD] at this
   have e2 : l.getD i (0, 0) = l[i] := by simp [List.getD, List.getElem?_eq_getElem hi]
   rw [e2]
   exact this.symm
  rw [hc] at hcl
  obtain ⟨_, _, hat⟩ := World.cells?_some hce
  match ce, hcl, xs, hlen2 with
  | [c0, c1], _, [y0, y1], _ =>
   have g0 := hf 0 f0 rfl
   have g1 := hf 1 f1 rfl
   rw [hf0.1, hf0.2] at g0
   rw [hf1.1, hf1.2] at g1
   replace g0 : DataW.trod _ P w 0 (fun _ => true) false n f0.type [c0] = some y0 := g0
   replace g1 : DataW.trod _ P w 0 (fun _ => true) false n f1.type [c1] = some y1 := g1
   obtain ⟨z0, q0, d0, _⟩ := DataW.trod_int h0 g0
   obtain ⟨z1, q1, d1, _⟩ := DataW.trod_int h1 g1
   rw [hbx] at hb1
   simp only [List.map_cons, List.map_nil, DataW.agg.injEq, List.cons.injEq, and_true] at hb1
   obtain ⟨k0, k1⟩ := hb1
   rw [d0] at k0
   rw [d1] at k1
   simp only [DataW.lit.injEq, Lit.int.injEq, true_and] at k0 k1
   replace q0 : c0 = .int .i64 z0 := by simpa using q0
   replace q1 : c1 = .int .i64 z1 := by simpa using q1
   have a0 := hat 0 (by simp)
   have a1 := hat 1 (by simp)
   rw [Go.Addr.add_add] at a0 a1
   refine ⟨?_, ?_⟩
   ·rw [← k0, ← q0]; simpa using a0
   ·rw [← k1, ← q1]; simpa using a1
 obtain ⟨R, o, sR⟩ := a
 refine ⟨some ⟨R, o, sR⟩, cap, ?_, fun _ => ⟨_, rfl, fun j u hj => ?_⟩⟩
 ·rw [World.var?_cell hg hvar 0, ← Array.getElem?_toList, hcs, hlen]
  rfl
 ·have hj2 : j < l.length * 2 := by
   have := (List.getElem?_eq_some_iff.1 hj).1
   rwa [cellsP_len] at this
  have hg2 := cellsP_get l (j / 2) (by omega)
  have hc2 := hcell (j / 2) (by omega)
  by_cases hpar : j % 2 = 0
  ·have e : j / 2 * 2 = j := by omega
   rw [e] at hg2 hc2
   rw [hc2.1, ← hg2.1, hj]
  ·have e : j / 2 * 2 + 1 = j := by omega
   rw [e] at hg2 hc2
   rw [hc2.2, ← hg2.2, hj]
theorem gOrd : Tryd.prog.globalNamed "portolan/inflate.order" = some 3 := by kernel_rfl
theorem tOrd : (Tryd.prog.globals[3]?).map (·.type) = some 106 := by kernel_rfl
theorem gLen : Tryd.prog.globalNamed "portolan/inflate.lengths" = some 5 := by kernel_rfl
theorem tLen : (Tryd.prog.globals[5]?).map (·.type) = some 199 := by kernel_rfl
theorem gAwy : Tryd.prog.globalNamed "portolan/inflate.away" = some 2 := by kernel_rfl
theorem tAwy : (Tryd.prog.globals[2]?).map (·.type) = some 199 := by kernel_rfl
def ordZ : List Int := PI.orderT.map fun n : Nat => (n : Int)
theorem tabs_of_laid {W : World} (h : laidMetH Tryd.prog [("portolan/inflate.order", Rows.laid_portolan_inflate_order), ("portolan/inflate.lengths", Rows.laid_portolan_inflate_lengths), ("portolan/inflate.away", Rows.laid_portolan_inflate_away)] W) : ∃ TL TA cl ca, Tabs TL TA cl ca W := by
 rw [MakeChecks.laidMetH_plain _ _ _ (by kernel_rfl)] at h
 have hT := Lib.tabIs_of_head (k := .i64) (zs := ordZ) gOrd tOrd Tryd.underlying106 Tryd.underlying3 (by kernel_rfl) (by kernel_rfl) h
 have hl : VarReads Tryd.prog W "portolan/inflate.lengths" (pairData PI.lengthsT) := laidMet.reads h (by simp only [List.mem_cons]; exact .inr (.inl rfl))
 have ha : VarReads Tryd.prog W "portolan/inflate.away" (pairData PI.awayT) := laidMet.reads h (by simp only [List.mem_cons]; exact .inr (.inr (.inl rfl)))
 obtain ⟨TL, cl, e1, e2⟩ := pairs_of_reads gLen tLen Tryd.underlying199 Tryd.underlying240 (by kernel_rfl) Tryd.underlying3 Tryd.underlying3 ⟨rfl, by kernel_rfl⟩ ⟨rfl, by kernel_rfl⟩ (by decide) hl
 obtain ⟨TA, ca, e3, e4⟩ := pairs_of_reads gAwy tAwy Tryd.underlying199 Tryd.underlying240 (by kernel_rfl) Tryd.underlying3 Tryd.underlying3 ⟨rfl, by kernel_rfl⟩ ⟨rfl, by kernel_rfl⟩ (by decide) ha
 refine ⟨TL, TA, cl, ca, e1, e2, e3, e4, fun i hi => ?_⟩
 have := hT.cell gOrd i (by simpa [ordZ, PI.orderT] using hi)
 rw [this]
 have : ∀ i, i < 19 → ordZ.getD i 0 = ((PI.orderT.getD i 0 : Nat) : Int) := by decide
 rw [this i hi]
end Go.Proofs.YtiogaejfcenooaaDoor

namespace Go.Proofs.YtiogaejfcenooaaDoor.inflateKnown
open Go.ChangeShapes Go.WideShapes Go.ChangeAt Go.RowKit Go.WideMaps Go.WideElems
open Go.ChangeMaps (open_string shut_string)
set_option linter.unusedVariables false

theorem own : ownKnob Tryd.prog.godebug = none := by kernel_rfl
theorem laidOut : laidOutB Tryd.prog = true := by kernel_rfl
def laidL : List (String × DataW Unit) := [("portolan/inflate.order", Rows.laid_portolan_inflate_order), ("portolan/inflate.lengths", Rows.laid_portolan_inflate_lengths), ("portolan/inflate.away", Rows.laid_portolan_inflate_away)]
theorem door_met (os : Os) (args : Array Value) : laidMetH Tryd.prog laidL ((World.doorLaid Tryd.prog 4000 os).forCall (fun _ _ => 0) ⟨#[], args, []⟩).memory :=
 laidMetH_of_parts3 (fuel := 10) (laidMet_of_run' 10 (by kernel_rfl) (by kernel_rfl)) (by kernel_rfl) (by kernel_rfl)
set_option maxRecDepth 100000 in
set_option maxHeartbeats 1000000 in
theorem lifted (os : Os) (started : os.Started) (H : Type) (enc : TypeId × Value → H) :
  ReturnsInHanded {} Tryd.checked os 6 .any (fun w args => (Rows.inflateKnownSpec.pre enc Tryd.prog Tryd.f6 [] false w args ∧ laidMetH Tryd.prog laidL w) ∧ sizedMet enc Tryd.prog Tryd.f6 (OpenSpec.ofChange Rows.inflateKnownSpec) false w args)
   (Rows.inflateKnownSpec.post enc Tryd.prog Tryd.f6 false true false false) := by
 refine returnsInHanded_of_change_and (C := Tryd.checked) (X := fun w _ => laidMetH Tryd.prog laidL w) (fun _ _ _ hh h => h.of_heap hh) own started (by kernel_rfl) Tryd.func6
  (ChangeSpec.witness_shaped (enc := enc) (C := Tryd.checked) (os := os) (X := fun w _ => laidMetH Tryd.prog laidL w) false (World.doorLaid Tryd.prog 4000 os) #[] 8 rfl (World.shaped_of_RefB (by kernel_rfl) (by kernel_rfl)) (by kernel_rfl) (by kernel_rfl) (by kernel_rfl) (door_met os _)) ?_
 intro W base args ds gs before hval0 hW _ _ hL _
 have hval : ∀ (j : Nat) t v, Tryd.f6.params[j]? = some t → args[j]? = some v → Value.okWide Tryd.prog W .any base t v := hval0
 have hW' := hW
 obtain ⟨p, q, hA0, hV, rfl, hfz, hnd⟩ := hW
 have hA : DataW.TrodAll enc Tryd.prog W 0 (fun _ => true) true Tryd.f6.params.toList args.toList ds p := hA0
 rw [Tryd.params6] at hA hval
 obtain ⟨rfl, rfl, rfl⟩ := trodAll_none hA
 obtain ⟨rfl, rfl⟩ := trodVars_none hV
 clear hA0 hval0
 refine (law_end (iknown_law (tabs_of_laid hL))).mono fun e W' ⟨he, bel⟩ => ?_
 subst he
 exact ⟨_, rfl, _, _, _, [], _, [], hW', trodAll_mk1 (shut_bool Tryd.underlying4 _), trodAll_mk0, rfl, bel.frame _, fun h => by cases h⟩

theorem over : Rows.inflateKnownRow.holds Tryd.pinned (OpenSpec.ofChange Rows.inflateKnownSpec) :=
 OpenClaim.holds_of_wide 6 Tryd.f6 rfl rfl rfl rfl rfl rfl rfl ⟨rfl, rfl, rfl, rfl, rfl⟩ rfl rfl rfl rfl rfl (by kernel_rfl) Tryd.func6 (by kernel_rfl)
  (of_decide_eq_true (by kernel_rfl)) (by unfold Func.isWrapper; first | (rw [if_pos (by decide +kernel)]; kernel_rfl) | (rw [if_neg (by decide +kernel)]; exact ⟨rfl, rfl⟩))
  (fun os started H enc _ => lifted os started H enc)
theorem row_proved : Rows.InflateKnownSaid := over
theorem proved : Rows.InflateKnownCardSaid :=
  Claim7.holds_tied_plain_at .later [] [.widerDeep, .widerDeep, .widerDeep] true (true, "9a734f853da64e0bfdb1da0d583a740f5cda8b5ab57835af3b9eab692fdeb2de") true
    row_proved (fun _ h => by cases h) (by kernel_rfl) (fun _ h => by cases h) inflateKnown_row_tie rfl ⟨rfl, rfl⟩ (by kernel_rfl) rfl
    (fun f fn hf hfn => by
      obtain rfl : f = 6 := Option.some.inj ((show Tryd.prog.funcNamed "portolan/portolanlaw06.InflateKnown" = some 6 by kernel_rfl).symm.trans hf) |>.symm
      obtain rfl : fn = Tryd.f6 := (Option.some.inj (Tryd.func6.symm.trans hfn)).symm
      exact ⟨by kernel_rfl, fun j t ht => by
        rw [Tryd.params6] at ht
        have hm : t ∈ [] := by simpa using Array.mem_of_getElem? ht
        have hall : ([].all fun u => !Tryd.prog.wantsStandIn u) = true := by kernel_rfl
        exact (show Tryd.prog.wantsStandIn t = false by simpa using List.all_eq_true.1 hall t hm)⟩)
    (by kernel_rfl)
#print axioms proved
end Go.Proofs.YtiogaejfcenooaaDoor.inflateKnown

