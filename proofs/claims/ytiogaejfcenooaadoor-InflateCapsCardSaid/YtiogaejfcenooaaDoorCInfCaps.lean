/- InfCaps: the walk of the law: caps. -/
import Derived.Test.YtiogaejfcenooaaDoorCInfEnd
namespace Go.Proofs.YtiogaejfcenooaaDoor
set_option linter.unusedVariables false
set_option linter.unusedSimpArgs false
open Go.RowKit
theorem str_of (w : World) (v : Value) (l : List UInt8) so (h2 : strOf l = so) (h : Byt w v l) : (convert 24 9 v).run Tryd.prog w = .ok (.string so) w := by rw [← h2]; exact run_str w _ _ 5 _ l Tryd.underlying24 Tryd.underlying5 Tryd.underlying9 h
set_option maxRecDepth 100000 in
set_option maxHeartbeats 32000000 in
theorem icaps_any (A B : Option Addr) (n c bn bc most : Nat) (ps : List PartV) (bh : List UInt8) (TL TA : Option Addr) (cl ca : Nat) {w0 w : World} {L : List Pr} (H : Sp w0 L w) (hT : Ent L (Tabs TL TA cl ca)) (hmost : most ≤ 65535)
  (hn : n = ps.length) (hc : n ≤ c) (hcm : c ≤ maxLen) (hrd : Ent L fun w => Rd w A (ps.flatMap PartV.cells) ∧ ∀ x ∈ ps, x.Ok w) (hbh : Ent L fun w => Byt w (.slice B bn bc) bh) (hbn : bn = bh.length) (hbc : bn ≤ bc) (hbm : bc ≤ maxLen) :
  Calls Tryd.prog 3 #[.slice A n c, .int .u16 (most : Int), .slice B bn bc] w fun e w' => e = .returned (.bool true) ∧ Sp w0 L w' := by
 have HT := Lib.hid hT
 have HBH := Lib.hid hbh
 have HBNL := Lib.hid hbn
 have HW := Lib.hid (pwritten_ok A n c ps H hn hc hcm hrd)
 obtain ⟨lw, hlw⟩ : ∃ lw, ps.map PartV.p = lw := ⟨_, rfl⟩
 rw [hlw] at HW
 obtain ⟨BW, hBW⟩ : ∃ x, PI.packB (PI.bitsW lw) = x := ⟨_, rfl⟩
 obtain ⟨OW, hOW⟩ : ∃ x, PI.outW lw = x := ⟨_, rfl⟩
 have hlp := PI.partsW_len lw
 have hst := PI.stW_most (PI.partsW lw) (PI.partsW lw).length
 have hBWl : BW.length = ((PI.bitsW lw).length + 7) / 8 := by rw [← hBW]; exact PI.packB_len _
 have hBW1 : BW.length ≤ 100000 := by
  have h2 : (PI.bitsW lw).length ≤ 9403 * (PI.partsW lw).length := hst.1
  omega
 have hOWl : OW.length ≤ 120000 := by
  have h2 : (PI.outW lw).length ≤ 22188 * (PI.partsW lw).length := hst.2
  rw [← hOW]; omega
 rw [hBW, hOW] at HW
 obtain ⟨bl, hbl⟩ : ∃ q, BW.length = q := ⟨_, rfl⟩
 obtain ⟨ol, hol⟩ : ∃ q, OW.length = q := ⟨_, rfl⟩
 rw [hbl] at hBW1
 rw [hol] at hOWl
 have hyes : ol ≤ most → PI.all (PBits.ofB BW) most = .ok ((PI.bitsW lw).length, OW, PI.blksW (PI.partsW lw)) := fun h => by
  have h := PI.written_read lw most (by rw [hOW, hol]; exact h)
  rw [hBW, hOW] at h; exact h
 have hno : ∀ m, m < ol → PI.all (PBits.ofB BW) m = .error 22 := fun m h => by
  have h := PI.written_cap lw m (by rw [hOW, hol]; exact h)
  rw [hBW] at h; exact h
 have HY := Lib.hid hyes
 have HN := Lib.hid hno
 have HBL := Lib.hid hbl
 have HOL := Lib.hid hol
 clear hT hbh hrd hn hbn hlw H hBW hOW hBWl hst hlp hyes hno
 go_enter Tryd.func3, Tryd.ntmps3
 go_wp2_with fail
 refine HW.out.mono ?_
 rintro _ w1 ⟨v1, v2, rfl, H1⟩
 obtain ⟨VB, vbc, rfl, hvb1, hvb2⟩ := Row.form H1 0 rfl
 obtain ⟨VW, vwc, rfl, _, _⟩ := Row.form H1 1 rfl
 rw [hbl, hol] at H1
 rw [hbl, hol]
 have HA1 := Lib.hid (xall_ok (.slice VB bl vbc) BW most TL TA cl ca H1 (fun w0 w h => byt_row h 0 rfl HBL.out.symm) (by rw [HBL.out]; omega) (by omega) (fun w0 w h => HT.out w0 w (h.pick 2 [])))
 obtain ⟨b3, hb3⟩ : ∃ q, min bn 300 = q := ⟨_, rfl⟩
 have y1 : min (bn : Int) 300 = (b3 : Int) := by omega
 have hb3c : b3 ≤ bc := by omega
 have y2 : (b3 : Int) ≤ (bc : Int) := by omega
 have hb3n : b3 ≤ 300 ∧ b3 ≤ bn := by omega
 have hbm2 : bc ≤ 9223372036854775807 := hbm
 have hbt : (bh.take b3).length = b3 := by rw [List.length_take, ← HBNL.out]; omega
 have HBT := Lib.hid hbt
 obtain ⟨so, hso⟩ : ∃ so, strOf OW = so := ⟨_, rfl⟩
 clear hbl hol hb3 hbm hbt HW
 go_wp2_with fail
 refine HA1.out.mono ?_
 intro e9 w2 k9
 by_cases hge : ol ≤ most
 ·obtain ⟨A6, c6, he6, H2⟩ := AEnd.got (HY.out hge) k9
  simp only [HOL.out] at he6 H2
  obtain ⟨us, hus⟩ : ∃ us : Int, ((((PI.bitsW lw).length + 7) / 8 : Nat) : Int) = us := ⟨_, rfl⟩
  rw [hus] at he6
  subst he6
  have k1 : (most : Int) ≥ (ol : Int) := by omega
  have s1 := str_of w2 (.slice A6 ol c6) OW so hso (byt_row H2 0 rfl HOL.out.symm)
  have s2 := str_of w2 (.slice VW ol vwc) OW so hso (byt_row H2 2 rfl HOL.out.symm)
  have H3 := H2.pick 3 [1, 2]
  clear k9 HA1 H2 H1 hus hso
  by_cases h0 : 0 < ol
  ·have k2 : (ol : Int) > 0 := by omega
   obtain ⟨ol1, hol1⟩ : ∃ q, ol - 1 = q := ⟨_, rfl⟩
   have y3 : (ol : Int) - 1 = (ol1 : Int) := by omega
   have hlt1 : ol1 < ol := by omega
   have HA2 := Lib.hid (xall_ok (.slice VB bl vbc) BW ol1 TL TA cl ca H3 (fun w0 w h => byt_row h 0 rfl HBL.out.symm) (by rw [HBL.out]; omega) (by omega) (fun w0 w h => HT.out w0 w (h.pick 2 [])))
   clear hol1
   go_wp2_with fail
   refine HA2.out.mono ?_
   intro e9 w3 k9
   obtain ⟨rfl, H4⟩ := AEnd.bad (HN.out ol1 hlt1) k9
   clear k9 HA2 H3
   have HA3 := Lib.hid (xall_ok (.slice B b3 bc) (bh.take b3) most TL TA cl ca H4 (fun w0 w h => (HBH.out w0 w (h.pick 2 [])).take b3 (by rw [← HBNL.out]; omega)) (by rw [HBT.out]; omega) (by omega) (fun w0 w h => HT.out w0 w (h.pick 2 [])))
   go_wp2_with fail
   refine HA3.out.mono ?_
   intro e9 w4 k9
   cases hr : PI.all (PBits.ofB (bh.take b3)) most with
   | error c9 =>
    obtain ⟨rfl, H5⟩ := AEnd.bad hr k9
    have hc9 := PI.all_err hr
    have HTE := Lib.hid (xtells_ok TL TA cl ca H5 (fun w0 w h => HT.out w0 w (h.pick 2 [])))
    clear k9 HA3 hr H4 H5
    rcases hc9 with rfl | rfl | rfl <;> (
     go_wp2_with fail
     refine HTE.out.mono ?_
     rintro _ w9 ⟨rfl, H10⟩
     go_wp2_with fail
     go_ret
     exact ⟨rfl, H10.pick 2 []⟩)
   | ok r =>
    obtain ⟨A7, c7, he7, H5⟩ := AEnd.got hr k9
    have hpos := PI.all_pos hr
    have hag := PI.all_again hr
    rw [PBits.ofB_length, HBT.out] at hpos
    obtain ⟨us, hus⟩ : ∃ us, (r.1 + 7) / 8 = us := ⟨_, rfl⟩
    obtain ⟨ml, hml⟩ : ∃ ml, r.2.1.length = ml := ⟨_, rfl⟩
    rw [hus, hml] at he7
    rw [hus, hml] at hag
    rw [hml] at H5 hpos
    subst he7
    have hus3 : us ≤ b3 := by omega
    have HML := Lib.hid hml
    have HUS := Lib.hid hus
    have HAG := Lib.hid hag
    have htt : (bh.take b3).take us = bh.take us := by rw [List.take_take, Nat.min_eq_left hus3]
    have y8 : (us : Int) ≤ (bc : Int) := by omega
    have hub : us ≤ bc := by omega
    have y9 : (ml : Int) ≤ (most : Int) := by omega
    have y10 : (us : Int) ≤ (b3 : Int) := by omega
    have hml2 := hpos.2
    have HA4 := Lib.hid (xall_ok (.slice B us bc) ((bh.take b3).take us) ml TL TA cl ca H5 (fun w0 w h => by rw [htt]; exact (HBH.out w0 w (h.pick 3 [])).take us (by rw [← HBNL.out]; omega)) (by rw [List.length_take, HBT.out]; omega) (by omega) (fun w0 w h => HT.out w0 w (h.pick 3 [])))
    clear k9 HA3 hr H4 hpos hus hml hag htt
    go_wp2_with fail
    refine HA4.out.mono ?_
    intro e9 w5 k9
    obtain ⟨A8, c8, he8, H6⟩ := AEnd.got HAG.out k9
    simp only [HUS.out, HML.out] at he8 H6
    subst he8
    obtain ⟨sm, hsm⟩ : ∃ so, strOf r.2.1 = so := ⟨_, rfl⟩
    have t1 := str_of w5 (.slice A8 ml c8) r.2.1 sm hsm (byt_row H6 0 rfl HML.out.symm)
    have t2 := str_of w5 (.slice A7 ml c7) r.2.1 sm hsm (byt_row H6 1 rfl HML.out.symm)
    have HTE := Lib.hid (xtells_ok TL TA cl ca H6 (fun w0 w h => HT.out w0 w (h.pick 4 [])))
    clear k9 HA4 hsm H5 H6
    go_wp2_with fail
    refine HTE.out.mono ?_
    rintro _ w9 ⟨rfl, H10⟩
    go_wp2_with fail
    go_ret
    exact ⟨rfl, H10.pick 4 []⟩
  ·have k2 : ¬ (ol : Int) > 0 := by omega
   have H4 := H3
   clear H3
   have HA3 := Lib.hid (xall_ok (.slice B b3 bc) (bh.take b3) most TL TA cl ca H4 (fun w0 w h => (HBH.out w0 w (h.pick 2 [])).take b3 (by rw [← HBNL.out]; omega)) (by rw [HBT.out]; omega) (by omega) (fun w0 w h => HT.out w0 w (h.pick 2 [])))
   go_wp2_with fail
   refine HA3.out.mono ?_
   intro e9 w4 k9
   cases hr : PI.all (PBits.ofB (bh.take b3)) most with
   | error c9 =>
    obtain ⟨rfl, H5⟩ := AEnd.bad hr k9
    have hc9 := PI.all_err hr
    have HTE := Lib.hid (xtells_ok TL TA cl ca H5 (fun w0 w h => HT.out w0 w (h.pick 2 [])))
    clear k9 HA3 hr H4 H5
    rcases hc9 with rfl | rfl | rfl <;> (
     go_wp2_with fail
     refine HTE.out.mono ?_
     rintro _ w9 ⟨rfl, H10⟩
     go_wp2_with fail
     go_ret
     exact ⟨rfl, H10.pick 2 []⟩)
   | ok r =>
    obtain ⟨A7, c7, he7, H5⟩ := AEnd.got hr k9
    have hpos := PI.all_pos hr
    have hag := PI.all_again hr
    rw [PBits.ofB_length, HBT.out] at hpos
    obtain ⟨us, hus⟩ : ∃ us, (r.1 + 7) / 8 = us := ⟨_, rfl⟩
    obtain ⟨ml, hml⟩ : ∃ ml, r.2.1.length = ml := ⟨_, rfl⟩
    rw [hus, hml] at he7
    rw [hus, hml] at hag
    rw [hml] at H5 hpos
    subst he7
    have hus3 : us ≤ b3 := by omega
    have HML := Lib.hid hml
    have HUS := Lib.hid hus
    have HAG := Lib.hid hag
    have htt : (bh.take b3).take us = bh.take us := by rw [List.take_take, Nat.min_eq_left hus3]
    have y8 : (us : Int) ≤ (bc : Int) := by omega
    have hub : us ≤ bc := by omega
    have y9 : (ml : Int) ≤ (most : Int) := by omega
    have y10 : (us : Int) ≤ (b3 : Int) := by omega
    have hml2 := hpos.2
    have HA4 := Lib.hid (xall_ok (.slice B us bc) ((bh.take b3).take us) ml TL TA cl ca H5 (fun w0 w h => by rw [htt]; exact (HBH.out w0 w (h.pick 3 [])).take us (by rw [← HBNL.out]; omega)) (by rw [List.length_take, HBT.out]; omega) (by omega) (fun w0 w h => HT.out w0 w (h.pick 3 [])))
    clear k9 HA3 hr H4 hpos hus hml hag htt
    go_wp2_with fail
    refine HA4.out.mono ?_
    intro e9 w5 k9
    obtain ⟨A8, c8, he8, H6⟩ := AEnd.got HAG.out k9
    simp only [HUS.out, HML.out] at he8 H6
    subst he8
    obtain ⟨sm, hsm⟩ : ∃ so, strOf r.2.1 = so := ⟨_, rfl⟩
    have t1 := str_of w5 (.slice A8 ml c8) r.2.1 sm hsm (byt_row H6 0 rfl HML.out.symm)
    have t2 := str_of w5 (.slice A7 ml c7) r.2.1 sm hsm (byt_row H6 1 rfl HML.out.symm)
    have HTE := Lib.hid (xtells_ok TL TA cl ca H6 (fun w0 w h => HT.out w0 w (h.pick 4 [])))
    clear k9 HA4 hsm H5 H6
    go_wp2_with fail
    refine HTE.out.mono ?_
    rintro _ w9 ⟨rfl, H10⟩
    go_wp2_with fail
    go_ret
    exact ⟨rfl, H10.pick 4 []⟩
 ·obtain ⟨rfl, H3⟩ := AEnd.bad (HN.out most (by omega)) k9
  have k1 : ¬ (most : Int) ≥ (ol : Int) := by omega
  clear k9 HA1 H1 hso
  by_cases h0 : 0 < ol
  ·have k2 : (ol : Int) > 0 := by omega
   obtain ⟨ol1, hol1⟩ : ∃ q, ol - 1 = q := ⟨_, rfl⟩
   have y3 : (ol : Int) - 1 = (ol1 : Int) := by omega
   have hlt1 : ol1 < ol := by omega
   have HA2 := Lib.hid (xall_ok (.slice VB bl vbc) BW ol1 TL TA cl ca H3 (fun w0 w h => byt_row h 0 rfl HBL.out.symm) (by rw [HBL.out]; omega) (by omega) (fun w0 w h => HT.out w0 w (h.pick 2 [])))
   clear hol1
   go_wp2_with fail
   refine HA2.out.mono ?_
   intro e9 w3 k9
   obtain ⟨rfl, H4⟩ := AEnd.bad (HN.out ol1 hlt1) k9
   clear k9 HA2 H3
   have HA3 := Lib.hid (xall_ok (.slice B b3 bc) (bh.take b3) most TL TA cl ca H4 (fun w0 w h => (HBH.out w0 w (h.pick 2 [])).take b3 (by rw [← HBNL.out]; omega)) (by rw [HBT.out]; omega) (by omega) (fun w0 w h => HT.out w0 w (h.pick 2 [])))
   go_wp2_with fail
   refine HA3.out.mono ?_
   intro e9 w4 k9
   cases hr : PI.all (PBits.ofB (bh.take b3)) most with
   | error c9 =>
    obtain ⟨rfl, H5⟩ := AEnd.bad hr k9
    have hc9 := PI.all_err hr
    have HTE := Lib.hid (xtells_ok TL TA cl ca H5 (fun w0 w h => HT.out w0 w (h.pick 2 [])))
    clear k9 HA3 hr H4 H5
    rcases hc9 with rfl | rfl | rfl <;> (
     go_wp2_with fail
     refine HTE.out.mono ?_
     rintro _ w9 ⟨rfl, H10⟩
     go_wp2_with fail
     go_ret
     exact ⟨rfl, H10.pick 2 []⟩)
   | ok r =>
    obtain ⟨A7, c7, he7, H5⟩ := AEnd.got hr k9
    have hpos := PI.all_pos hr
    have hag := PI.all_again hr
    rw [PBits.ofB_length, HBT.out] at hpos
    obtain ⟨us, hus⟩ : ∃ us, (r.1 + 7) / 8 = us := ⟨_, rfl⟩
    obtain ⟨ml, hml⟩ : ∃ ml, r.2.1.length = ml := ⟨_, rfl⟩
    rw [hus, hml] at he7
    rw [hus, hml] at hag
    rw [hml] at H5 hpos
    subst he7
    have hus3 : us ≤ b3 := by omega
    have HML := Lib.hid hml
    have HUS := Lib.hid hus
    have HAG := Lib.hid hag
    have htt : (bh.take b3).take us = bh.take us := by rw [List.take_take, Nat.min_eq_left hus3]
    have y8 : (us : Int) ≤ (bc : Int) := by omega
    have hub : us ≤ bc := by omega
    have y9 : (ml : Int) ≤ (most : Int) := by omega
    have y10 : (us : Int) ≤ (b3 : Int) := by omega
    have hml2 := hpos.2
    have HA4 := Lib.hid (xall_ok (.slice B us bc) ((bh.take b3).take us) ml TL TA cl ca H5 (fun w0 w h => by rw [htt]; exact (HBH.out w0 w (h.pick 3 [])).take us (by rw [← HBNL.out]; omega)) (by rw [List.length_take, HBT.out]; omega) (by omega) (fun w0 w h => HT.out w0 w (h.pick 3 [])))
    clear k9 HA3 hr H4 hpos hus hml hag htt
    go_wp2_with fail
    refine HA4.out.mono ?_
    intro e9 w5 k9
    obtain ⟨A8, c8, he8, H6⟩ := AEnd.got HAG.out k9
    simp only [HUS.out, HML.out] at he8 H6
    subst he8
    obtain ⟨sm, hsm⟩ : ∃ so, strOf r.2.1 = so := ⟨_, rfl⟩
    have t1 := str_of w5 (.slice A8 ml c8) r.2.1 sm hsm (byt_row H6 0 rfl HML.out.symm)
    have t2 := str_of w5 (.slice A7 ml c7) r.2.1 sm hsm (byt_row H6 1 rfl HML.out.symm)
    have HTE := Lib.hid (xtells_ok TL TA cl ca H6 (fun w0 w h => HT.out w0 w (h.pick 4 [])))
    clear k9 HA4 hsm H5 H6
    go_wp2_with fail
    refine HTE.out.mono ?_
    rintro _ w9 ⟨rfl, H10⟩
    go_wp2_with fail
    go_ret
    exact ⟨rfl, H10.pick 4 []⟩
  ·have k2 : ¬ (ol : Int) > 0 := by omega
   have H4 := H3
   clear H3
   have HA3 := Lib.hid (xall_ok (.slice B b3 bc) (bh.take b3) most TL TA cl ca H4 (fun w0 w h => (HBH.out w0 w (h.pick 2 [])).take b3 (by rw [← HBNL.out]; omega)) (by rw [HBT.out]; omega) (by omega) (fun w0 w h => HT.out w0 w (h.pick 2 [])))
   go_wp2_with fail
   refine HA3.out.mono ?_
   intro e9 w4 k9
   cases hr : PI.all (PBits.ofB (bh.take b3)) most with
   | error c9 =>
    obtain ⟨rfl, H5⟩ := AEnd.bad hr k9
    have hc9 := PI.all_err hr
    have HTE := Lib.hid (xtells_ok TL TA cl ca H5 (fun w0 w h => HT.out w0 w (h.pick 2 [])))
    clear k9 HA3 hr H4 H5
    rcases hc9 with rfl | rfl | rfl <;> (
     go_wp2_with fail
     refine HTE.out.mono ?_
     rintro _ w9 ⟨rfl, H10⟩
     go_wp2_with fail
     go_ret
     exact ⟨rfl, H10.pick 2 []⟩)
   | ok r =>
    obtain ⟨A7, c7, he7, H5⟩ := AEnd.got hr k9
    have hpos := PI.all_pos hr
    have hag := PI.all_again hr
    rw [PBits.ofB_length, HBT.out] at hpos
    obtain ⟨us, hus⟩ : ∃ us, (r.1 + 7) / 8 = us := ⟨_, rfl⟩
    obtain ⟨ml, hml⟩ : ∃ ml, r.2.1.length = ml := ⟨_, rfl⟩
    rw [hus, hml] at he7
    rw [hus, hml] at hag
    rw [hml] at H5 hpos
    subst he7
    have hus3 : us ≤ b3 := by omega
    have HML := Lib.hid hml
    have HUS := Lib.hid hus
    have HAG := Lib.hid hag
    have htt : (bh.take b3).take us = bh.take us := by rw [List.take_take, Nat.min_eq_left hus3]
    have y8 : (us : Int) ≤ (bc : Int) := by omega
    have hub : us ≤ bc := by omega
    have y9 : (ml : Int) ≤ (most : Int) := by omega
    have y10 : (us : Int) ≤ (b3 : Int) := by omega
    have hml2 := hpos.2
    have HA4 := Lib.hid (xall_ok (.slice B us bc) ((bh.take b3).take us) ml TL TA cl ca H5 (fun w0 w h => by rw [htt]; exact (HBH.out w0 w (h.pick 3 [])).take us (by rw [← HBNL.out]; omega)) (by rw [List.length_take, HBT.out]; omega) (by omega) (fun w0 w h => HT.out w0 w (h.pick 3 [])))
    clear k9 HA3 hr H4 hpos hus hml hag htt
    go_wp2_with fail
    refine HA4.out.mono ?_
    intro e9 w5 k9
    obtain ⟨A8, c8, he8, H6⟩ := AEnd.got HAG.out k9
    simp only [HUS.out, HML.out] at he8 H6
    subst he8
    obtain ⟨sm, hsm⟩ : ∃ so, strOf r.2.1 = so := ⟨_, rfl⟩
    have t1 := str_of w5 (.slice A8 ml c8) r.2.1 sm hsm (byt_row H6 0 rfl HML.out.symm)
    have t2 := str_of w5 (.slice A7 ml c7) r.2.1 sm hsm (byt_row H6 1 rfl HML.out.symm)
    have HTE := Lib.hid (xtells_ok TL TA cl ca H6 (fun w0 w h => HT.out w0 w (h.pick 4 [])))
    clear k9 HA4 hsm H5 H6
    go_wp2_with fail
    refine HTE.out.mono ?_
    rintro _ w9 ⟨rfl, H10⟩
    go_wp2_with fail
    go_ret
    exact ⟨rfl, H10.pick 4 []⟩
theorem icaps_law (A B : Option Addr) (n c bc most : Nat) (ps : List PartV) (bh : List UInt8) {W : World} (hT : ∃ TL TA cl ca, Tabs TL TA cl ca W) (hn : n = ps.length) (hc : n ≤ c) (hcm : c ≤ maxLen) (hrd : Rd W A (ps.flatMap PartV.cells)) (hok : ∀ x ∈ ps, x.Ok W) (hb : Byt W (.slice B bh.length bc) bh) (hmost : most ≤ 65535) :
  Calls Tryd.prog 3 #[.slice A n c, .int .u16 (most : Int), .slice B bh.length bc] W fun e w' => e = .returned (.bool true) ∧ Sp W [Same W] w' := by
 obtain ⟨TL, TA, cl, ca, hT⟩ := hT
 obtain ⟨_, _, e, _, h1, h2⟩ := id hb
 injection e with _ _ e
 subst e
 exact icaps_any A B n c bh.length _ most ps bh TL TA cl ca (Sp.start W) (tabs_same hT) hmost hn hc hcm (parts_same hrd hok) (Ent.byt 0 rfl hb) rfl h1 h2
end Go.Proofs.YtiogaejfcenooaaDoor
