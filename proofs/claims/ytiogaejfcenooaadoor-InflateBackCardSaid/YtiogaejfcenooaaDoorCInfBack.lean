/- InfBack: the walk of the law: a stream that is written is expanded to what its blocks say. -/
import Derived.Test.YtiogaejfcenooaaDoorCInfEnd
namespace Go.Proofs.YtiogaejfcenooaaDoor
set_option linter.unusedVariables false
set_option linter.unusedSimpArgs false
open Go.RowKit
set_option maxRecDepth 100000 in
set_option maxHeartbeats 16000000 in
theorem iback_any (A B : Option Addr) (n c bn bc : Nat) (ps : List PartV) (bh : List UInt8) (TL TA : Option Addr) (cl ca : Nat) {w0 w : World} {L : List Pr} (H : Sp w0 L w) (hT : Ent L (Tabs TL TA cl ca))
  (hn : n = ps.length) (hc : n ≤ c) (hcm : c ≤ maxLen) (hrd : Ent L fun w => Rd w A (ps.flatMap PartV.cells) ∧ ∀ x ∈ ps, x.Ok w) (hbh : Ent L fun w => Byt w (.slice B bn bc) bh) (hbn : bn = bh.length) (hbc : bn ≤ bc) (hbm : bc ≤ maxLen) :
  Calls Tryd.prog 5 #[.slice A n c, .slice B bn bc] w fun e w' => e = .returned (.bool true) ∧ Sp w0 L w' := by
 obtain ⟨i8, hj, hj0, hj1, hj2⟩ := info_parts info8
 have HT := Lib.hid hT
 have HRD := Lib.hid hrd
 have HBH := Lib.hid hbh
 have HNP := Lib.hid hn
 have HBNL := Lib.hid hbn
 have HW := Lib.hid (pwritten_ok A n c ps H hn hc hcm hrd)
 obtain ⟨lw, hlw⟩ : ∃ lw, ps.map PartV.p = lw := ⟨_, rfl⟩
 rw [hlw] at HW
 have HLW := Lib.hid hlw
 obtain ⟨BW, hBW⟩ : ∃ x, PI.packB (PI.bitsW lw) = x := ⟨_, rfl⟩
 obtain ⟨OW, hOW⟩ : ∃ x, PI.outW lw = x := ⟨_, rfl⟩
 have hlp := PI.partsW_len lw
 have hbl := PI.bitsW_len lw
 have hst := PI.stW_most (PI.partsW lw) (PI.partsW lw).length
 have hBWl : BW.length = ((PI.bitsW lw).length + 7) / 8 := by rw [← hBW]; exact PI.packB_len _
 have hBW1 : 1 ≤ BW.length ∧ BW.length ≤ 100000 := by
  have h2 : (PI.bitsW lw).length ≤ 9403 * (PI.partsW lw).length := hst.1
  omega
 have hOWl : OW.length ≤ 120000 := by
  have h2 : (PI.outW lw).length ≤ 22188 * (PI.partsW lw).length := hst.2
  rw [← hOW]; omega
 rw [hBW, hOW] at HW
 have HBW := Lib.hid hBW
 have HOW := Lib.hid hOW
 have HBWL := Lib.hid hBWl
 clear hT hrd hbh hn hbn hlw H hBW hOW hBWl hbl hst hlp
 go_enter Tryd.func5, Tryd.ntmps5
 go_wp2_with fail
 refine HW.out.mono ?_
 rintro _ w1 ⟨v1, v2, rfl, H1⟩
 obtain ⟨VB, vbc, rfl, hvb1, hvb2⟩ := Row.form H1 0 rfl
 obtain ⟨VW, vwc, rfl, _, _⟩ := Row.form H1 1 rfl
 obtain ⟨b20, hb20⟩ : ∃ q, min bn 20 = q := ⟨_, rfl⟩
 have y1 : min (bn : Int) 20 = (b20 : Int) := by omega
 have hb20c : b20 ≤ bc := by omega
 have y2 : (b20 : Int) ≤ (bc : Int) := by omega
 have hb20n : b20 ≤ 20 ∧ b20 ≤ bn := by omega
 obtain ⟨bl, hbl⟩ : ∃ q, BW.length = q := ⟨_, rfl⟩
 obtain ⟨ol, hol⟩ : ∃ q, OW.length = q := ⟨_, rfl⟩
 rw [hbl, hol] at H1
 rw [hbl] at hBW1 hvb1 ⊢
 rw [hol] at hOWl ⊢
 have HB20 := Lib.hid hb20
 have HBL := Lib.hid hbl
 have HOL := Lib.hid hol
 have hbm2 : bc ≤ 9223372036854775807 := hbm
 have HX1 := Lib.hid ((H1.rowNil 5 1))
 have HRB := Lib.hid (row_ent 1 rfl _ _ HX1.out)
 clear HW H1 hb20 hbl hol hbm
 have hl8 : (cells8 BW).length = bl := by unfold cells8; rw [List.length_map, HBL.out]
 have HL8 := Lib.hid hl8
 clear hl8
 go_wp2_with (at_builtin; refine wpList_append_sp rfl _ _ 24 rfl 5 i8 (.int .u8 0) 1 1 Tryd.underlying24 hj hj0 hj1 hj2 rfl (by decide) (.slice none 0 0) 0 [] rfl HX1.out VB bl vbc (cells8 BW) rfl (by rw [HL8.out, Nat.mul_one]) HRB.out (cells8_one _) (by unfold maxLen; omega) (by omega) ?_)
 intro v3 w3 H3 _
 have hbt : (bh.take 20).length = b20 := by rw [List.length_take, ← HBNL.out, ← HB20.out]; omega
 have hrb : Rd w3 B (cells8 (bh.take 20)) := by
  obtain ⟨B2, c2, e2, r2, _⟩ := HBH.out _ _ (H3.pick 3 [])
  injection e2 with e2 en ec
  clear en ec
  subst e2
  have := r2.part 0 20
  rw [List.drop_zero] at this
  have e : (cells8 bh).take 20 = cells8 (bh.take 20) := by simp [cells8, List.map_take]
  rw [e] at this
  cases B with
  | none => intro hne; obtain ⟨ad, h, _⟩ := this hne; cases h
  | some q => simpa [add0] using this
 have hl9 : (cells8 (bh.take 20)).length = b20 := by unfold cells8; rw [List.length_map, hbt]
 have HL9 := Lib.hid hl9
 have HRB2 := Lib.hid hrb
 have HBT := Lib.hid hbt
 have HX3 := Lib.hid H3
 clear HX1 HRB H3 hbt hrb hl9
 go_wp2_with (at_builtin; refine wpList_append_sp rfl _ _ 24 rfl 5 i8 (.int .u8 0) 1 1 Tryd.underlying24 hj hj0 hj1 hj2 rfl (by decide) _ _ _ rfl HX3.out B b20 bc (cells8 (bh.take 20)) rfl (by rw [HL9.out, Nat.mul_one]) HRB2.out (cells8_one _) (by unfold maxLen; omega) (by omega) ?_)
 intro v4 w4 H4 _
 have e4 : cells8 BW ++ cells8 (bh.take 20) = cells8 (BW ++ bh.take 20) := by simp [cells8]
 have e5 : bl + b20 = (BW ++ bh.take 20).length := by rw [List.length_append, HBL.out, HBT.out]
 have H5 : Sp w0 (Row 5 1 v4 (BW ++ bh.take 20).length (cells8 (BW ++ bh.take 20)) :: Row 5 1 (.slice VB bl vbc) bl (cells8 BW) :: Row 5 1 (.slice VW ol vwc) ol (cells8 OW) :: L) w4 := by
  have h := H4
  first | rw [List.nil_append, e4, Nat.zero_add, e5] at h | rw [List.nil_append, e4, e5] at h | rw [e4, e5] at h
  exact h
 obtain ⟨t4, ht4⟩ : ∃ t4, (BW ++ bh.take 20).length = t4 := ⟨_, rfl⟩
 rw [ht4] at H5
 have ht4l : t4 ≤ 200000 := by rw [← ht4, List.length_append, HBL.out, HBT.out]; omega
 have HT4 := Lib.hid ht4
 clear ht4
 obtain ⟨V4, v4c, rfl, _, _⟩ := Row.form H5 0 rfl
 obtain ⟨lp, hlp⟩ : ∃ lp, PI.partsW lw = lp := ⟨_, rfl⟩
 obtain ⟨nk, hnk⟩ : ∃ nk, lp.length = nk := ⟨_, rfl⟩
 have hnkv : nk = max 1 (min n 5) := by
  rw [← hnk, ← hlp, ← HLW.out]; unfold PI.partsW
  rw [List.length_map, ← HNP.out]
  split
  ·rw [List.length_singleton]; omega
  ·rw [List.length_take, List.length_map, ← HNP.out]; omega
 have hu : ((PI.bitsW lw).length + 7) / 8 = bl := by rw [← HBWL.out, HBL.out]
 have hq1 : PI.all (PBits.ofB (BW ++ bh.take 20)) ol = .ok ((PI.bitsW lw).length, OW, PI.blksW lp) := by
  have h := PI.written_behind lw (bh.take 20) ol (by rw [HOW.out, HOL.out]; exact Nat.le_refl _)
  rw [HBW.out, HOW.out, hlp] at h; exact h
 have hq2 : PI.all (PBits.ofB (BW.take (bl - 1))) ol = .error 4 := by
  have h := PI.written_short lw ol (by rw [HOW.out, HOL.out]; exact Nat.le_refl _)
  rw [HBW.out, HBL.out] at h; exact h
 have hq3 : PI.all (PBits.ofB BW) ol = .ok ((PI.bitsW lw).length, OW, PI.blksW lp) := by
  have h := PI.written_read lw ol (by rw [HOW.out, HOL.out]; exact Nat.le_refl _)
  rw [HBW.out, HOW.out, hlp] at h; exact h
 have hblk : (PI.blksW lp).length = nk := by rw [PI.blksW_len, hnk]
 have HLP := Lib.hid hlp
 have HNK := Lib.hid hnk
 have HNKV := Lib.hid hnkv
 have HU := Lib.hid hu
 have HQ1 := Lib.hid hq1
 have HQ2 := Lib.hid hq2
 have HQ3 := Lib.hid hq3
 have HBLK := Lib.hid hblk
 have HA1 := Lib.hid (xall_ok (.slice V4 t4 v4c) (BW ++ bh.take 20) ol TL TA cl ca H5 (fun w0 w h => byt_row h 0 rfl HT4.out.symm) (by rw [HT4.out]; omega) (by omega) (fun w0 w h => HT.out w0 w (h.pick 3 [])))
 clear hlp hnk hnkv hu hq1 hq2 hq3 hblk e4 e5 HRB2 HX3 H4 H5
 go_wp2_with fail
 refine HA1.out.mono ?_
 intro e9 w5 k9
 obtain ⟨A6, c6, he6, H6⟩ := AEnd.got HQ1.out k9
 simp only [HU.out, HOL.out] at he6 H6
 subst he6
 clear k9 HA1 HQ1
 obtain ⟨bl1, hbl1⟩ : ∃ q, bl - 1 = q := ⟨_, rfl⟩
 rw [hbl1] at HQ2
 have y3 : (bl : Int) - 1 = (bl1 : Int) := by omega
 have y4 : (bl1 : Int) ≤ (vbc : Int) := by omega
 have hb1c : bl1 ≤ vbc := by omega
 have hvbm : vbc ≤ 9223372036854775807 := hvb2
 have htl : (BW.take bl1).length = bl1 := by rw [List.length_take, HBL.out]; omega
 have HTL := Lib.hid htl
 have HA2 := Lib.hid (xall_ok (.slice VB bl1 vbc) (BW.take bl1) ol TL TA cl ca H6 (fun w0 w h => (byt_row h 2 rfl HBL.out.symm).take bl1 (by rw [HBL.out]; omega)) (by rw [htl]; omega) (by omega) (fun w0 w h => HT.out w0 w (h.pick 4 [])))
 clear hbl1 htl
 go_wp2_with fail
 refine HA2.out.mono ?_
 intro e9 w6 k9
 obtain ⟨rfl, H7⟩ := AEnd.bad HQ2.out k9
 clear k9 HA2 HQ2 H6
 have HA3 := Lib.hid (xblocks_ok (.slice VB bl vbc) BW ol TL TA cl ca H7 (fun w0 w h => byt_row h 2 rfl HBL.out.symm) (by rw [HBL.out]; omega) (by omega) (fun w0 w h => HT.out w0 w (h.pick 4 [])))
 go_wp2_with fail
 refine HA3.out.mono ?_
 intro e9 w7 k9
 obtain ⟨A8, c8, he8, H8⟩ := BEnd.got HQ3.out k9
 simp only [HBLK.out] at he8 H8
 subst he8
 clear k9 HA3 HQ3 H7
 have s1 : (convert 24 9 (.slice A6 ol c6)).run Tryd.prog w7 = .ok (.string (strOf OW)) w7 := run_str w7 _ _ 5 _ OW Tryd.underlying24 Tryd.underlying5 Tryd.underlying9 (byt_row H8 1 rfl HOL.out.symm)
 have s2 : (convert 24 9 (.slice VW ol vwc)).run Tryd.prog w7 = .ok (.string (strOf OW)) w7 := run_str w7 _ _ 5 _ OW Tryd.underlying24 Tryd.underlying5 Tryd.underlying9 (byt_row H8 4 rfl HOL.out.symm)
 have y5 : max (1 : Int) (min (n : Int) 5) = (nk : Int) := by have := HNKV.out; omega
 obtain ⟨so, hso⟩ : ∃ so, strOf OW = so := ⟨_, rfl⟩
 rw [hso] at s1 s2
 clear hso
 go_wp2_with fail
 have HX8 := Lib.hid (H8.pick 5 [0])
 clear s1 s2 H8
 go_loopw [15, 92] (fun av iv wr => ∃ i : Nat, iv = .int .i64 (i : Int) ∧ av = .int .i64 ((PI.stW lp i).2.length : Int) ∧ i ≤ nk ∧ Sp w0 (Row 40 4 (.slice A8 nk c8) nk (cellsB (PI.blksW lp)) :: L) wr) (fun _ iv _ => nk - (intOf iv).toNat)
 case atStart => exact ⟨0, rfl, rfl, Nat.zero_le _, HX8.out⟩
 case round =>
  obtain ⟨i, rfl, rfl, hin, H9⟩ := hrel
  clear HX8
  by_cases hlt : i < nk
  ·have k1 : (i : Int) < (nk : Int) := by omega
   have hbg := PI.blksW_get lp i (by rw [HNK.out]; exact hlt)
   obtain ⟨ab, rfl, hrb⟩ := rdBlk (row3 H9 0 rfl) hbg
   have hle := PI.stW_le lp i
   have hmo := PI.stW_most lp (i + 1)
   obtain ⟨kk, hkk⟩ : ∃ q, (lp.getD i ⟨0, [], []⟩).kind % 3 = q := ⟨_, rfl⟩
   obtain ⟨lb, hlb⟩ : ∃ q, decide (i + 1 = lp.length) = q := ⟨_, rfl⟩
   obtain ⟨fm, hfm⟩ : ∃ q, (PI.stW lp i).2.length = q := ⟨_, rfl⟩
   obtain ⟨tz, hto⟩ : ∃ q, (PI.stW lp (i + 1)).2.length = q := ⟨_, rfl⟩
   rw [hkk, hlb, hfm, hto] at hrb
   rw [hfm, hto] at hle
   rw [hto] at hmo
   rw [hfm]
   obtain ⟨nk1, hnk1⟩ : ∃ q, nk - 1 = q := ⟨_, rfl⟩
   have y6 : (nk : Int) - 1 = (nk1 : Int) := by omega
   have kl : ((i : Int) == (nk1 : Int)) = lb := by
    rw [← hlb, HNK.out]
    by_cases e : i + 1 = nk
    ·have : i = nk1 := by omega
     rw [this]; simp; omega
    ·rw [beq_eq_false_iff_ne.2 (by omega)]; simp [e]
   have kt : ¬ (tz : Int) < (fm : Int) := by omega
   have kt2 : decide ((tz : Int) < (fm : Int)) = false := by simp; omega
   have kt3 : decide (tz < fm) = false := by simp; omega
   have HRB := Lib.hid hrb
   have HTO := Lib.hid hto
   have HKK := Lib.hid hkk
   have hnb := H9.newBk [.int .i64 0, .bool false, .int .i64 0, .int .i64 0] 40
   have HNB := Lib.hid hnb
   have HX9 := Lib.hid H9
   clear hrb hbg hkk hlb hfm hto hnk1 hnb H9
   go_wp2_with (first | (refine wpList_load_agg rfl 40 _ rfl (ab.add (i * 4)) (blC ⟨kk, lb, fm, tz⟩) rfl HRB.out Tryd.isAgg40 Tryd.sizeOf40 ?_) | (refine wpList_store_whole rfl 40 _ _ rfl wr.heap.size 40 [.int .i64 0, .bool false, .int .i64 0, .int .i64 0] (blC ⟨kk, lb, fm, tz⟩) rfl rfl HNB.out rfl Tryd.sizeOf40 (by intro u hu; simp only [blC, List.mem_cons, List.mem_nil_iff, or_false] at hu; rcases hu with rfl | rfl | rfl | rfl <;> rfl) ?_))
   intro w8 H10
   generalize wr.heap.size = g17 at H10 ⊢
   have d0 : w8.cell? ⟨g17, 0, none⟩ = some (.int .i64 (kk : Int)) := H10.cell 0 rfl 0
   have d1 : w8.cell? ⟨g17, 1, none⟩ = some (.bool lb) := H10.cell 0 rfl 1
   have d2 : w8.cell? ⟨g17, 2, none⟩ = some (.int .i64 (fm : Int)) := H10.cell 0 rfl 2
   have d3 : w8.cell? ⟨g17, 3, none⟩ = some (.int .i64 (tz : Int)) := H10.cell 0 rfl 3
   clear HNB HRB
   have kk1 : ((kk : Int) != (kk : Int)) = false := by simp
   have kk2 : ((fm : Int) != (fm : Int)) = false := by simp
   have kk3 : (lb != lb) = false := by simp
   by_cases hin2 : i < n
   ·have k2 : (i : Int) < (n : Int) := by omega
    have hip : i < ps.length := by rw [← HNP.out]; exact hin2
    have hget : lp.getD i ⟨0, [], []⟩ = (ps.getD i default).p := by
     rw [← HLP.out, ← HLW.out]
     unfold PI.partsW
     rw [if_neg (by rw [List.length_map, ← HNP.out]; omega), List.getD_eq_getElem?_getD, List.getD_eq_getElem?_getD, List.getElem?_take_of_lt (by have := HNKV.out; omega), List.getElem?_map, List.getElem?_eq_getElem hip]; rfl
    obtain ⟨axp, rfl, hrp⟩ := rdPart (HRD.out _ _ (H10.pick 2 [])).1 hip
    have hrp0 := hrp 0 _ rfl
    rw [add0] at hrp0
    obtain ⟨kd0, hkd0⟩ : ∃ q, (ps.getD i default).p.kind = q := ⟨_, rfl⟩
    rw [hkd0] at hrp0
    have hkdk : kd0 % 3 = kk := by rw [← HKK.out, hget, hkd0]
    have z4 : (kd0 : Int) % 3 = (kk : Int) := by omega
    have hkb : kd0 < 256 := by
     have := ((HRD.out _ _ (H10.pick 2 [])).2 (ps.getD i default) (by rw [List.getD_eq_getElem?_getD, List.getElem?_eq_getElem hip]; exact List.getElem_mem hip)).1
     rw [hkd0] at this; exact this
    clear hget hkd0 hrp hkdk
    go_wp2_with fail
    go_quiet (fail)
    have H11 := H10.drewN nq
    have d3 : (w8.drewN nq).cell? ⟨g17, 3, none⟩ = some (.int .i64 (tz : Int)) := d3
    generalize w8.drewN nq = w9 at H11 d3 ⊢
    clear H10 d0 d1 d2
    go_wp2_with fail
    go_roundw
    case rel => exact ⟨i + 1, by go_num, by rw [HTO.out], by omega, H11.tail⟩
    case measure => first | (simp [intOf]; omega) | simp [intOf]
   ·have k2 : ¬ (i : Int) < (n : Int) := by omega
    have k3 : decide ((i : Int) < (n : Int)) = false := by simp; omega
    have k4 : decide (i < n) = false := by simp; omega
    go_wp2_with fail
    go_quiet (fail)
    have H11 := H10.drewN nq
    have d3 : (w8.drewN nq).cell? ⟨g17, 3, none⟩ = some (.int .i64 (tz : Int)) := d3
    generalize w8.drewN nq = w9 at H11 d3 ⊢
    clear H10 d0 d1 d2
    go_wp2_with fail
    go_roundw
    case rel => exact ⟨i + 1, by go_num, by rw [HTO.out], by omega, H11.tail⟩
    case measure => first | (simp [intOf]; omega) | simp [intOf]
  ·have k1 : ¬ (i : Int) < (nk : Int) := by omega
   obtain rfl : i = nk := by omega
   have hfin : (PI.stW lp i).2.length = ol := by
    rw [← HOL.out, ← HOW.out]; unfold PI.outW
    rw [HLP.out, HNK.out]
   rw [hfin]
   have HTE := Lib.hid (xtells_ok TL TA cl ca H9.tail HT.out)
   clear hfin H9
   go_wp2_with fail
   refine HTE.out.mono ?_
   rintro _ w9 ⟨rfl, H10⟩
   go_wp2_with fail
   go_ret
   exact ⟨rfl, H10⟩
theorem iback_law (A B : Option Addr) (n c bc : Nat) (ps : List PartV) (bh : List UInt8) {W : World} (hT : ∃ TL TA cl ca, Tabs TL TA cl ca W) (hn : n = ps.length) (hc : n ≤ c) (hcm : c ≤ maxLen) (hrd : Rd W A (ps.flatMap PartV.cells)) (hok : ∀ x ∈ ps, x.Ok W) (hb : Byt W (.slice B bh.length bc) bh) :
  Calls Tryd.prog 5 #[.slice A n c, .slice B bh.length bc] W fun e w' => e = .returned (.bool true) ∧ Sp W [Same W] w' := by
 obtain ⟨TL, TA, cl, ca, hT⟩ := hT
 obtain ⟨_, _, e, _, h1, h2⟩ := id hb
 injection e with _ _ e
 subst e
 exact iback_any A B n c bh.length _ ps bh TL TA cl ca (Sp.start W) (tabs_same hT) hn hc hcm (parts_same hrd hok) (Ent.byt 0 rfl hb) rfl h1 h2
end Go.Proofs.YtiogaejfcenooaaDoor
