/- MatchQ: the document's cut. -/
import Derived.Test.YtdlbhoedmaifpaaMatchR
namespace Go.Proofs.Ytdlbhoedmaifpaa
open Go.RowKit Go.MapKept
theorem infoRS : (Try.prog.info? 38).map (fun i => (i.zero, i.size, i.bytes)) = some (some (.agg #[.int .i64 0, .int .i64 0, .int .u8 0]), 3, 24) := by kernel_rfl
set_option maxRecDepth 100000 in
set_option maxHeartbeats 4000000 in
theorem rcut_ok (l : Nat) (d : Int) (A0 : Option Addr) (c : Nat) (B : List UInt8) {w0 w : World} {L : List Pr} (H : Sp w0 L w) (hl : l = B.length) (hb : Ent L (fun w => Byt w (.slice A0 l c) B)) (hlm : l ≤ 100000) :
    Calls Try.prog 18 #[.slice A0 l c, .int .i64 d] w fun e w' => ∃ v, e = .returned (.tuple #[v, .int .i64 (cutE d)]) ∧ Sp w0 (Row 38 3 v (cutL B d).length (stsV (cutL B d)) :: L) w' := by
  obtain ⟨i0, hi, hz0, hz1, hz2⟩ := info_parts infoRS
  have HL := Lib.hid hl
  have HB := Lib.hid hb
  clear hl hb
  unfold cutE cutL
  by_cases h1 : d < 1
  · rw [if_neg (by omega), if_neg (by omega)]
    have k1 : decide (d < 1) = true := decide_eq_true h1
    go_enter Try.func18, Try.ntmps18
    go_wp2
    go_ret2
    exact ⟨_, rfl, H.rowNil _ _⟩
  · have k1 : decide (d < 1) = false := decide_eq_false h1
    by_cases h2 : 32768 < d
    · rw [if_neg (by omega), if_neg (by omega)]
      have k2 : decide (32768 < d) = true := decide_eq_true h2
      go_enter Try.func18, Try.ntmps18
      go_wp2
      go_ret2
      exact ⟨_, rfl, H.rowNil _ _⟩
    · rw [if_pos (by omega), if_pos (by omega)]
      have k2 : decide (32768 < d) = false := decide_eq_false h2
      obtain ⟨D0, hD0⟩ : ∃ D0, d.toNat = D0 := ⟨_, rfl⟩
      rw [hD0]
      go_enter Try.func18, Try.ntmps18
      go_wp2_with fail
      go_loopw [6, 7] (fun lv iv wr => ∃ (q : Nat) (V : Option Addr) (cV : Nat) (D : List PM.St), iv = .int .i64 (q : Int) ∧ lv = .slice V D.length cV ∧ q ≤ l ∧ D.length ≤ q ∧ D ++ PM.cutAt B D0 q = PM.Cut B D0 ∧
          Sp w0 (Row 38 3 (.slice V D.length cV) D.length (stsV D) :: L) wr) (fun _ iv _ => l - (intOf iv).toNat)
      case atStart => exact ⟨0, none, 0, [], rfl, rfl, Nat.zero_le _, Nat.le_refl _, (PM.Cut_at B D0).symm, H.rowNil _ _⟩
      case round =>
        obtain ⟨q, V, cV, D, rfl, rfl, hq, hDq, hcut, H⟩ := hrel
        have HCUT := Lib.hid hcut
        clear hcut
        by_cases hql : q < l
        · have k3 : (q : Int) < (l : Int) := by omega
          obtain ⟨ad, rfl⟩ : ∃ ad, A0 = some ad := by
            obtain ⟨_, _, e, hr, _, _⟩ := HB.out _ _ (H.pick 1 [])
            obtain ⟨ad, e2, _⟩ := hr.at8 (k := q) (by rw [← HL.out]; omega)
            injection e with e
            exact ⟨ad, e.trans e2⟩
          obtain ⟨bx, hbx⟩ : ∃ bx : UInt8, B.getD q 0 = bx := ⟨_, rfl⟩
          have hcell : Ent L (fun w => w.cell? (ad.add q) = some (.int .u8 (bx.toNat : Int))) := HB.out.mono fun w' hw => by
            obtain ⟨_, _, e, hr, _, _⟩ := hw
            have hqB : q < B.length := by rw [← HL.out]; exact hql
            obtain ⟨ad2, e2, hc⟩ := hr.at8 hqB
            injection e with e
            rw [← e] at e2
            injection e2 with e2
            rw [e2, hc, ← hbx, List.getD_eq_getElem?_getD, List.getElem?_eq_getElem hqB]
            rfl
          have HCE := Lib.hid hcell
          have HBX := Lib.hid hbx
          clear hcell hbx
          obtain ⟨b1, hb1⟩ : ∃ b1, (PM.best B q D0).1 = b1 := ⟨_, rfl⟩
          obtain ⟨b2, hb2⟩ : ∃ b2, (PM.best B q D0).2 = b2 := ⟨_, rfl⟩
          obtain ⟨c1, hc1⟩ : ∃ c1, (PM.best B (q + 1) D0).1 = c1 := ⟨_, rfl⟩
          obtain ⟨c2, hc2⟩ : ∃ c2, (PM.best B (q + 1) D0).2 = c2 := ⟨_, rfl⟩
          have hbl : b1 ≤ l - q := by
            rcases PM.best_is B q D0 with h0 | ⟨far, h1, h2, h3, h4, h5, h6⟩
            · rw [← hb1, h0]; exact Nat.zero_le _
            · have := PM.mlen_in (B := B) (p := q - far) (q := q) (by omega)
              rw [← hb1, h5, HL.out]
              show PM.mlen B (q - far) q ≤ _
              omega
          have hbest := rbest_ok l q d (some ad) c B H HL.out (Ent.cons _ HB.out) hq (by omega)
          rw [hD0, hb1, hb2] at hbest
          have HBEST := Lib.hid hbest
          have HB1 := Lib.hid hb1
          have HB2 := Lib.hid hb2
          have HC1 := Lib.hid hc1
          have HC2 := Lib.hid hc2
          clear hbest hb1 hb2 hc1 hc2
          have hlit : (b1 = 0 ∨ b1 < c1) → PM.cutAt B D0 q = (0, 0, bx) :: PM.cutAt B D0 (q + 1) := fun h => by
            rw [PM.cutAt_lit B D0 q (by rw [← HL.out]; exact hql) (by rw [HB1.out, HC1.out]; exact h), HBX.out]
          have hcopy : ¬ (b1 = 0 ∨ b1 < c1) → PM.cutAt B D0 q = (b1, b2, 0) :: PM.cutAt B D0 (q + b1) := fun h => by
            rw [PM.cutAt_copy B D0 q (by rw [← HL.out]; exact hql) (by rw [HB1.out, HC1.out]; exact h), HB1.out, HB2.out]
          have HLIT := Lib.hid hlit
          have HCOPY := Lib.hid hcopy
          clear hlit hcopy
          go_wp2_with fail
          refine HBEST.out.mono ?_
          rintro _ w2 ⟨rfl, H2⟩
          unfold stV
          clear HBEST
          go_wp2_with fail
          have H2b := H2.newBk [.int .i64 (b1 : Int), .int .i64 (b2 : Int), .int .u8 0] 38
          generalize w2.heap.size = s at H2b ⊢
          generalize w2.alloc _ = w3 at H2b ⊢
          clear H2 w2
          have hbest2 := rbest_ok l (q + 1) d (some ad) c B H2b HL.out (Ent.pick 2 [] HB.out) (by omega) (by omega)
          have hqe : ((q + 1 : Nat) : Int) = (q : Int) + 1 := by omega
          rw [hqe, hD0, HC1.out, HC2.out] at hbest2
          refine hbest2.mono ?_
          rintro _ w4 ⟨rfl, H4⟩
          unfold stV
          have t0 : ∀ o, (w4.alloc o).cell? ⟨s, 0, none⟩ = some (.int .i64 (b1 : Int)) := fun o => (H4.alloc o).cell 0 rfl 0
          have t1 : ∀ o, (w4.alloc o).cell? ⟨s, 1, none⟩ = some (.int .i64 (b2 : Int)) := fun o => (H4.alloc o).cell 0 rfl 1
          have t2 : ∀ o, (w4.alloc o).cell? ⟨s, 2, none⟩ = some (.int .u8 0) := fun o => (H4.alloc o).cell 0 rfl 2
          have ce : ∀ o, (w4.alloc o).cell? (ad.add q) = some (.int .u8 (bx.toNat : Int)) := fun o => HCE.out _ _ ((H4.alloc o).pick 2 [])
          clear hbest2 hqe
          by_cases h0 : 0 < b1
          · by_cases hbc : b1 < c1
            · have e3 : 0 < c1 := by omega
              have hsz : (w4.alloc (.cells #[.int .i64 (c1 : Int), .int .i64 (c2 : Int), .int .u8 0] 38)).heap.size = w4.heap.size + 1 := Array.size_push _
              have hr9 : Rd ((w4.alloc (.cells #[.int .i64 (c1 : Int), .int .i64 (c2 : Int), .int .u8 0] 38)).alloc (.cells #[.int .i64 0, .int .i64 0, .int .u8 (bx.toNat : Int)] 38)) (some ⟨w4.heap.size + 1, 0, none⟩) (stCells (0, 0, bx)) := by
                have := Rd.of_blk (Blk.new (w4.alloc (.cells #[.int .i64 (c1 : Int), .int .i64 (c2 : Int), .int .u8 0] 38)) 38 [.int .i64 0, .int .i64 0, .int .u8 (bx.toNat : Int)])
                rwa [hsz] at this
              have HR9 := Lib.hid hr9
              have H9 := ((H4.alloc (.cells #[.int .i64 (c1 : Int), .int .i64 (c2 : Int), .int .u8 0] 38)).alloc (.cells #[.int .i64 0, .int .i64 0, .int .u8 (bx.toNat : Int)] 38)).swap
              have HH9 := Lib.hid H9
              have hct := HLIT.out (by omega)
              have HCT := Lib.hid hct
              clear hr9 H9 hsz hct
              go_wp2_with (at_builtin; refine wpList_append_sp rfl _ _ 35 rfl 38 i0 (.agg #[.int .i64 0, .int .i64 0, .int .u8 0]) 3 24 Try.underlying35 hi hz0 hz1 hz2 rfl (by decide) (.slice V D.length cV) D.length (stsV D) rfl HH9.out (some ⟨w4.heap.size + 1, 0, none⟩) 1 1 (stCells (0, 0, bx)) rfl rfl HR9.out (st_one _) (by unfold maxLen; omega) (by omega) ?_)
              intro v5 w5 H5 _
              clear HH9 HR9
              obtain ⟨V5, c5, rfl, _, _⟩ := Row.form H5 0 rfl
              have y0 : w5.cell? ⟨s, 0, none⟩ = some (.int .i64 (b1 : Int)) := H5.cell 1 rfl 0
              go_wp2_with fail
              go_roundw
              case rel =>
                refine ⟨q + 1, V5, c5, D ++ [(0, 0, bx)], by go_num, by rw [List.length_append]; rfl, by omega, by rw [List.length_append]; show D.length + 1 ≤ _; omega, ?_, ?_⟩
                · rw [← HCUT.out, HCT.out, List.append_assoc]
                  rfl
                · rw [List.length_append, stsV_append, show stsV [(0, 0, bx)] = stCells (0, 0, bx) ++ [] from rfl, List.append_nil]
                  exact H5.pick 2 [0]
              case measure => first | (simp [intOf]; omega) | simp [intOf]
            · by_cases hc0 : 0 < c1
              · have hsz : (w4.alloc (.cells #[.int .i64 (c1 : Int), .int .i64 (c2 : Int), .int .u8 0] 38)).heap.size = w4.heap.size + 1 := Array.size_push _
                have hr9 : Rd ((w4.alloc (.cells #[.int .i64 (c1 : Int), .int .i64 (c2 : Int), .int .u8 0] 38)).alloc (.cells #[.int .i64 (b1 : Int), .int .i64 (b2 : Int), .int .u8 0] 38)) (some ⟨w4.heap.size + 1, 0, none⟩) (stCells (b1, b2, 0)) := by
                  have := Rd.of_blk (Blk.new (w4.alloc (.cells #[.int .i64 (c1 : Int), .int .i64 (c2 : Int), .int .u8 0] 38)) 38 [.int .i64 (b1 : Int), .int .i64 (b2 : Int), .int .u8 0])
                  rwa [hsz] at this
                have HR9 := Lib.hid hr9
                have H9 := ((H4.alloc (.cells #[.int .i64 (c1 : Int), .int .i64 (c2 : Int), .int .u8 0] 38)).alloc (.cells #[.int .i64 (b1 : Int), .int .i64 (b2 : Int), .int .u8 0] 38)).swap
                have HH9 := Lib.hid H9
                have hct := HCOPY.out (by omega)
                have HCT := Lib.hid hct
                clear hr9 H9 hsz hct
                go_wp2_with (at_builtin; refine wpList_append_sp rfl _ _ 35 rfl 38 i0 (.agg #[.int .i64 0, .int .i64 0, .int .u8 0]) 3 24 Try.underlying35 hi hz0 hz1 hz2 rfl (by decide) (.slice V D.length cV) D.length (stsV D) rfl HH9.out (some ⟨w4.heap.size + 1, 0, none⟩) 1 1 (stCells (b1, b2, 0)) rfl rfl HR9.out (st_one _) (by unfold maxLen; omega) (by omega) ?_)
                intro v5 w5 H5 _
                clear HH9 HR9
                obtain ⟨V5, c5, rfl, _, _⟩ := Row.form H5 0 rfl
                have y0 : w5.cell? ⟨s, 0, none⟩ = some (.int .i64 (b1 : Int)) := H5.cell 1 rfl 0
                go_wp2_with fail
                go_roundw
                case rel =>
                  refine ⟨q + b1, V5, c5, D ++ [(b1, b2, 0)], by go_num, by rw [List.length_append]; rfl, by omega, by rw [List.length_append]; show D.length + 1 ≤ _; omega, ?_, ?_⟩
                  · rw [← HCUT.out, HCT.out, List.append_assoc]
                    rfl
                  · rw [List.length_append, stsV_append, show stsV [(b1, b2, 0)] = stCells (b1, b2, 0) ++ [] from rfl, List.append_nil]
                    exact H5.pick 2 [0]
                case measure => first | (simp [intOf]; omega) | simp [intOf]
              · have hsz : (w4.alloc (.cells #[.int .i64 (c1 : Int), .int .i64 (c2 : Int), .int .u8 0] 38)).heap.size = w4.heap.size + 1 := Array.size_push _
                have hr9 : Rd ((w4.alloc (.cells #[.int .i64 (c1 : Int), .int .i64 (c2 : Int), .int .u8 0] 38)).alloc (.cells #[.int .i64 (b1 : Int), .int .i64 (b2 : Int), .int .u8 0] 38)) (some ⟨w4.heap.size + 1, 0, none⟩) (stCells (b1, b2, 0)) := by
                  have := Rd.of_blk (Blk.new (w4.alloc (.cells #[.int .i64 (c1 : Int), .int .i64 (c2 : Int), .int .u8 0] 38)) 38 [.int .i64 (b1 : Int), .int .i64 (b2 : Int), .int .u8 0])
                  rwa [hsz] at this
                have HR9 := Lib.hid hr9
                have H9 := ((H4.alloc (.cells #[.int .i64 (c1 : Int), .int .i64 (c2 : Int), .int .u8 0] 38)).alloc (.cells #[.int .i64 (b1 : Int), .int .i64 (b2 : Int), .int .u8 0] 38)).swap
                have HH9 := Lib.hid H9
                have hct := HCOPY.out (by omega)
                have HCT := Lib.hid hct
                clear hr9 H9 hsz hct
                go_wp2_with (at_builtin; refine wpList_append_sp rfl _ _ 35 rfl 38 i0 (.agg #[.int .i64 0, .int .i64 0, .int .u8 0]) 3 24 Try.underlying35 hi hz0 hz1 hz2 rfl (by decide) (.slice V D.length cV) D.length (stsV D) rfl HH9.out (some ⟨w4.heap.size + 1, 0, none⟩) 1 1 (stCells (b1, b2, 0)) rfl rfl HR9.out (st_one _) (by unfold maxLen; omega) (by omega) ?_)
                intro v5 w5 H5 _
                clear HH9 HR9
                obtain ⟨V5, c5, rfl, _, _⟩ := Row.form H5 0 rfl
                have y0 : w5.cell? ⟨s, 0, none⟩ = some (.int .i64 (b1 : Int)) := H5.cell 1 rfl 0
                go_wp2_with fail
                go_roundw
                case rel =>
                  refine ⟨q + b1, V5, c5, D ++ [(b1, b2, 0)], by go_num, by rw [List.length_append]; rfl, by omega, by rw [List.length_append]; show D.length + 1 ≤ _; omega, ?_, ?_⟩
                  · rw [← HCUT.out, HCT.out, List.append_assoc]
                    rfl
                  · rw [List.length_append, stsV_append, show stsV [(b1, b2, 0)] = stCells (b1, b2, 0) ++ [] from rfl, List.append_nil]
                    exact H5.pick 2 [0]
                case measure => first | (simp [intOf]; omega) | simp [intOf]
          · have hsz : (w4.alloc (.cells #[.int .i64 (c1 : Int), .int .i64 (c2 : Int), .int .u8 0] 38)).heap.size = w4.heap.size + 1 := Array.size_push _
            have hr9 : Rd ((w4.alloc (.cells #[.int .i64 (c1 : Int), .int .i64 (c2 : Int), .int .u8 0] 38)).alloc (.cells #[.int .i64 0, .int .i64 0, .int .u8 (bx.toNat : Int)] 38)) (some ⟨w4.heap.size + 1, 0, none⟩) (stCells (0, 0, bx)) := by
              have := Rd.of_blk (Blk.new (w4.alloc (.cells #[.int .i64 (c1 : Int), .int .i64 (c2 : Int), .int .u8 0] 38)) 38 [.int .i64 0, .int .i64 0, .int .u8 (bx.toNat : Int)])
              rwa [hsz] at this
            have HR9 := Lib.hid hr9
            have H9 := ((H4.alloc (.cells #[.int .i64 (c1 : Int), .int .i64 (c2 : Int), .int .u8 0] 38)).alloc (.cells #[.int .i64 0, .int .i64 0, .int .u8 (bx.toNat : Int)] 38)).swap
            have HH9 := Lib.hid H9
            have hct := HLIT.out (by omega)
            have HCT := Lib.hid hct
            clear hr9 H9 hsz hct
            go_wp2_with (at_builtin; refine wpList_append_sp rfl _ _ 35 rfl 38 i0 (.agg #[.int .i64 0, .int .i64 0, .int .u8 0]) 3 24 Try.underlying35 hi hz0 hz1 hz2 rfl (by decide) (.slice V D.length cV) D.length (stsV D) rfl HH9.out (some ⟨w4.heap.size + 1, 0, none⟩) 1 1 (stCells (0, 0, bx)) rfl rfl HR9.out (st_one _) (by unfold maxLen; omega) (by omega) ?_)
            intro v5 w5 H5 _
            clear HH9 HR9
            obtain ⟨V5, c5, rfl, _, _⟩ := Row.form H5 0 rfl
            have y0 : w5.cell? ⟨s, 0, none⟩ = some (.int .i64 (b1 : Int)) := H5.cell 1 rfl 0
            go_wp2_with fail
            go_roundw
            case rel =>
              refine ⟨q + 1, V5, c5, D ++ [(0, 0, bx)], by go_num, by rw [List.length_append]; rfl, by omega, by rw [List.length_append]; show D.length + 1 ≤ _; omega, ?_, ?_⟩
              · rw [← HCUT.out, HCT.out, List.append_assoc]
                rfl
              · rw [List.length_append, stsV_append, show stsV [(0, 0, bx)] = stCells (0, 0, bx) ++ [] from rfl, List.append_nil]
                exact H5.pick 2 [0]
            case measure => first | (simp [intOf]; omega) | simp [intOf]
        · have k3 : ¬ (q : Int) < (l : Int) := by omega
          go_wp2_with fail
          go_ret2
          refine ⟨_, rfl, ?_⟩
          have e : D = PM.Cut B D0 := by
            rw [← HCUT.out, PM.cutAt_end B D0 q (by rw [← HL.out]; omega), List.append_nil]
          rw [← e]
          exact H
end Go.Proofs.Ytdlbhoedmaifpaa
