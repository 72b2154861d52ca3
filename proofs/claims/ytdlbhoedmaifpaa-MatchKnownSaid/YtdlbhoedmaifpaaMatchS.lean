/- MatchS: the cut, by a finder. -/
import Derived.Test.YtdlbhoedmaifpaaMatchC
namespace Go.Proofs.Ytdlbhoedmaifpaa
open Go.RowKit Go.MapKept
def stCells (s : PM.St) : List Value := [.int .i64 (s.1 : Int), .int .i64 (s.2.1 : Int), .int .u8 (s.2.2.toNat : Int)]
def stsV (l : List PM.St) : List Value := l.flatMap stCells
theorem stsV_append (a b : List PM.St) : stsV (a ++ b) = stsV a ++ stsV b := by simp [stsV]
theorem stsV_length (l : List PM.St) : (stsV l).length = l.length * 3 := by
  induction l with
  | nil => rfl
  | cons s l ih =>
    show (stCells s ++ stsV l).length = _
    rw [List.length_append, ih, List.length_cons]
    show 3 + _ = _
    omega
theorem infoS : (Try.prog.info? 25).map (fun i => (i.zero, i.size, i.bytes)) = some (some (.agg #[.int .i64 0, .int .i64 0, .int .u8 0]), 3, 24) := by kernel_rfl
theorem st_one (s : PM.St) : ∀ u ∈ stCells s, u.oneCell' = true := by
  intro u hu
  simp only [stCells, List.mem_cons, List.not_mem_nil, or_false] at hu
  rcases hu with rfl | rfl | rfl <;> rfl
set_option maxRecDepth 100000 in
set_option maxHeartbeats 4000000 in
theorem steps_ok (g l d : Nat) (A0 : Option Addr) (c : Nat) (B : List UInt8) {w0 w : World} {L : List Pr} (H : Sp w0 (Fd g (.slice A0 l c) B (d : Int) 0 :: L) w) (hl : l = B.length) (hb : Ent L (fun w => Byt w (.slice A0 l c) B)) (hlm : l ≤ 1000000) :
    Calls Try.prog 47 #[.slice A0 l c, .func (.func 45) #[.pointer (some ⟨g, 0, none⟩)] #[]] w (Ret fun v w' => Sp w0 (Row 25 3 v (PM.Cut B d).length (stsV (PM.Cut B d)) :: L) w') := by
  obtain ⟨i0, hi, hz0, hz1, hz2⟩ := info_parts infoS
  have HL := Lib.hid hl
  have HB := Lib.hid hb
  clear hl hb
  go_enter Try.func47, Try.ntmps47
  go_wp2
  go_loopw [5, 6] (fun lv iv wr => ∃ (q n : Nat) (V : Option Addr) (cV : Nat) (D : List PM.St), iv = .int .i64 (q : Int) ∧ lv = .slice V D.length cV ∧ q ≤ l ∧ n ≤ q ∧ D.length ≤ q ∧ D ++ PM.cutAt B d q = PM.Cut B d ∧
      Sp w0 (Row 25 3 (.slice V D.length cV) D.length (stsV D) :: Fd g (.slice A0 l c) B (d : Int) n :: L) wr) (fun _ iv _ => l - (intOf iv).toNat)
  case atStart => exact ⟨0, 0, none, 0, [], rfl, rfl, Nat.zero_le _, Nat.le_refl _, Nat.le_refl _, (PM.Cut_at B d).symm, H.rowNil _ _⟩
  case round =>
    obtain ⟨q, n, V, cV, D, rfl, rfl, hq, hn, hDq, hcut, H⟩ := hrel
    have HCUT := Lib.hid hcut
    clear hcut
    by_cases hql : q < l
    · have k1 : decide ((q : Int) < (l : Int)) = true := decide_eq_true (by omega)
      obtain ⟨ad, rfl⟩ : ∃ ad, A0 = some ad := by
        obtain ⟨_, _, e, hr, _, _⟩ := HB.out _ _ (H.pick 2 [])
        obtain ⟨ad, e2, _⟩ := hr.at8 (k := q) (by rw [← HL.out]; omega)
        injection e with e
        exact ⟨ad, e.trans e2⟩
      obtain ⟨bx, hbx⟩ : ∃ bx : UInt8, B.getD q 0 = bx := ⟨_, rfl⟩
      have hcell : Ent L (fun w => w.cell? (ad.add q) = some (.int .u8 (bx.toNat : Int))) := HB.out.mono fun w' hw => by
        obtain ⟨_, _, e, hr, _, _⟩ := hw
        have hqB : q < B.length := by rw [← HL.out]; exact hql
        obtain ⟨ad2, e2, hc⟩ := hr.at8 hqB
        injection e with e
        rw [← e] at e2
        injection e2 with e2
        rw [e2, hc, ← hbx, List.getD_eq_getElem?_getD, List.getElem?_eq_getElem hqB]
        rfl
      have HCE := Lib.hid hcell
      have HBX := Lib.hid hbx
      clear hcell hbx
      obtain ⟨b1, hb1⟩ : ∃ b1, (PM.best B q d).1 = b1 := ⟨_, rfl⟩
      obtain ⟨b2, hb2⟩ : ∃ b2, (PM.best B q d).2 = b2 := ⟨_, rfl⟩
      have hbl : b1 ≤ l - q := by
        rcases PM.best_is B q d with h0 | ⟨far, h1, h2, h3, h4, h5, h6⟩
        · rw [← hb1, h0]; exact Nat.zero_le _
        · have := PM.mlen_in (B := B) (p := q - far) (q := q) (by omega)
          rw [← hb1, h5, HL.out]
          show PM.mlen B (q - far) q ≤ _
          omega
      have HB1 := Lib.hid hb1
      have HB2 := Lib.hid hb2
      have hbest := best_ok g q n l d (some ad) c B H.swap HL.out (Ent.cons _ HB.out) (by omega) (by omega) hn
      rw [hb1, hb2] at hbest
      have HBEST := Lib.hid hbest
      clear hb1 hb2 hbest
      by_cases h0 : b1 = 0
      · have e0 : decide (0 < b1) = false := decide_eq_false (by omega)
        rw [e0] at HBEST
        go_wp2_with fail
        refine HBEST.out.mono ?_
        rintro _ w2 ⟨n2, hn2, rfl, H2⟩
        unfold stV
        have ce : ∀ o, (w2.alloc o).cell? (ad.add q) = some (.int .u8 (bx.toNat : Int)) := fun o => HCE.out _ _ ((H2.alloc o).pick 2 [])
        have hsz : (w2.alloc (.cells #[.int .i64 0, .int .i64 0, .int .u8 (bx.toNat : Int)] 25)).heap.size = w2.heap.size + 1 := Array.size_push _
        have hr9 : Rd ((w2.alloc (.cells #[.int .i64 0, .int .i64 0, .int .u8 (bx.toNat : Int)] 25)).alloc (.cells #[.int .i64 0, .int .i64 0, .int .u8 (bx.toNat : Int)] 25)) (some ⟨w2.heap.size + 1, 0, none⟩) (stCells (0, 0, bx)) := by
          have := Rd.of_blk (Blk.new (w2.alloc (.cells #[.int .i64 0, .int .i64 0, .int .u8 (bx.toNat : Int)] 25)) 25 [.int .i64 0, .int .i64 0, .int .u8 (bx.toNat : Int)])
          rwa [hsz] at this
        have HR9 := Lib.hid hr9
        have H9 := ((H2.newBk [.int .i64 0, .int .i64 0, .int .u8 (bx.toNat : Int)] 25).pick 3 [2, 0, 1]).alloc (.cells #[.int .i64 0, .int .i64 0, .int .u8 (bx.toNat : Int)] 25)
        have HH9 := Lib.hid H9
        clear hr9 H9 hsz
        go_wp2_with (at_builtin; refine wpList_append_sp rfl _ _ 31 rfl 25 i0 (.agg #[.int .i64 0, .int .i64 0, .int .u8 0]) 3 24 Try.underlying31 hi hz0 hz1 hz2 rfl (by decide) (.slice V D.length cV) D.length (stsV D) rfl HH9.out (some ⟨w2.heap.size + 1, 0, none⟩) 1 1 (stCells (0, 0, bx)) rfl rfl HR9.out (st_one _) (by unfold maxLen; omega) (by omega) ?_)
        intro v5 w5 H5 _
        clear HH9 HR9
        obtain ⟨V5, c5, rfl, _, _⟩ := Row.form H5 0 rfl
        generalize w2.heap.size = s at H5 ⊢
        have t0 := H5.cell 1 rfl 0
        have t1 := H5.cell 1 rfl 1
        have t2 := H5.cell 1 rfl 2
        simp only [List.getElem?_cons_zero, List.getElem?_cons_succ] at t0 t1 t2
        clear ce
        go_wp2_with fail
        refine (made_ok (0, 0, bx) _).mono ?_
        rintro _ w6 ⟨rfl, K6⟩
        have H6 := K6.sep H5
        have hmade : PM.made (0, 0, bx) = 1 := rfl
        rw [hmade]
        go_wp2
        go_roundw
        case rel =>
          refine ⟨q + 1, n2, V5, c5, D ++ [(0, 0, bx)], by go_num, by rw [List.length_append]; rfl, by omega, by omega, by rw [List.length_append]; show D.length + 1 ≤ _; omega, ?_, ?_⟩
          · rw [← HCUT.out, PM.cutAt_lit B d q (by rw [← HL.out]; exact hql) (.inl (by rw [HB1.out]; exact h0)), HBX.out, List.append_assoc]
            rfl
          · rw [List.length_append, stsV_append, show stsV [(0, 0, bx)] = stCells (0, 0, bx) ++ [] from rfl, List.append_nil]
            exact H6.pick 3 [0, 2]
        case measure => simp [intOf]; omega
      · have e0 : decide (0 < b1) = true := decide_eq_true (by omega)
        rw [e0] at HBEST
        by_cases hq1 : q + 1 < l
        · have k2 : decide ((q : Int) + 1 < (l : Int)) = true := decide_eq_true (by omega)
          go_wp2_with fail
          refine HBEST.out.mono ?_
          rintro _ w2 ⟨n2, hn2, rfl, H2⟩
          unfold stV
          go_wp2_with fail
          have H2b := (H2.newBk [.int .i64 (b1 : Int), .int .i64 (b2 : Int), .int .u8 0] 25).swap
          generalize w2.heap.size = s at H2b ⊢
          generalize w2.alloc _ = w3 at H2b ⊢
          clear H2 w2
          have hbest2 := best_ok g (q + 1) n2 l d (some ad) c B H2b HL.out (Ent.pick 2 [] HB.out) (by omega) (by omega) (by omega)
          obtain ⟨c1, hc1⟩ : ∃ c1, (PM.best B (q + 1) d).1 = c1 := ⟨_, rfl⟩
          obtain ⟨c2, hc2⟩ : ∃ c2, (PM.best B (q + 1) d).2 = c2 := ⟨_, rfl⟩
          have hqe : ((q + 1 : Nat) : Int) = (q : Int) + 1 := by omega
          rw [hqe, hc1, hc2] at hbest2
          have HC1 := Lib.hid hc1
          have HC2 := Lib.hid hc2
          clear hqe hc1 hc2 H2b
          refine hbest2.mono ?_
          rintro _ w4 ⟨n3, hn3, rfl, H4⟩
          unfold stV
          have t0 : ∀ o, (w4.alloc o).cell? ⟨s, 0, none⟩ = some (.int .i64 (b1 : Int)) := fun o => (H4.alloc o).cell 1 rfl 0
          have t1 : ∀ o, (w4.alloc o).cell? ⟨s, 1, none⟩ = some (.int .i64 (b2 : Int)) := fun o => (H4.alloc o).cell 1 rfl 1
          have t2 : ∀ o, (w4.alloc o).cell? ⟨s, 2, none⟩ = some (.int .u8 0) := fun o => (H4.alloc o).cell 1 rfl 2
          have z0 : ∀ o, (w4.alloc o).frozen? ⟨s, 0, none⟩ = false := fun o => (H4.alloc o).frozen 1 rfl 0
          have z1 : ∀ o, (w4.alloc o).frozen? ⟨s, 1, none⟩ = false := fun o => (H4.alloc o).frozen 1 rfl 1
          have z2 : ∀ o, (w4.alloc o).frozen? ⟨s, 2, none⟩ = false := fun o => (H4.alloc o).frozen 1 rfl 2
          have ce : ∀ o, (w4.alloc o).cell? (ad.add q) = some (.int .u8 (bx.toNat : Int)) := fun o => HCE.out _ _ ((H4.alloc o).pick 3 [])
          clear hbest2
          by_cases hbc : b1 < c1
          · have e1 : decide (0 < c1) = true := decide_eq_true (by omega)
            have e2 : decide (b1 < c1) = true := decide_eq_true hbc
            rw [e1]
            have hlit : PM.cutAt B d q = (0, 0, bx) :: PM.cutAt B d (q + 1) := by
              rw [PM.cutAt_lit B d q (by rw [← HL.out]; exact hql) (.inr (by rw [HB1.out, HC1.out]; exact hbc)), HBX.out]
            have HLIT := Lib.hid hlit
            clear hlit
            have hsz : ((((w4.alloc (.cells #[.int .i64 (c1 : Int), .int .i64 (c2 : Int), .int .u8 0] 25)).setCell ⟨s, 0, none⟩ (.int .i64 0)).setCell ⟨s, 1, none⟩ (.int .i64 0)).setCell ⟨s, 2, none⟩ (.int .u8 (bx.toNat : Int))).heap.size = w4.heap.size + 1 := by simp [World.setCell]
            have hr9 : Rd (((((w4.alloc (.cells #[.int .i64 (c1 : Int), .int .i64 (c2 : Int), .int .u8 0] 25)).setCell ⟨s, 0, none⟩ (.int .i64 0)).setCell ⟨s, 1, none⟩ (.int .i64 0)).setCell ⟨s, 2, none⟩ (.int .u8 (bx.toNat : Int))).alloc (.cells #[.int .i64 0, .int .i64 0, .int .u8 (bx.toNat : Int)] 25)) (some ⟨w4.heap.size + 1, 0, none⟩) (stCells (0, 0, bx)) := by
              have := Rd.of_blk (Blk.new ((((w4.alloc (.cells #[.int .i64 (c1 : Int), .int .i64 (c2 : Int), .int .u8 0] 25)).setCell ⟨s, 0, none⟩ (.int .i64 0)).setCell ⟨s, 1, none⟩ (.int .i64 0)).setCell ⟨s, 2, none⟩ (.int .u8 (bx.toNat : Int))) 25 [.int .i64 0, .int .i64 0, .int .u8 (bx.toNat : Int)])
              rwa [hsz] at this
            have HR9 := Lib.hid hr9
            have H9 := ((((((H4.alloc (.cells #[.int .i64 (c1 : Int), .int .i64 (c2 : Int), .int .u8 0] 25)).pick 3 [1, 0, 2]).set 0 (.int .i64 0)).set 1 (.int .i64 0)).set 2 (.int .u8 (bx.toNat : Int))).pick 3 [2, 0, 1]).alloc (.cells #[.int .i64 0, .int .i64 0, .int .u8 (bx.toNat : Int)] 25)
            have HH9 := Lib.hid H9
            clear hr9 H9 hsz
            go_wp2_with (at_builtin; refine wpList_append_sp rfl _ _ 31 rfl 25 i0 (.agg #[.int .i64 0, .int .i64 0, .int .u8 0]) 3 24 Try.underlying31 hi hz0 hz1 hz2 rfl (by decide) (.slice V D.length cV) D.length (stsV D) rfl HH9.out (some ⟨w4.heap.size + 1, 0, none⟩) 1 1 (stCells (0, 0, bx)) rfl rfl HR9.out (st_one _) (by unfold maxLen; omega) (by omega) ?_)
            intro v5 w5 H5 _
            clear HH9 HR9
            obtain ⟨V5, c5, rfl, _, _⟩ := Row.form H5 0 rfl
            generalize w4.heap.size = s at H5 ⊢
            have t0 := H5.cell 1 rfl 0
            have t1 := H5.cell 1 rfl 1
            have t2 := H5.cell 1 rfl 2
            simp only [List.getElem?_cons_zero, List.getElem?_cons_succ] at t0 t1 t2
            clear ce
            go_wp2_with fail
            refine (made_ok (0, 0, bx) _).mono ?_
            rintro _ w6 ⟨rfl, K6⟩
            have H6 := K6.sep H5
            have hmade : PM.made (0, 0, bx) = 1 := rfl
            rw [hmade]
            go_wp2
            go_roundw
            case rel =>
              refine ⟨q + 1, n3, V5, c5, D ++ [(0, 0, bx)], by go_num, by rw [List.length_append]; rfl, by omega, by omega, by rw [List.length_append]; show D.length + 1 ≤ _; omega, ?_, ?_⟩
              · rw [← HCUT.out, HLIT.out, List.append_assoc]
                rfl
              · rw [List.length_append, stsV_append, show stsV [(0, 0, bx)] = stCells (0, 0, bx) ++ [] from rfl, List.append_nil]
                exact H6.pick 3 [0, 2]
            case measure => simp [intOf]; omega
          · have hcopy : PM.cutAt B d q = (b1, b2, 0) :: PM.cutAt B d (q + b1) := by
              rw [PM.cutAt_copy B d q (by rw [← HL.out]; exact hql) (by rw [HB1.out, HC1.out]; omega), HB1.out, HB2.out]
            have HCOPY := Lib.hid hcopy
            clear hcopy
            by_cases hc0 : c1 = 0
            · have e1 : decide (0 < c1) = false := decide_eq_false (by omega)
              rw [e1]
              clear hc0
              have hsz : (w4.alloc (.cells #[.int .i64 (c1 : Int), .int .i64 (c2 : Int), .int .u8 0] 25)).heap.size = w4.heap.size + 1 := Array.size_push _
              have hr9 : Rd ((w4.alloc (.cells #[.int .i64 (c1 : Int), .int .i64 (c2 : Int), .int .u8 0] 25)).alloc (.cells #[.int .i64 (b1 : Int), .int .i64 (b2 : Int), .int .u8 0] 25)) (some ⟨w4.heap.size + 1, 0, none⟩) (stCells (b1, b2, 0)) := by
                have := Rd.of_blk (Blk.new (w4.alloc (.cells #[.int .i64 (c1 : Int), .int .i64 (c2 : Int), .int .u8 0] 25)) 25 [.int .i64 (b1 : Int), .int .i64 (b2 : Int), .int .u8 0])
                rwa [hsz] at this
              have HR9 := Lib.hid hr9
              have H9 := ((H4.alloc (.cells #[.int .i64 (c1 : Int), .int .i64 (c2 : Int), .int .u8 0] 25)).pick 3 [2, 1, 0]).alloc (.cells #[.int .i64 (b1 : Int), .int .i64 (b2 : Int), .int .u8 0] 25)
              have HH9 := Lib.hid H9
              clear hr9 H9 hsz
              go_wp2_with (at_builtin; refine wpList_append_sp rfl _ _ 31 rfl 25 i0 (.agg #[.int .i64 0, .int .i64 0, .int .u8 0]) 3 24 Try.underlying31 hi hz0 hz1 hz2 rfl (by decide) (.slice V D.length cV) D.length (stsV D) rfl HH9.out (some ⟨w4.heap.size + 1, 0, none⟩) 1 1 (stCells (b1, b2, 0)) rfl rfl HR9.out (st_one _) (by unfold maxLen; omega) (by omega) ?_)
              intro v5 w5 H5 _
              clear HH9 HR9
              obtain ⟨V5, c5, rfl, _, _⟩ := Row.form H5 0 rfl
              generalize w4.heap.size = s at H5 ⊢
              have t0 := H5.cell 1 rfl 0
              have t1 := H5.cell 1 rfl 1
              have t2 := H5.cell 1 rfl 2
              simp only [List.getElem?_cons_zero, List.getElem?_cons_succ] at t0 t1 t2
              clear ce
              go_wp2_with fail
              refine (made_ok (b1, b2, 0) _).mono ?_
              rintro _ w6 ⟨rfl, K6⟩
              have H6 := K6.sep H5
              have hmade : PM.made (b1, b2, 0) = b1 := (show max b1 1 = b1 by omega)
              rw [hmade]
              go_wp2
              go_roundw
              case rel =>
                refine ⟨q + b1, n3, V5, c5, D ++ [(b1, b2, 0)], by go_num, by rw [List.length_append]; rfl, by omega, by omega, by rw [List.length_append]; show D.length + 1 ≤ _; omega, ?_, ?_⟩
                · rw [← HCUT.out, HCOPY.out, List.append_assoc]
                  rfl
                · rw [List.length_append, stsV_append, show stsV [(b1, b2, 0)] = stCells (b1, b2, 0) ++ [] from rfl, List.append_nil]
                  exact H6.pick 3 [0, 2]
              case measure => simp [intOf]; omega
            · have e1 : decide (0 < c1) = true := decide_eq_true (by omega)
              have e2 : decide (b1 < c1) = false := decide_eq_false hbc
              rw [e1]
              have hsz : (w4.alloc (.cells #[.int .i64 (c1 : Int), .int .i64 (c2 : Int), .int .u8 0] 25)).heap.size = w4.heap.size + 1 := Array.size_push _
              have hr9 : Rd ((w4.alloc (.cells #[.int .i64 (c1 : Int), .int .i64 (c2 : Int), .int .u8 0] 25)).alloc (.cells #[.int .i64 (b1 : Int), .int .i64 (b2 : Int), .int .u8 0] 25)) (some ⟨w4.heap.size + 1, 0, none⟩) (stCells (b1, b2, 0)) := by
                have := Rd.of_blk (Blk.new (w4.alloc (.cells #[.int .i64 (c1 : Int), .int .i64 (c2 : Int), .int .u8 0] 25)) 25 [.int .i64 (b1 : Int), .int .i64 (b2 : Int), .int .u8 0])
                rwa [hsz] at this
              have HR9 := Lib.hid hr9
              have H9 := ((H4.alloc (.cells #[.int .i64 (c1 : Int), .int .i64 (c2 : Int), .int .u8 0] 25)).pick 3 [2, 1, 0]).alloc (.cells #[.int .i64 (b1 : Int), .int .i64 (b2 : Int), .int .u8 0] 25)
              have HH9 := Lib.hid H9
              clear hr9 H9 hsz
              go_wp2_with (at_builtin; refine wpList_append_sp rfl _ _ 31 rfl 25 i0 (.agg #[.int .i64 0, .int .i64 0, .int .u8 0]) 3 24 Try.underlying31 hi hz0 hz1 hz2 rfl (by decide) (.slice V D.length cV) D.length (stsV D) rfl HH9.out (some ⟨w4.heap.size + 1, 0, none⟩) 1 1 (stCells (b1, b2, 0)) rfl rfl HR9.out (st_one _) (by unfold maxLen; omega) (by omega) ?_)
              intro v5 w5 H5 _
              clear HH9 HR9
              obtain ⟨V5, c5, rfl, _, _⟩ := Row.form H5 0 rfl
              generalize w4.heap.size = s at H5 ⊢
              have t0 := H5.cell 1 rfl 0
              have t1 := H5.cell 1 rfl 1
              have t2 := H5.cell 1 rfl 2
              simp only [List.getElem?_cons_zero, List.getElem?_cons_succ] at t0 t1 t2
              clear ce
              go_wp2_with fail
              refine (made_ok (b1, b2, 0) _).mono ?_
              rintro _ w6 ⟨rfl, K6⟩
              have H6 := K6.sep H5
              have hmade : PM.made (b1, b2, 0) = b1 := (show max b1 1 = b1 by omega)
              rw [hmade]
              go_wp2
              go_roundw
              case rel =>
                refine ⟨q + b1, n3, V5, c5, D ++ [(b1, b2, 0)], by go_num, by rw [List.length_append]; rfl, by omega, by omega, by rw [List.length_append]; show D.length + 1 ≤ _; omega, ?_, ?_⟩
                · rw [← HCUT.out, HCOPY.out, List.append_assoc]
                  rfl
                · rw [List.length_append, stsV_append, show stsV [(b1, b2, 0)] = stCells (b1, b2, 0) ++ [] from rfl, List.append_nil]
                  exact H6.pick 3 [0, 2]
              case measure => simp [intOf]; omega
        · have k2 : decide ((q : Int) + 1 < (l : Int)) = false := decide_eq_false (by omega)
          have hcopy : PM.cutAt B d q = (b1, b2, 0) :: PM.cutAt B d (q + b1) := by
            rw [PM.cutAt_copy B d q (by rw [← HL.out]; exact hql) (by rw [HB1.out, PM.best_short B (q + 1) d (by rw [← HL.out]; omega)]; show ¬ (b1 = 0 ∨ b1 < 0); omega), HB1.out, HB2.out]
          have HCOPY := Lib.hid hcopy
          clear hcopy
          go_wp2_with fail
          refine HBEST.out.mono ?_
          rintro _ w2 ⟨n2, hn2, rfl, H2⟩
          unfold stV
          have hsz : (w2.alloc (.cells #[.int .i64 (b1 : Int), .int .i64 (b2 : Int), .int .u8 0] 25)).heap.size = w2.heap.size + 1 := Array.size_push _
          have hr9 : Rd ((w2.alloc (.cells #[.int .i64 (b1 : Int), .int .i64 (b2 : Int), .int .u8 0] 25)).alloc (.cells #[.int .i64 (b1 : Int), .int .i64 (b2 : Int), .int .u8 0] 25)) (some ⟨w2.heap.size + 1, 0, none⟩) (stCells (b1, b2, 0)) := by
            have := Rd.of_blk (Blk.new (w2.alloc (.cells #[.int .i64 (b1 : Int), .int .i64 (b2 : Int), .int .u8 0] 25)) 25 [.int .i64 (b1 : Int), .int .i64 (b2 : Int), .int .u8 0])
            rwa [hsz] at this
          have HR9 := Lib.hid hr9
          have H9 := ((H2.newBk [.int .i64 (b1 : Int), .int .i64 (b2 : Int), .int .u8 0] 25).pick 3 [2, 0, 1]).alloc (.cells #[.int .i64 (b1 : Int), .int .i64 (b2 : Int), .int .u8 0] 25)
          have HH9 := Lib.hid H9
          clear hr9 H9 hsz
          go_wp2_with (at_builtin; refine wpList_append_sp rfl _ _ 31 rfl 25 i0 (.agg #[.int .i64 0, .int .i64 0, .int .u8 0]) 3 24 Try.underlying31 hi hz0 hz1 hz2 rfl (by decide) (.slice V D.length cV) D.length (stsV D) rfl HH9.out (some ⟨w2.heap.size + 1, 0, none⟩) 1 1 (stCells (b1, b2, 0)) rfl rfl HR9.out (st_one _) (by unfold maxLen; omega) (by omega) ?_)
          intro v5 w5 H5 _
          clear HH9 HR9
          obtain ⟨V5, c5, rfl, _, _⟩ := Row.form H5 0 rfl
          generalize w2.heap.size = s at H5 ⊢
          have t0 := H5.cell 1 rfl 0
          have t1 := H5.cell 1 rfl 1
          have t2 := H5.cell 1 rfl 2
          simp only [List.getElem?_cons_zero, List.getElem?_cons_succ] at t0 t1 t2
          skip
          go_wp2_with fail
          refine (made_ok (b1, b2, 0) _).mono ?_
          rintro _ w6 ⟨rfl, K6⟩
          have H6 := K6.sep H5
          have hmade : PM.made (b1, b2, 0) = b1 := (show max b1 1 = b1 by omega)
          rw [hmade]
          go_wp2
          go_roundw
          case rel =>
            refine ⟨q + b1, n2, V5, c5, D ++ [(b1, b2, 0)], by go_num, by rw [List.length_append]; rfl, by omega, by omega, by rw [List.length_append]; show D.length + 1 ≤ _; omega, ?_, ?_⟩
            · rw [← HCUT.out, HCOPY.out, List.append_assoc]
              rfl
            · rw [List.length_append, stsV_append, show stsV [(b1, b2, 0)] = stCells (b1, b2, 0) ++ [] from rfl, List.append_nil]
              exact H6.pick 3 [0, 2]
          case measure => simp [intOf]; omega
    · have k1 : decide ((q : Int) < (l : Int)) = false := decide_eq_false (by omega)
      go_wp2_with fail
      go_ret
      refine ⟨_, rfl, ?_⟩
      have e : D = PM.Cut B d := by
        rw [← HCUT.out, PM.cutAt_end B d q (by rw [← HL.out]; omega), List.append_nil]
      rw [← e]
      exact H.pick 2 [0]
end Go.Proofs.Ytdlbhoedmaifpaa
