/- A pack of texts: InfY. -/
import Derived.Test.YtiogaejfcenooaaDoorPk29
namespace Go.Proofs.YtiogaejfcenooaaDoor
set_option linter.unusedVariables false
set_option linter.unusedSimpArgs false
open Go.RowKit
theorem PI.tellsO_most : ∀ (rows : List (Nat × Nat)) (acc : List Nat), (∀ t ∈ rows, t.2 < 128) → (PI.tellsO acc rows).length ≤ acc.length + 138 * rows.length := by
 intro rows
 induction rows with
 | nil => intro acc _; exact Nat.le_refl _
 | cons t rows ih =>
  intro acc h
  have h1 := ih (PI.tellO acc t) (fun q hq => h q (List.mem_cons_of_mem _ hq))
  have h2 := h t (List.mem_cons_self ..)
  have h3 : (PI.tellO acc t).length ≤ acc.length + 138 := by
   unfold PI.tellO
   split
   ·rw [List.length_append, List.length_replicate]; omega
   split
   ·rw [List.length_append, List.length_replicate]; omega
   split
   ·rw [List.length_append, List.length_replicate]; omega
   ·rw [List.length_append, List.length_replicate]; omega
  show (PI.tellsO (PI.tellO acc t) rows).length ≤ _
  rw [List.length_cons]
  omega
theorem PI.rows_many (l : List Nat) (h15 : ∀ x ∈ l, x ≤ 15) (hl : l.length = 316) : 2 ≤ (PI.rle l.length l).length := by
 have h1 := PI.rle_out l.length l [] (Nat.le_refl _) h15
 have h2 := PI.tellsO_most (PI.rle l.length l) [] (PI.rle_val _ _)
 rw [h1, List.nil_append, hl] at h2
 simp only [List.length_nil] at h2
 rw [hl]
 omega
theorem cellsN_at {w : World} {A : Option Addr} {l : List Nat} (h : Rd w A (cellsN l)) {k : Nat} (hk : k < l.length) : ∃ ad, A = some ad ∧ w.cell? (ad.add k) = some (.int .i64 (l.getD k 0 : Nat)) := by
 obtain ⟨ad, e, hc⟩ := h (fun h0 => by
  have := congrArg List.length h0
  simp [cellsN] at this
  rw [this] at hk; simp at hk)
 exact ⟨ad, e, hc k _ (by simp [cellsN, List.getD_eq_getElem?_getD, hk])⟩
theorem add0 (a : Addr) : a.add 0 = a := by unfold Addr.add; simp
theorem row3 {w0 w : World} {M : List Pr} {A : Option Addr} {n c z : Nat} {e : TypeId} {xs : List Value} (H : Sp w0 M w) (k : Nat) (hk : M[k]? = some (Row e z (.slice A n c) n xs)) : Rd w A xs := by
 obtain ⟨A2, c2, e2, h, _⟩ := H.row_rd k hk
 injection e2 with e2 _ _
 subst e2
 exact h
set_option maxRecDepth 100000 in
theorem run_order : ∀ (j : Nat), j < 19 → ∀ w : World, (Instr.index 106 (.agg #[.int .i64 16, .int .i64 17, .int .i64 18, .int .i64 0, .int .i64 8, .int .i64 7, .int .i64 9, .int .i64 6, .int .i64 10, .int .i64 5, .int .i64 11, .int .i64 4, .int .i64 12, .int .i64 3, .int .i64 13, .int .i64 2, .int .i64 14, .int .i64 1, .int .i64 15]) (.int .i64 (j : Int))).run Tryd.prog w = .ok (.int .i64 (PI.orderT.getD j 0 : Nat)) w
 | 0, _, w => by kernel_rfl
 | 1, _, w => by kernel_rfl
 | 2, _, w => by kernel_rfl
 | 3, _, w => by kernel_rfl
 | 4, _, w => by kernel_rfl
 | 5, _, w => by kernel_rfl
 | 6, _, w => by kernel_rfl
 | 7, _, w => by kernel_rfl
 | 8, _, w => by kernel_rfl
 | 9, _, w => by kernel_rfl
 | 10, _, w => by kernel_rfl
 | 11, _, w => by kernel_rfl
 | 12, _, w => by kernel_rfl
 | 13, _, w => by kernel_rfl
 | 14, _, w => by kernel_rfl
 | 15, _, w => by kernel_rfl
 | 16, _, w => by kernel_rfl
 | 17, _, w => by kernel_rfl
 | 18, _, w => by kernel_rfl
 | n + 19, h, _ => absurd h (by omega)
theorem cellsN_one (l : List Nat) : ∀ u ∈ cellsN l, u.oneCell' = true := by
 intro u hu
 obtain ⟨x, _, rfl⟩ := List.mem_map.1 hu
 rfl
set_option maxRecDepth 100000 in
set_option maxHeartbeats 32000000 in
theorem pheads_ok (gp ca cb : Nat) (VA VB : Option Addr) (m d : List Nat) (l1 : List Bool) {w0 w : World} {L : List Pr} (H : Sp w0 (Pen gp l1 :: L) w) (hm : m.length = 286) (hd : d.length = 30) (hm15 : ∀ x ∈ m, x ≤ 15) (hd15 : ∀ x ∈ d, x ≤ 15) (hl : l1.length ≤ 50000000)
  (hva : Ent L fun w => Rd w VA (cellsN m)) (hvb : Ent L fun w => Rd w VB (cellsN d)) :
  Calls Tryd.prog 29 #[.pointer (some ⟨gp, 0, none⟩), .slice VA 286 ca, .slice VB 30 cb] w fun e w' => e = .returned (.tuple #[]) ∧ Sp w0 (Pen gp (l1 ++ PI.headsW m d) :: L) w' := by
 obtain ⟨i0, hi, hz0, hz1, hz2⟩ := info_parts infoJ
 obtain ⟨i1, hj, hj0, hj1, hj2⟩ := info_parts infoS
 obtain ⟨al, hal⟩ : ∃ al, m ++ d = al := ⟨_, rfl⟩
 obtain ⟨RW, hRW⟩ : ∃ RW, PI.rowsOf m d = RW := ⟨_, rfl⟩
 have hal316 : al.length = 316 := by rw [← hal, List.length_append, hm, hd]
 have hal15 : ∀ x ∈ al, x ≤ 15 := fun x hx => by
  rw [← hal] at hx
  rcases List.mem_append.1 hx with h | h
  ·exact hm15 x h
  ·exact hd15 x h
 have hrw : PI.rle 316 al = RW := by
  rw [← hRW]; unfold PI.rowsOf
  rw [hal, hal316]
 have hmany := PI.rows_many al hal15 hal316
 rw [hal316, hrw] at hmany
 have hmost : RW.length ≤ 316 := by
  have h := PI.tellsO_len [] RW
  rw [← hrw, PI.rle_out 316 al [] (by omega) hal15, hrw] at h
  simp [hal316] at h
  exact h
 have hval : ∀ t ∈ RW, t.1 < 19 ∧ t.2 < 128 := fun t ht => by
  rw [← hrw] at ht
  exact ⟨PI.rle_small _ _ hal15 t ht, PI.rle_val _ _ t ht⟩
 have HRW0 := Lib.hid hrw
 have HMANY : Hid (2 ≤ RW.length) := Lib.hid hmany
 have HVAL := Lib.hid hval
 have HAL := Lib.hid hal316
 have HAL15 := Lib.hid hal15
 have HRWD := Lib.hid hRW
 have HCAT : Hid (cellsN m ++ cellsN d = cellsN al) := by rw [← hal, cellsN_append]; exact Lib.hid rfl
 have HVB := Lib.hid hvb
 have HVA := Lib.hid hva
 have hnil := H.rowNil 3 1
 have HH0 := Lib.hid hnil
 have HLM : (cellsN m).length = 286 ∧ (cellsN d).length = 30 := by
  simp [cellsN, hm, hd]
 have HL1 := Lib.hid HLM.1
 have HL2 := Lib.hid HLM.2
 have HRA := Lib.hid (hva _ _ H.tail)
 clear hva hvb hrw hmost hval hal15 hal316 hmany hal hRW hnil HLM
 go_enter Tryd.func29, Tryd.ntmps29
 go_wp2_with (at_builtin; refine wpList_append_sp rfl _ _ 67 rfl 3 i0 (.int .i64 0) 1 8 Tryd.underlying67 hi hz0 hz1 hz2 rfl (by decide) (.slice none 0 0) 0 [] rfl HH0.out VA 286 ca (cellsN m) rfl (by rw [HL1.out]) HRA.out (cellsN_one _) (by unfold maxLen; omega) (by omega) ?_)
 intro v1 w1 H1 _
 have HH1 := Lib.hid H1
 have HRB := Lib.hid (HVB.out _ _ H1.tail2)
 clear HH0 HRA H H1
 go_wp2_with (at_builtin; refine wpList_append_sp rfl _ _ 67 rfl 3 i0 (.int .i64 0) 1 8 Tryd.underlying67 hi hz0 hz1 hz2 rfl (by decide) _ _ _ rfl HH1.out VB 30 cb (cellsN d) rfl (by rw [HL2.out]) HRB.out (cellsN_one _) (by unfold maxLen; omega) (by omega) ?_)
 intro v2 w2 H2 _
 have H3 : Sp w0 (Row 3 1 v2 316 (cellsN al) :: Pen gp l1 :: L) w2 := by
  have h := H2
  first | rw [List.nil_append, HCAT.out] at h | rw [HCAT.out] at h
  exact h
 obtain ⟨VL, vlc, rfl, _, _⟩ := Row.form H3 0 rfl
 have HX := Lib.hid ((H3.rowNil 102 3).pick 3 [1, 2, 0])
 clear HH1 HRB H2 H3 HL1 HL2 HCAT HVA HVB
 go_wp2_with fail
 go_loopw [7, 8] (fun rv iv wr => ∃ (i f : Nat) (R : List (Nat × Nat)), iv = .int .i64 (i : Int) ∧ i ≤ 316 ∧ 316 ≤ i + f ∧ R.length ≤ i ∧ R ++ PI.rle f (al.drop i) = RW ∧ Sp w0 (Row 3 1 (.slice VL 316 vlc) 316 (cellsN al) :: Pen gp l1 :: Row 102 3 rv R.length (cellsS (R.map PI.sgR)) :: L) wr) (fun _ iv _ => 316 - (intOf iv).toNat)
 case atStart => exact ⟨0, 316, [], rfl, by omega, by omega, by simp, by rw [List.nil_append, List.drop_zero]; exact HRW0.out, HX.out⟩
 case round =>
  obtain ⟨i, f, R, rfl, hi316, hf, hRl, hinv, H4⟩ := hrel
  clear HX HRW0
  have HI := Lib.hid hinv
  clear hinv
  by_cases hlt : i < 316
  ·have k1 : (i : Int) < 316 := by omega
   obtain ⟨f, rfl⟩ : ∃ f', f = f' + 1 := ⟨f - 1, by omega⟩
   have hAL := HAL.out
   obtain ⟨av, rfl, hcx⟩ := cellsN_at (row_ent 0 rfl _ _ H4) (k := i) (by omega)
   obtain ⟨x, hx⟩ : ∃ x, al.getD i 0 = x := ⟨_, rfl⟩
   rw [hx] at hcx
   have HXV := Lib.hid hx
   have hx15 : x ≤ 15 := by
    rw [← hx, List.getD_eq_getElem?_getD, List.getElem?_eq_getElem (by omega)]
    exact HAL15.out _ (List.getElem_mem _)
   have HX4 := Lib.hid H4
   clear hx hcx H4
   go_wp2_with fail
   go_loopw [9] (fun kv wr => ∃ k : Nat, kv = .int .i64 (k : Int) ∧ i ≤ k ∧ k ≤ 316 ∧ (∀ j, i ≤ j → j < k → al.getD j 0 = al.getD i 0) ∧ Sp w0 (Row 3 1 (.slice (some av) 316 vlc) 316 (cellsN al) :: Pen gp l1 :: Row 102 3 u7 R.length (cellsS (R.map PI.sgR)) :: L) wr) (fun kv _ => 316 - (intOf kv).toNat)
   case atStart => exact ⟨i, rfl, Nat.le_refl _, hi316, fun j h1 h2 => by omega, HX4.out⟩
   case round =>
    obtain ⟨k, rfl, hik, hk316, hsame, H4⟩ := hrel
    clear HX4
    have HSAME := Lib.hid hsame
    have hcx : wr.cell? (av.add i) = some (.int .i64 (x : Int)) := by
     obtain ⟨a9, e9, h9⟩ := cellsN_at (row_ent 0 rfl _ _ H4) (k := i) (by omega)
     injection e9 with e9
     subst e9
     rw [h9, HXV.out]
    clear hsame
    by_cases hk : k < 316
    ·have k2 : (k : Int) < 316 := by omega
     have hck : wr.cell? (av.add k) = some (.int .i64 (al.getD k 0 : Nat)) := by
      obtain ⟨a9, e9, h9⟩ := cellsN_at (row_ent 0 rfl _ _ H4) (k := k) (by omega)
      injection e9 with e9
      subst e9
      exact h9
     obtain ⟨xk, hxk⟩ : ∃ y, al.getD k 0 = y := ⟨_, rfl⟩
     rw [hxk] at hck
     have HXK := Lib.hid hxk
     clear hxk
     by_cases he : xk = x
     ·have k3 : ((xk : Int) == (x : Int)) = true := by rw [he]; simp
      have k3' : (xk : Int) = (x : Int) := by rw [he]
      have HE := Lib.hid he
      clear he
      go_wp2_with fail
      go_quiet (fail)
      have H5 := H4.drewN nq
      generalize wr.drewN nq = w5 at H5 ⊢
      go_wp2
      go_roundw
      case rel =>
       refine ⟨k + 1, by go_num, by omega, by omega, fun j h1 h2 => ?_, H5⟩
       by_cases e : j = k
       ·subst e; rw [HXK.out, HE.out, HXV.out]
       ·exact HSAME.out j h1 (by omega)
      case measure => first | (simp [intOf]; omega) | simp [intOf]
     ·have k3 : ((xk : Int) == (x : Int)) = false := by rw [beq_eq_false_iff_ne]; omega
      have k3' : ¬ (xk : Int) = (x : Int) := by omega
      have hik2 : i < k := by
       refine Nat.lt_of_le_of_ne hik fun e => he ?_
       subst e
       rw [← HXK.out, HXV.out]
      have HSTOP : Hid (k < al.length → al.getD k 0 ≠ al.getD i 0) := Lib.hid fun _ => by rw [HXK.out, HXV.out]; exact he
      clear he
      go_wp2_with fail
      go_quiet (fail)
      have H5 := H4.drewN nq
      have hcx : (wr.drewN nq).cell? (av.add i) = some (.int .i64 (x : Int)) := hcx
      generalize wr.drewN nq = w5 at H5 hcx ⊢
      clear H4 hck
      have hrl := PI.runL_at (l := al) (i := i) (k := k) (by omega) (by omega) (by omega) HSAME.out HSTOP.out
      rw [HXV.out] at hrl
      have hra := PI.rle_at (l := al) (i := i) (f := f) (by omega)
      rw [HXV.out, hrl] at hra
      obtain ⟨rn, hrn⟩ : ∃ q, k - i = q := ⟨_, rfl⟩
      rw [hrn] at hra
      have HRL := Lib.hid hra
      have y2 : (k : Int) - (i : Int) = (rn : Int) := by omega
      have hrn1 : 1 ≤ rn ∧ i + rn ≤ 316 := by omega
      have HRN := Lib.hid hrn
      clear hrl hra hrn
      by_cases hx0 : x = 0
      ·have x1 : (x : Int) = 0 := by omega
       have x2 : ((x : Int) == 0) = true := by rw [x1]; rfl
       by_cases h11 : 11 ≤ rn
       ·have x3 : (rn : Int) ≥ 11 := by omega
        obtain ⟨rn9, hrn9⟩ : ∃ q, min rn 138 = q := ⟨_, rfl⟩
        have y3 : min (rn : Int) 138 = (rn9 : Int) := by omega
        obtain ⟨vv, hvv⟩ : ∃ q, rn9 - 11 = q := ⟨_, rfl⟩
        have y4 : (rn9 : Int) - 11 = (vv : Int) := by omega
        obtain ⟨i9, hi9⟩ : ∃ q, i + rn9 = q := ⟨_, rfl⟩
        have y5 : (i : Int) + (rn9 : Int) = (i9 : Int) := by omega
        have hi9l : i9 ≤ 316 ∧ i < i9 := by omega
        have HNX : Hid ((R ++ [(18, vv)]) ++ PI.rle f (al.drop i9) = RW) := Lib.hid (by
         have h := HRL.out
         rw [if_pos (show x = 0 ∧ 11 ≤ rn from ⟨by omega, by omega⟩)] at h
         rw [hrn9, hvv, hi9] at h
         rw [← HI.out, h]
         simp)
        have hcel : cellsS (([(18, vv)] : List (Nat × Nat)).map PI.sgR) = (sgC (PI.sgR (18, vv))) := by
         simp [cellsS]
        have HCEL := Lib.hid hcel
        have hR1 : R.length + 1 ≤ i9 ∧ i9 ≤ 316 := by omega
        have H9 := H5.newBk (sgC (PI.sgR (18, vv))) 102
        have HR9 := Lib.hid (Rd.of_blk (H9.blk 0 rfl))
        have HH9 := Lib.hid (H9.pick 4 [3, 0, 1, 2])
        have HI9 := Lib.hid hi9
        clear hrn9 hvv hi9 H9 H5 hcel
        go_wp2_with (at_builtin; refine wpList_append_sp rfl _ _ 64 rfl 102 i1 (.agg #[.int .i64 0, .int .i64 0, .int .i64 0]) 3 24 Tryd.underlying64 hj hj0 hj1 hj2 rfl (by decide) _ R.length (cellsS (R.map PI.sgR)) rfl HH9.out (some ⟨_, 0, none⟩) 1 1 (sgC (PI.sgR (18, vv))) rfl rfl HR9.out (sgC_one _) (by unfold maxLen; omega) (by omega) ?_)
        intro v6 w6 H6 _
        have HH6 := Lib.hid (H6.pick 4 [2, 3, 0])
        clear HR9 HH9 H6
        go_wp2_with fail
        go_roundw
        case rel =>
         refine ⟨i9, f, R ++ [(18, vv)], rfl, hi9l.1, by omega, by rw [List.length_append]; exact hR1.1, HNX.out, ?_⟩
         have e1 : cellsS ((R ++ [(18, vv)]).map PI.sgR) = cellsS (R.map PI.sgR) ++ (sgC (PI.sgR (18, vv))) := by rw [List.map_append, cellsS_append, HCEL.out]
         have e2 : (R ++ [(18, vv)]).length = R.length + 1 := by rw [List.length_append]; rfl
         rw [e1, e2]
         exact HH6.out
        case measure => first | (simp [intOf]; omega) | simp [intOf]
       ·have x3 : ¬ (rn : Int) ≥ 11 := by omega
        by_cases h3 : 3 ≤ rn
        ·have x4 : (rn : Int) ≥ 3 := by omega
         obtain ⟨rn9, hrn9⟩ : ∃ q, rn = q := ⟨_, rfl⟩
         obtain ⟨vv, hvv⟩ : ∃ q, rn - 3 = q := ⟨_, rfl⟩
         have y4 : (rn : Int) - 3 = (vv : Int) := by omega
         obtain ⟨i9, hi9⟩ : ∃ q, i + rn = q := ⟨_, rfl⟩
         have y5 : (i : Int) + (rn : Int) = (i9 : Int) := by omega
         have hi9l : i9 ≤ 316 ∧ i < i9 := by omega
         have HNX : Hid ((R ++ [(17, vv)]) ++ PI.rle f (al.drop i9) = RW) := Lib.hid (by
          have h := HRL.out
          rw [if_neg (show ¬ (x = 0 ∧ 11 ≤ rn) by omega), if_pos (show x = 0 ∧ 3 ≤ rn from ⟨by omega, by omega⟩)] at h
          rw [hvv, hi9] at h
          rw [← HI.out, h]
          simp)
         have hcel : cellsS (([(17, vv)] : List (Nat × Nat)).map PI.sgR) = (sgC (PI.sgR (17, vv))) := by
          simp [cellsS]
         have HCEL := Lib.hid hcel
         have hR1 : R.length + 1 ≤ i9 ∧ i9 ≤ 316 := by omega
         have H9 := H5.newBk (sgC (PI.sgR (17, vv))) 102
         have HR9 := Lib.hid (Rd.of_blk (H9.blk 0 rfl))
         have HH9 := Lib.hid (H9.pick 4 [3, 0, 1, 2])
         have HI9 := Lib.hid hi9
         clear hrn9 hvv hi9 H9 H5 hcel
         go_wp2_with (at_builtin; refine wpList_append_sp rfl _ _ 64 rfl 102 i1 (.agg #[.int .i64 0, .int .i64 0, .int .i64 0]) 3 24 Tryd.underlying64 hj hj0 hj1 hj2 rfl (by decide) _ R.length (cellsS (R.map PI.sgR)) rfl HH9.out (some ⟨_, 0, none⟩) 1 1 (sgC (PI.sgR (17, vv))) rfl rfl HR9.out (sgC_one _) (by unfold maxLen; omega) (by omega) ?_)
         intro v6 w6 H6 _
         have HH6 := Lib.hid (H6.pick 4 [2, 3, 0])
         clear HR9 HH9 H6
         go_wp2_with fail
         go_roundw
         case rel =>
          refine ⟨i9, f, R ++ [(17, vv)], rfl, hi9l.1, by omega, by rw [List.length_append]; exact hR1.1, HNX.out, ?_⟩
          have e1 : cellsS ((R ++ [(17, vv)]).map PI.sgR) = cellsS (R.map PI.sgR) ++ (sgC (PI.sgR (17, vv))) := by rw [List.map_append, cellsS_append, HCEL.out]
          have e2 : (R ++ [(17, vv)]).length = R.length + 1 := by rw [List.length_append]; rfl
          rw [e1, e2]
          exact HH6.out
         case measure => first | (simp [intOf]; omega) | simp [intOf]
        ·have x4 : ¬ (rn : Int) ≥ 3 := by omega
         have x5 : ¬ (rn : Int) ≥ 4 := by omega
         obtain ⟨rn9, hrn9⟩ : ∃ q, rn = q := ⟨_, rfl⟩
         obtain ⟨vv, hvv⟩ : ∃ q, 0 = q := ⟨_, rfl⟩
         obtain ⟨i9, hi9⟩ : ∃ q, i + 1 = q := ⟨_, rfl⟩
         have y5 : (i : Int) + 1 = (i9 : Int) := by omega
         have hi9l : i9 ≤ 316 ∧ i < i9 := by omega
         have HNX : Hid ((R ++ [(x, 0)]) ++ PI.rle f (al.drop i9) = RW) := Lib.hid (by
          have h := HRL.out
          rw [if_neg (show ¬ (x = 0 ∧ 11 ≤ rn) by omega), if_neg (show ¬ (x = 0 ∧ 3 ≤ rn) by omega), if_neg (show ¬ 4 ≤ rn by omega)] at h
          rw [hi9] at h
          rw [← HI.out, h]
          simp)
         have hcel : cellsS (([(x, 0)] : List (Nat × Nat)).map PI.sgR) = [.int .i64 0, .int .i64 0, .int .i64 0] := by
          rw [hx0]; rfl
         have HCEL := Lib.hid hcel
         have hR1 : R.length + 1 ≤ i9 ∧ i9 ≤ 316 := by omega
         have H9 := H5.newBk [.int .i64 0, .int .i64 0, .int .i64 0] 102
         have HR9 := Lib.hid (Rd.of_blk (H9.blk 0 rfl))
         have HH9 := Lib.hid (H9.pick 4 [3, 0, 1, 2])
         have HI9 := Lib.hid hi9
         clear hrn9 hvv hi9 H9 H5 hcel
         go_wp2_with (at_builtin; refine wpList_append_sp rfl _ _ 64 rfl 102 i1 (.agg #[.int .i64 0, .int .i64 0, .int .i64 0]) 3 24 Tryd.underlying64 hj hj0 hj1 hj2 rfl (by decide) _ R.length (cellsS (R.map PI.sgR)) rfl HH9.out (some ⟨_, 0, none⟩) 1 1 [.int .i64 0, .int .i64 0, .int .i64 0] rfl rfl HR9.out (by intro u hu; simp only [List.mem_cons, List.mem_nil_iff, or_false] at hu; rcases hu with rfl | rfl | rfl <;> rfl) (by unfold maxLen; omega) (by omega) ?_)
         intro v6 w6 H6 _
         have HH6 := Lib.hid (H6.pick 4 [2, 3, 0])
         clear HR9 HH9 H6
         go_wp2_with fail
         go_roundw
         case rel =>
          refine ⟨i9, f, R ++ [(x, 0)], rfl, hi9l.1, by omega, by rw [List.length_append]; exact hR1.1, HNX.out, ?_⟩
          have e1 : cellsS ((R ++ [(x, 0)]).map PI.sgR) = cellsS (R.map PI.sgR) ++ [.int .i64 0, .int .i64 0, .int .i64 0] := by rw [List.map_append, cellsS_append, HCEL.out]
          have e2 : (R ++ [(x, 0)]).length = R.length + 1 := by rw [List.length_append]; rfl
          rw [e1, e2]
          exact HH6.out
         case measure => first | (simp [intOf]; omega) | simp [intOf]
      ·have x1 : ¬ (x : Int) = 0 := by omega
       have x2 : ((x : Int) == 0) = false := by rw [beq_eq_false_iff_ne]; exact x1
       by_cases h4 : 4 ≤ rn
       ·have x5 : (rn : Int) ≥ 4 := by omega
        obtain ⟨rn9, hrn9⟩ : ∃ q, min rn 7 = q := ⟨_, rfl⟩
        have y3 : min (rn : Int) 7 = (rn9 : Int) := by omega
        obtain ⟨vv, hvv⟩ : ∃ q, rn9 - 4 = q := ⟨_, rfl⟩
        have y4 : (rn9 : Int) - 4 = (vv : Int) := by omega
        obtain ⟨i9, hi9⟩ : ∃ q, i + rn9 = q := ⟨_, rfl⟩
        have y5 : (i : Int) + (rn9 : Int) = (i9 : Int) := by omega
        have hi9l : i9 ≤ 316 ∧ i < i9 := by omega
        have HNX : Hid ((R ++ [(x, 0), (16, vv)]) ++ PI.rle f (al.drop i9) = RW) := Lib.hid (by
         have h := HRL.out
         rw [if_neg (show ¬ (x = 0 ∧ 11 ≤ rn) by omega), if_neg (show ¬ (x = 0 ∧ 3 ≤ rn) by omega), if_pos (show 4 ≤ rn by omega)] at h
         rw [hrn9, hvv, hi9] at h
         rw [← HI.out, h]
         simp)
        have hcel : cellsS (([(x, 0), (16, vv)] : List (Nat × Nat)).map PI.sgR) = [.int .i64 (x : Int), .int .i64 0, .int .i64 0, .int .i64 16, .int .i64 (vv : Int), .int .i64 2] := by
         show sgC (PI.sgR (x, 0)) ++ (sgC (PI.sgR (16, vv)) ++ []) = _; unfold PI.sgR sgC; simp only; rw [PI.tellB_small x hx15]; rfl
        have HCEL := Lib.hid hcel
        have hR1 : R.length + 2 ≤ i9 ∧ i9 ≤ 316 := by omega
        have H9 := H5.newBk [.int .i64 (x : Int), .int .i64 0, .int .i64 0, .int .i64 16, .int .i64 (vv : Int), .int .i64 2] 102
        have HR9 := Lib.hid (Rd.of_blk (H9.blk 0 rfl))
        have HH9 := Lib.hid (H9.pick 4 [3, 0, 1, 2])
        have HI9 := Lib.hid hi9
        clear hrn9 hvv hi9 H9 H5 hcel
        go_wp2_with (at_builtin; refine wpList_append_sp rfl _ _ 64 rfl 102 i1 (.agg #[.int .i64 0, .int .i64 0, .int .i64 0]) 3 24 Tryd.underlying64 hj hj0 hj1 hj2 rfl (by decide) _ R.length (cellsS (R.map PI.sgR)) rfl HH9.out (some ⟨_, 0, none⟩) 2 2 [.int .i64 (x : Int), .int .i64 0, .int .i64 0, .int .i64 16, .int .i64 (vv : Int), .int .i64 2] rfl rfl HR9.out (by intro u hu; simp only [List.mem_cons, List.mem_nil_iff, or_false] at hu; rcases hu with rfl | rfl | rfl | rfl | rfl | rfl <;> rfl) (by unfold maxLen; omega) (by omega) ?_)
        intro v6 w6 H6 _
        have HH6 := Lib.hid (H6.pick 4 [2, 3, 0])
        clear HR9 HH9 H6
        go_wp2_with fail
        go_roundw
        case rel =>
         refine ⟨i9, f, R ++ [(x, 0), (16, vv)], rfl, hi9l.1, by omega, by rw [List.length_append]; exact hR1.1, HNX.out, ?_⟩
         have e1 : cellsS ((R ++ [(x, 0), (16, vv)]).map PI.sgR) = cellsS (R.map PI.sgR) ++ [.int .i64 (x : Int), .int .i64 0, .int .i64 0, .int .i64 16, .int .i64 (vv : Int), .int .i64 2] := by rw [List.map_append, cellsS_append, HCEL.out]
         have e2 : (R ++ [(x, 0), (16, vv)]).length = R.length + 2 := by rw [List.length_append]; rfl
         rw [e1, e2]
         exact HH6.out
        case measure => first | (simp [intOf]; omega) | simp [intOf]
       ·have x5 : ¬ (rn : Int) ≥ 4 := by omega
        obtain ⟨rn9, hrn9⟩ : ∃ q, rn = q := ⟨_, rfl⟩
        obtain ⟨vv, hvv⟩ : ∃ q, 0 = q := ⟨_, rfl⟩
        obtain ⟨i9, hi9⟩ : ∃ q, i + 1 = q := ⟨_, rfl⟩
        have y5 : (i : Int) + 1 = (i9 : Int) := by omega
        have hi9l : i9 ≤ 316 ∧ i < i9 := by omega
        have HNX : Hid ((R ++ [(x, 0)]) ++ PI.rle f (al.drop i9) = RW) := Lib.hid (by
         have h := HRL.out
         rw [if_neg (show ¬ (x = 0 ∧ 11 ≤ rn) by omega), if_neg (show ¬ (x = 0 ∧ 3 ≤ rn) by omega), if_neg (show ¬ 4 ≤ rn by omega)] at h
         rw [hi9] at h
         rw [← HI.out, h]
         simp)
        have hcel : cellsS (([(x, 0)] : List (Nat × Nat)).map PI.sgR) = [.int .i64 (x : Int), .int .i64 0, .int .i64 0] := by
         show sgC (PI.sgR (x, 0)) ++ [] = _; unfold PI.sgR sgC; simp only; rw [PI.tellB_small x hx15]; rfl
        have HCEL := Lib.hid hcel
        have hR1 : R.length + 1 ≤ i9 ∧ i9 ≤ 316 := by omega
        have H9 := H5.newBk [.int .i64 (x : Int), .int .i64 0, .int .i64 0] 102
        have HR9 := Lib.hid (Rd.of_blk (H9.blk 0 rfl))
        have HH9 := Lib.hid (H9.pick 4 [3, 0, 1, 2])
        have HI9 := Lib.hid hi9
        clear hrn9 hvv hi9 H9 H5 hcel
        go_wp2_with (at_builtin; refine wpList_append_sp rfl _ _ 64 rfl 102 i1 (.agg #[.int .i64 0, .int .i64 0, .int .i64 0]) 3 24 Tryd.underlying64 hj hj0 hj1 hj2 rfl (by decide) _ R.length (cellsS (R.map PI.sgR)) rfl HH9.out (some ⟨_, 0, none⟩) 1 1 [.int .i64 (x : Int), .int .i64 0, .int .i64 0] rfl rfl HR9.out (by intro u hu; simp only [List.mem_cons, List.mem_nil_iff, or_false] at hu; rcases hu with rfl | rfl | rfl <;> rfl) (by unfold maxLen; omega) (by omega) ?_)
        intro v6 w6 H6 _
        have HH6 := Lib.hid (H6.pick 4 [2, 3, 0])
        clear HR9 HH9 H6
        go_wp2_with fail
        go_roundw
        case rel =>
         refine ⟨i9, f, R ++ [(x, 0)], rfl, hi9l.1, by omega, by rw [List.length_append]; exact hR1.1, HNX.out, ?_⟩
         have e1 : cellsS ((R ++ [(x, 0)]).map PI.sgR) = cellsS (R.map PI.sgR) ++ [.int .i64 (x : Int), .int .i64 0, .int .i64 0] := by rw [List.map_append, cellsS_append, HCEL.out]
         have e2 : (R ++ [(x, 0)]).length = R.length + 1 := by rw [List.length_append]; rfl
         rw [e1, e2]
         exact HH6.out
        case measure => first | (simp [intOf]; omega) | simp [intOf]
    ·have k2 : ¬ (k : Int) < 316 := by omega
     have n1 : decide ((k : Int) < 316) = false := by simp; omega
     have hik2 : i < k := by omega
     have HSTOP : Hid (k < al.length → al.getD k 0 ≠ al.getD i 0) := Lib.hid fun h => by omega
     go_wp2_with fail
     go_quiet (fail)
     have H5 := H4.drewN nq
     have hcx : (wr.drewN nq).cell? (av.add i) = some (.int .i64 (x : Int)) := hcx
     generalize wr.drewN nq = w5 at H5 hcx ⊢
     clear H4
     have hrl := PI.runL_at (l := al) (i := i) (k := k) (by omega) (by omega) (by omega) HSAME.out HSTOP.out
     rw [HXV.out] at hrl
     have hra := PI.rle_at (l := al) (i := i) (f := f) (by omega)
     rw [HXV.out, hrl] at hra
     obtain ⟨rn, hrn⟩ : ∃ q, k - i = q := ⟨_, rfl⟩
     rw [hrn] at hra
     have HRL := Lib.hid hra
     have y2 : (k : Int) - (i : Int) = (rn : Int) := by omega
     have hrn1 : 1 ≤ rn ∧ i + rn ≤ 316 := by omega
     have HRN := Lib.hid hrn
     clear hrl hra hrn
     by_cases hx0 : x = 0
     ·have x1 : (x : Int) = 0 := by omega
      have x2 : ((x : Int) == 0) = true := by rw [x1]; rfl
      by_cases h11 : 11 ≤ rn
      ·have x3 : (rn : Int) ≥ 11 := by omega
       obtain ⟨rn9, hrn9⟩ : ∃ q, min rn 138 = q := ⟨_, rfl⟩
       have y3 : min (rn : Int) 138 = (rn9 : Int) := by omega
       obtain ⟨vv, hvv⟩ : ∃ q, rn9 - 11 = q := ⟨_, rfl⟩
       have y4 : (rn9 : Int) - 11 = (vv : Int) := by omega
       obtain ⟨i9, hi9⟩ : ∃ q, i + rn9 = q := ⟨_, rfl⟩
       have y5 : (i : Int) + (rn9 : Int) = (i9 : Int) := by omega
       have hi9l : i9 ≤ 316 ∧ i < i9 := by omega
       have HNX : Hid ((R ++ [(18, vv)]) ++ PI.rle f (al.drop i9) = RW) := Lib.hid (by
        have h := HRL.out
        rw [if_pos (show x = 0 ∧ 11 ≤ rn from ⟨by omega, by omega⟩)] at h
        rw [hrn9, hvv, hi9] at h
        rw [← HI.out, h]
        simp)
       have hcel : cellsS (([(18, vv)] : List (Nat × Nat)).map PI.sgR) = (sgC (PI.sgR (18, vv))) := by
        simp [cellsS]
       have HCEL := Lib.hid hcel
       have hR1 : R.length + 1 ≤ i9 ∧ i9 ≤ 316 := by omega
       have H9 := H5.newBk (sgC (PI.sgR (18, vv))) 102
       have HR9 := Lib.hid (Rd.of_blk (H9.blk 0 rfl))
       have HH9 := Lib.hid (H9.pick 4 [3, 0, 1, 2])
       have HI9 := Lib.hid hi9
       clear hrn9 hvv hi9 H9 H5 hcel
       go_wp2_with (at_builtin; refine wpList_append_sp rfl _ _ 64 rfl 102 i1 (.agg #[.int .i64 0, .int .i64 0, .int .i64 0]) 3 24 Tryd.underlying64 hj hj0 hj1 hj2 rfl (by decide) _ R.length (cellsS (R.map PI.sgR)) rfl HH9.out (some ⟨_, 0, none⟩) 1 1 (sgC (PI.sgR (18, vv))) rfl rfl HR9.out (sgC_one _) (by unfold maxLen; omega) (by omega) ?_)
       intro v6 w6 H6 _
       have HH6 := Lib.hid (H6.pick 4 [2, 3, 0])
       clear HR9 HH9 H6
       go_wp2_with fail
       go_roundw
       case rel =>
        refine ⟨i9, f, R ++ [(18, vv)], rfl, hi9l.1, by omega, by rw [List.length_append]; exact hR1.1, HNX.out, ?_⟩
        have e1 : cellsS ((R ++ [(18, vv)]).map PI.sgR) = cellsS (R.map PI.sgR) ++ (sgC (PI.sgR (18, vv))) := by rw [List.map_append, cellsS_append, HCEL.out]
        have e2 : (R ++ [(18, vv)]).length = R.length + 1 := by rw [List.length_append]; rfl
        rw [e1, e2]
        exact HH6.out
       case measure => first | (simp [intOf]; omega) | simp [intOf]
      ·have x3 : ¬ (rn : Int) ≥ 11 := by omega
       by_cases h3 : 3 ≤ rn
       ·have x4 : (rn : Int) ≥ 3 := by omega
        obtain ⟨rn9, hrn9⟩ : ∃ q, rn = q := ⟨_, rfl⟩
        obtain ⟨vv, hvv⟩ : ∃ q, rn - 3 = q := ⟨_, rfl⟩
        have y4 : (rn : Int) - 3 = (vv : Int) := by omega
        obtain ⟨i9, hi9⟩ : ∃ q, i + rn = q := ⟨_, rfl⟩
        have y5 : (i : Int) + (rn : Int) = (i9 : Int) := by omega
        have hi9l : i9 ≤ 316 ∧ i < i9 := by omega
        have HNX : Hid ((R ++ [(17, vv)]) ++ PI.rle f (al.drop i9) = RW) := Lib.hid (by
         have h := HRL.out
         rw [if_neg (show ¬ (x = 0 ∧ 11 ≤ rn) by omega), if_pos (show x = 0 ∧ 3 ≤ rn from ⟨by omega, by omega⟩)] at h
         rw [hvv, hi9] at h
         rw [← HI.out, h]
         simp)
        have hcel : cellsS (([(17, vv)] : List (Nat × Nat)).map PI.sgR) = (sgC (PI.sgR (17, vv))) := by
         simp [cellsS]
        have HCEL := Lib.hid hcel
        have hR1 : R.length + 1 ≤ i9 ∧ i9 ≤ 316 := by omega
        have H9 := H5.newBk (sgC (PI.sgR (17, vv))) 102
        have HR9 := Lib.hid (Rd.of_blk (H9.blk 0 rfl))
        have HH9 := Lib.hid (H9.pick 4 [3, 0, 1, 2])
        have HI9 := Lib.hid hi9
        clear hrn9 hvv hi9 H9 H5 hcel
        go_wp2_with (at_builtin; refine wpList_append_sp rfl _ _ 64 rfl 102 i1 (.agg #[.int .i64 0, .int .i64 0, .int .i64 0]) 3 24 Tryd.underlying64 hj hj0 hj1 hj2 rfl (by decide) _ R.length (cellsS (R.map PI.sgR)) rfl HH9.out (some ⟨_, 0, none⟩) 1 1 (sgC (PI.sgR (17, vv))) rfl rfl HR9.out (sgC_one _) (by unfold maxLen; omega) (by omega) ?_)
        intro v6 w6 H6 _
        have HH6 := Lib.hid (H6.pick 4 [2, 3, 0])
        clear HR9 HH9 H6
        go_wp2_with fail
        go_roundw
        case rel =>
         refine ⟨i9, f, R ++ [(17, vv)], rfl, hi9l.1, by omega, by rw [List.length_append]; exact hR1.1, HNX.out, ?_⟩
         have e1 : cellsS ((R ++ [(17, vv)]).map PI.sgR) = cellsS (R.map PI.sgR) ++ (sgC (PI.sgR (17, vv))) := by rw [List.map_append, cellsS_append, HCEL.out]
         have e2 : (R ++ [(17, vv)]).length = R.length + 1 := by rw [List.length_append]; rfl
         rw [e1, e2]
         exact HH6.out
        case measure => first | (simp [intOf]; omega) | simp [intOf]
       ·have x4 : ¬ (rn : Int) ≥ 3 := by omega
        have x5 : ¬ (rn : Int) ≥ 4 := by omega
        obtain ⟨rn9, hrn9⟩ : ∃ q, rn = q := ⟨_, rfl⟩
        obtain ⟨vv, hvv⟩ : ∃ q, 0 = q := ⟨_, rfl⟩
        obtain ⟨i9, hi9⟩ : ∃ q, i + 1 = q := ⟨_, rfl⟩
        have y5 : (i : Int) + 1 = (i9 : Int) := by omega
        have hi9l : i9 ≤ 316 ∧ i < i9 := by omega
        have HNX : Hid ((R ++ [(x, 0)]) ++ PI.rle f (al.drop i9) = RW) := Lib.hid (by
         have h := HRL.out
         rw [if_neg (show ¬ (x = 0 ∧ 11 ≤ rn) by omega), if_neg (show ¬ (x = 0 ∧ 3 ≤ rn) by omega), if_neg (show ¬ 4 ≤ rn by omega)] at h
         rw [hi9] at h
         rw [← HI.out, h]
         simp)
        have hcel : cellsS (([(x, 0)] : List (Nat × Nat)).map PI.sgR) = [.int .i64 0, .int .i64 0, .int .i64 0] := by
         rw [hx0]; rfl
        have HCEL := Lib.hid hcel
        have hR1 : R.length + 1 ≤ i9 ∧ i9 ≤ 316 := by omega
        have H9 := H5.newBk [.int .i64 0, .int .i64 0, .int .i64 0] 102
        have HR9 := Lib.hid (Rd.of_blk (H9.blk 0 rfl))
        have HH9 := Lib.hid (H9.pick 4 [3, 0, 1, 2])
        have HI9 := Lib.hid hi9
        clear hrn9 hvv hi9 H9 H5 hcel
        go_wp2_with (at_builtin; refine wpList_append_sp rfl _ _ 64 rfl 102 i1 (.agg #[.int .i64 0, .int .i64 0, .int .i64 0]) 3 24 Tryd.underlying64 hj hj0 hj1 hj2 rfl (by decide) _ R.length (cellsS (R.map PI.sgR)) rfl HH9.out (some ⟨_, 0, none⟩) 1 1 [.int .i64 0, .int .i64 0, .int .i64 0] rfl rfl HR9.out (by intro u hu; simp only [List.mem_cons, List.mem_nil_iff, or_false] at hu; rcases hu with rfl | rfl | rfl <;> rfl) (by unfold maxLen; omega) (by omega) ?_)
        intro v6 w6 H6 _
        have HH6 := Lib.hid (H6.pick 4 [2, 3, 0])
        clear HR9 HH9 H6
        go_wp2_with fail
        go_roundw
        case rel =>
         refine ⟨i9, f, R ++ [(x, 0)], rfl, hi9l.1, by omega, by rw [List.length_append]; exact hR1.1, HNX.out, ?_⟩
         have e1 : cellsS ((R ++ [(x, 0)]).map PI.sgR) = cellsS (R.map PI.sgR) ++ [.int .i64 0, .int .i64 0, .int .i64 0] := by rw [List.map_append, cellsS_append, HCEL.out]
         have e2 : (R ++ [(x, 0)]).length = R.length + 1 := by rw [List.length_append]; rfl
         rw [e1, e2]
         exact HH6.out
        case measure => first | (simp [intOf]; omega) | simp [intOf]
     ·have x1 : ¬ (x : Int) = 0 := by omega
      have x2 : ((x : Int) == 0) = false := by rw [beq_eq_false_iff_ne]; exact x1
      by_cases h4 : 4 ≤ rn
      ·have x5 : (rn : Int) ≥ 4 := by omega
       obtain ⟨rn9, hrn9⟩ : ∃ q, min rn 7 = q := ⟨_, rfl⟩
       have y3 : min (rn : Int) 7 = (rn9 : Int) := by omega
       obtain ⟨vv, hvv⟩ : ∃ q, rn9 - 4 = q := ⟨_, rfl⟩
       have y4 : (rn9 : Int) - 4 = (vv : Int) := by omega
       obtain ⟨i9, hi9⟩ : ∃ q, i + rn9 = q := ⟨_, rfl⟩
       have y5 : (i : Int) + (rn9 : Int) = (i9 : Int) := by omega
       have hi9l : i9 ≤ 316 ∧ i < i9 := by omega
       have HNX : Hid ((R ++ [(x, 0), (16, vv)]) ++ PI.rle f (al.drop i9) = RW) := Lib.hid (by
        have h := HRL.out
        rw [if_neg (show ¬ (x = 0 ∧ 11 ≤ rn) by omega), if_neg (show ¬ (x = 0 ∧ 3 ≤ rn) by omega), if_pos (show 4 ≤ rn by omega)] at h
        rw [hrn9, hvv, hi9] at h
        rw [← HI.out, h]
        simp)
       have hcel : cellsS (([(x, 0), (16, vv)] : List (Nat × Nat)).map PI.sgR) = [.int .i64 (x : Int), .int .i64 0, .int .i64 0, .int .i64 16, .int .i64 (vv : Int), .int .i64 2] := by
        show sgC (PI.sgR (x, 0)) ++ (sgC (PI.sgR (16, vv)) ++ []) = _; unfold PI.sgR sgC; simp only; rw [PI.tellB_small x hx15]; rfl
       have HCEL := Lib.hid hcel
       have hR1 : R.length + 2 ≤ i9 ∧ i9 ≤ 316 := by omega
       have H9 := H5.newBk [.int .i64 (x : Int), .int .i64 0, .int .i64 0, .int .i64 16, .int .i64 (vv : Int), .int .i64 2] 102
       have HR9 := Lib.hid (Rd.of_blk (H9.blk 0 rfl))
       have HH9 := Lib.hid (H9.pick 4 [3, 0, 1, 2])
       have HI9 := Lib.hid hi9
       clear hrn9 hvv hi9 H9 H5 hcel
       go_wp2_with (at_builtin; refine wpList_append_sp rfl _ _ 64 rfl 102 i1 (.agg #[.int .i64 0, .int .i64 0, .int .i64 0]) 3 24 Tryd.underlying64 hj hj0 hj1 hj2 rfl (by decide) _ R.length (cellsS (R.map PI.sgR)) rfl HH9.out (some ⟨_, 0, none⟩) 2 2 [.int .i64 (x : Int), .int .i64 0, .int .i64 0, .int .i64 16, .int .i64 (vv : Int), .int .i64 2] rfl rfl HR9.out (by intro u hu; simp only [List.mem_cons, List.mem_nil_iff, or_false] at hu; rcases hu with rfl | rfl | rfl | rfl | rfl | rfl <;> rfl) (by unfold maxLen; omega) (by omega) ?_)
       intro v6 w6 H6 _
       have HH6 := Lib.hid (H6.pick 4 [2, 3, 0])
       clear HR9 HH9 H6
       go_wp2_with fail
       go_roundw
       case rel =>
        refine ⟨i9, f, R ++ [(x, 0), (16, vv)], rfl, hi9l.1, by omega, by rw [List.length_append]; exact hR1.1, HNX.out, ?_⟩
        have e1 : cellsS ((R ++ [(x, 0), (16, vv)]).map PI.sgR) = cellsS (R.map PI.sgR) ++ [.int .i64 (x : Int), .int .i64 0, .int .i64 0, .int .i64 16, .int .i64 (vv : Int), .int .i64 2] := by rw [List.map_append, cellsS_append, HCEL.out]
        have e2 : (R ++ [(x, 0), (16, vv)]).length = R.length + 2 := by rw [List.length_append]; rfl
        rw [e1, e2]
        exact HH6.out
       case measure => first | (simp [intOf]; omega) | simp [intOf]
      ·have x5 : ¬ (rn : Int) ≥ 4 := by omega
       obtain ⟨rn9, hrn9⟩ : ∃ q, rn = q := ⟨_, rfl⟩
       obtain ⟨vv, hvv⟩ : ∃ q, 0 = q := ⟨_, rfl⟩
       obtain ⟨i9, hi9⟩ : ∃ q, i + 1 = q := ⟨_, rfl⟩
       have y5 : (i : Int) + 1 = (i9 : Int) := by omega
       have hi9l : i9 ≤ 316 ∧ i < i9 := by omega
       have HNX : Hid ((R ++ [(x, 0)]) ++ PI.rle f (al.drop i9) = RW) := Lib.hid (by
        have h := HRL.out
        rw [if_neg (show ¬ (x = 0 ∧ 11 ≤ rn) by omega), if_neg (show ¬ (x = 0 ∧ 3 ≤ rn) by omega), if_neg (show ¬ 4 ≤ rn by omega)] at h
        rw [hi9] at h
        rw [← HI.out, h]
        simp)
       have hcel : cellsS (([(x, 0)] : List (Nat × Nat)).map PI.sgR) = [.int .i64 (x : Int), .int .i64 0, .int .i64 0] := by
        show sgC (PI.sgR (x, 0)) ++ [] = _; unfold PI.sgR sgC; simp only; rw [PI.tellB_small x hx15]; rfl
       have HCEL := Lib.hid hcel
       have hR1 : R.length + 1 ≤ i9 ∧ i9 ≤ 316 := by omega
       have H9 := H5.newBk [.int .i64 (x : Int), .int .i64 0, .int .i64 0] 102
       have HR9 := Lib.hid (Rd.of_blk (H9.blk 0 rfl))
       have HH9 := Lib.hid (H9.pick 4 [3, 0, 1, 2])
       have HI9 := Lib.hid hi9
       clear hrn9 hvv hi9 H9 H5 hcel
       go_wp2_with (at_builtin; refine wpList_append_sp rfl _ _ 64 rfl 102 i1 (.agg #[.int .i64 0, .int .i64 0, .int .i64 0]) 3 24 Tryd.underlying64 hj hj0 hj1 hj2 rfl (by decide) _ R.length (cellsS (R.map PI.sgR)) rfl HH9.out (some ⟨_, 0, none⟩) 1 1 [.int .i64 (x : Int), .int .i64 0, .int .i64 0] rfl rfl HR9.out (by intro u hu; simp only [List.mem_cons, List.mem_nil_iff, or_false] at hu; rcases hu with rfl | rfl | rfl <;> rfl) (by unfold maxLen; omega) (by omega) ?_)
       intro v6 w6 H6 _
       have HH6 := Lib.hid (H6.pick 4 [2, 3, 0])
       clear HR9 HH9 H6
       go_wp2_with fail
       go_roundw
       case rel =>
        refine ⟨i9, f, R ++ [(x, 0)], rfl, hi9l.1, by omega, by rw [List.length_append]; exact hR1.1, HNX.out, ?_⟩
        have e1 : cellsS ((R ++ [(x, 0)]).map PI.sgR) = cellsS (R.map PI.sgR) ++ [.int .i64 (x : Int), .int .i64 0, .int .i64 0] := by rw [List.map_append, cellsS_append, HCEL.out]
        have e2 : (R ++ [(x, 0)]).length = R.length + 1 := by rw [List.length_append]; rfl
        rw [e1, e2]
        exact HH6.out
       case measure => first | (simp [intOf]; omega) | simp [intOf]
  ·have k1 : ¬ (i : Int) < 316 := by omega
   obtain rfl : i = 316 := by omega
   have hRW2 : R = RW := by
    have h := HI.out
    rw [List.drop_eq_nil_iff.2 (by rw [HAL.out]; exact Nat.le_refl _), show PI.rle f [] = [] by cases f <;> rfl, List.append_nil] at h
    exact h
   subst hRW2
   obtain ⟨nR, hnR⟩ : ∃ n, R.length = n := ⟨_, rfl⟩
   obtain ⟨VS, vsc, rfl, _, _⟩ := Row.form H4 2 rfl
   rw [hnR] at H4 hRl ⊢
   have HNR := Lib.hid hnR
   have HX := Lib.hid (H4.pick 3 [2, 1])
   clear H4 HI hf hnR
   go_wp2_with (at_make; refine wpList_make_sp rfl _ _ _ rfl 3 i0 (.int .i64 0) Tryd.underlying67 hi hz0 hz1 rfl 19 rfl rfl (by rw [hz2]; omega) (by unfold maxLen; omega) HX.out ?_)
   intro a1 w3 H5
   have H5' : Sp w0 (Row 3 1 (.slice (some a1) 19 19) 19 (cellsN (PI.cnts 19 ((R.take 0).map Prod.fst))) :: Row 102 3 (.slice VS nR vsc) nR (cellsS (R.map PI.sgR)) :: Pen gp l1 :: L) w3 := by rw [List.take_zero]; exact H5
   have HX5 := Lib.hid H5'
   clear HX H5 H5'
   go_wp2_with fail
   go_loopw [121] (fun jv wr => ∃ j : Nat, jv = .int .i64 (j : Int) ∧ j ≤ nR ∧ Sp w0 (Row 3 1 (.slice (some a1) 19 19) 19 (cellsN (PI.cnts 19 ((R.take j).map Prod.fst))) :: Row 102 3 (.slice VS nR vsc) nR (cellsS (R.map PI.sgR)) :: Pen gp l1 :: L) wr) (fun jv _ => nR - (intOf jv).toNat)
   case atStart => exact ⟨0, rfl, Nat.zero_le _, HX5.out⟩
   case round =>
    obtain ⟨j, rfl, hj, H7⟩ := hrel
    clear HX5
    by_cases hlt : j < nR
    ·have k1 : (j : Int) < (nR : Int) := by omega
     have hjR : j < R.length := by rw [HNR.out]; exact hlt
     obtain ⟨asx, rfl, hrd⟩ := rdS (row3 H7 1 rfl) (i := j) (by rw [List.length_map]; exact hjR)
     rw [show (R.map PI.sgR).getD j (0, 0, 0) = PI.sgR (R.getD j (0, 0)) by rw [List.getD_eq_getElem?_getD, List.getD_eq_getElem?_getD, List.getElem?_map, List.getElem?_eq_getElem hjR]; rfl] at hrd
     have htk : (R.take (j + 1)).map Prod.fst = (R.take j).map Prod.fst ++ [(R.getD j (0, 0)).1] := by rw [take_snoc R j (0, 0) hjR, List.map_append]; rfl
     have hsv := HVAL.out (R.getD j (0, 0)) (by rw [List.getD_eq_getElem?_getD, List.getElem?_eq_getElem hjR]; exact List.getElem_mem hjR)
     obtain ⟨⟨s, v⟩, hx⟩ : ∃ x, R.getD j (0, 0) = x := ⟨_, rfl⟩
     rw [hx] at hrd htk hsv
     obtain ⟨tb, htb⟩ : ∃ tb, PI.tellB s = tb := ⟨_, rfl⟩
     have hsg : PI.sgR (s, v) = (s, v, tb) := by rw [← htb]; rfl
     rw [hsg] at hrd
     simp only at htk hsv
     have hcnt : PI.cnts 19 ((R.take (j + 1)).map Prod.fst) = (PI.cnts 19 ((R.take j).map Prod.fst)).set s ((PI.cnts 19 ((R.take j).map Prod.fst)).getD s 0 + 1) := by rw [htk]; exact PI.cnts_snoc 19 s _ hsv.1
     obtain ⟨C0, hC0⟩ : ∃ C0, PI.cnts 19 ((R.take j).map Prod.fst) = C0 := ⟨_, rfl⟩
     have hC0l : C0.length = 19 := by rw [← hC0]; exact PI.cnts_len _ _
     have hC0b : C0.getD s 0 ≤ 1000 := by
      rw [← hC0, PI.cnts_get 19 s _ hsv.1]
      refine Nat.le_trans List.count_le_length ?_
      rw [List.length_map, List.length_take]; omega
     rw [hC0] at H7 hcnt
     have HCNT := Lib.hid hcnt
     have HRD := Lib.hid hrd
     have hs19 : s < 19 := hsv.1
     have hnb := H7.newBk [.int .i64 0, .int .i64 0, .int .i64 0] 102
     have HNB := Lib.hid hnb
     have HC0L := Lib.hid hC0l
     clear hrd htk hx hsg htb hcnt hC0 hnb H7 hsv hC0l hjR
     go_wp2_with (first | (refine wpList_load_agg rfl 102 _ rfl (asx.add (j * 3)) (sgC (s, v, tb)) rfl HRD.out Tryd.isAgg102 Tryd.sizeOf102 ?_) | (refine wpList_store_whole rfl 102 _ _ rfl wr.heap.size 102 [.int .i64 0, .int .i64 0, .int .i64 0] (sgC (s, v, tb)) rfl rfl HNB.out rfl Tryd.sizeOf102 (sgC_one _) ?_))
     intro w8 H8
     generalize wr.heap.size = g8 at H8 ⊢
     have c0 : w8.cell? ⟨g8, 0, none⟩ = some (.int .i64 (s : Int)) := H8.cell 0 rfl 0
     obtain ⟨ad9, c9, e9, _, ccell, cfrz, hset⟩ := (H8.pick 2 [1, 0]).rowSet hs19
     injection e9 with e9 _ _
     injection e9 with e9
     subst e9
     obtain ⟨xc, hxc⟩ : ∃ xc, C0.getD s 0 = xc := ⟨_, rfl⟩
     have hcc : w8.cell? (a1.add s) = some (.int .i64 (xc : Int)) := by
      rw [ccell, ← hxc]; simp [cellsN, List.getD_eq_getElem?_getD, HC0L.out, hs19]
     rw [hxc] at HCNT hC0b
     have hst := hset (.int .i64 ((xc + 1 : Nat) : Int))
     rw [show (cellsN C0).set s (.int .i64 ((xc + 1 : Nat) : Int)) = cellsN (C0.set s (xc + 1)) by simp [cellsN, List.map_set]] at hst
     have HST := Lib.hid (hst.pick 2 [0])
     have k2 : (s : Int) < 19 := by omega
     clear HNB HRD H8 ccell hset hst hxc
     go_wp2_with fail
     go_roundw
     case rel => exact ⟨j + 1, by go_num, by omega, by rw [HCNT.out]; exact HST.out⟩
     case measure => first | (simp [intOf]; omega) | simp [intOf]
    ·have k1 : ¬ (j : Int) < (nR : Int) := by omega
     obtain rfl : nR = j := by omega
     rw [List.take_of_length_le (by rw [HNR.out]; exact Nat.le_refl _)] at H7
     obtain ⟨F1, F2, F3, F4, F5⟩ := PI.lens_fits 19 7 (R.map Prod.fst) (by decide) (by decide) (by decide) (by decide)
     have hpl := plens_ok (some a1) 19 19 (PI.cnts 19 (R.map Prod.fst)) 7 H7 (PI.cnts_len _ _).symm (row_ent 0 rfl) (by omega) (by omega) (by omega) (fun x hx => by
      obtain ⟨q, hq, rfl⟩ := List.mem_map.1 hx
      refine Nat.le_trans List.count_le_length ?_
      rw [List.length_map, HNR.out]; omega) (by decide)
     obtain ⟨FF, hFF⟩ : ∃ FF, PL.lens (PI.cnts 19 (R.map Prod.fst)) 7 = FF := ⟨_, rfl⟩
     rw [hFF] at hpl F1 F2 F3
     have HPL := Lib.hid hpl
     have HFF : Hid (PI.firstOf R = FF) := Lib.hid hFF
     have HF1 := Lib.hid F1
     have HF2 := Lib.hid F2
     have HF3 := Lib.hid F3
     clear hpl hFF F1 F2 F3 F4 F5 H7
     go_wp2_with fail
     refine HPL.out.mono ?_
     rintro _ w4 ⟨vf, rfl, H8⟩
     obtain ⟨VF, vfc, rfl, _, _⟩ := Row.form H8 0 rfl
     have H9 := H8.pick 3 [0, 2]
     clear HPL H8
     have hn2 : 2 ≤ nR := by rw [← HNR.out]; exact HMANY.out
     obtain ⟨asx, rfl, hr0⟩ := rdS (row3 H9 1 rfl) (i := 0) (by rw [List.length_map, HNR.out]; omega)
     obtain ⟨q, hq⟩ : ∃ q, nR - 1 = q := ⟨_, rfl⟩
     have yq : (nR : Int) - 1 = (q : Int) := by omega
     obtain ⟨ax2, e2, hr1⟩ := rdS (row3 H9 1 rfl) (i := q) (by rw [List.length_map, HNR.out]; omega)
     injection e2 with e2
     subst e2
     obtain ⟨⟨s0, t0⟩, hs0⟩ : ∃ x, (R.map PI.sgR).getD 0 (0, 0, 0) = x := ⟨_, rfl⟩
     obtain ⟨⟨s9, t9⟩, hs9⟩ : ∃ x, (R.map PI.sgR).getD q (0, 0, 0) = x := ⟨_, rfl⟩
     rw [hs0] at hr0
     rw [hs9] at hr1
     have d0 := hr0 0 _ rfl
     have d1 := hr1 0 _ rfl
     simp only [Nat.zero_mul, add0] at d0 d1
     have k5 : ¬ (nR : Int) = 1 := by omega
     have k6 : ((nR : Int) == 1) = false := by rw [beq_eq_false_iff_ne]; exact k5
     have k7 : (q : Int) < (nR : Int) := by omega
     have k8 : (0 : Int) < (nR : Int) := by omega
     have HX9 := Lib.hid H9
     clear hr0 hr1 hs0 hs9 hq H9
     go_wp2_with fail
     have keyw : ∀ nq : Nat, Code.wp Tryd.prog (Code.skip) (fun _ _ _ => True) ⟨#[], []⟩ w4 → True := fun _ _ => trivial
     clear keyw
     by_cases hs0 : s0 = s9
     ·have k9 : ((s0 : Int) == (s9 : Int)) = true := by rw [hs0]; simp
      clear hs0
      go_quiet (fail)
      have H10 := HX9.out.drewN nq
      generalize w4.drewN nq = w5 at H10 ⊢
      have HX10 := Lib.hid H10
      clear H10 HX9 d0 d1
      go_wp2_with fail
      refine (pnum_ok gp 29 5 l1 (HX10.out.pick 3 [2, 0, 1]) (by omega) (by omega)).mono ?_
      rintro _ w6 ⟨rfl, H11⟩
      clear HX10
      go_wp2_with fail
      refine (pnum_ok gp 29 5 _ H11 (by omega) (by rw [List.length_append, PBits.bitsOf_length]; omega)).mono ?_
      rintro _ w7 ⟨rfl, H12⟩
      clear H11
      go_wp2_with fail
      refine (pnum_ok gp 15 4 _ H12 (by omega) (by rw [List.length_append, List.length_append, PBits.bitsOf_length]; omega)).mono ?_
      rintro _ w8 ⟨rfl, H13⟩
      clear H12
      obtain ⟨l2, hl2⟩ : ∃ l2, l1 ++ PBits.bitsOf 29 5 ++ PBits.bitsOf 29 5 ++ PBits.bitsOf 15 4 = l2 := ⟨_, rfl⟩
      rw [hl2] at H13
      have hl2l : l2.length = l1.length + 14 := by rw [← hl2, List.length_append, List.length_append, List.length_append, PBits.bitsOf_length, PBits.bitsOf_length]
      have HL2 := Lib.hid hl2
      have HX13 : Hid (Sp w0 (Pen gp (l2 ++ PI.firstsW FF (PI.orderT.take 0)) :: Row 3 1 (.slice VF 19 vfc) 19 (cellsN FF) :: Row 102 3 (.slice (some asx) nR vsc) nR (cellsS (R.map PI.sgR)) :: L) w8) := Lib.hid (by
       rw [List.take_zero, show PI.firstsW FF [] = [] from rfl, List.append_nil]; exact H13)
      clear hl2 H13
      go_wp2_with fail
      go_loopw [16, 160] (fun _ jv wr => ∃ j : Nat, jv = .int .i64 (j : Int) ∧ j ≤ 19 ∧ Sp w0 (Pen gp (l2 ++ PI.firstsW FF (PI.orderT.take j)) :: Row 3 1 (.slice VF 19 vfc) 19 (cellsN FF) :: Row 102 3 (.slice (some asx) nR vsc) nR (cellsS (R.map PI.sgR)) :: L) wr) (fun _ jv _ => 19 - (intOf jv).toNat)
      case atStart => exact ⟨0, rfl, Nat.zero_le _, HX13.out⟩
      case round =>
       obtain ⟨j, rfl, hj, H14⟩ := hrel
       clear HX13
       by_cases hlt : j < 19
       ·have k1 : (j : Int) < 19 := by omega
        have hix := run_order j hlt
        obtain ⟨od, hod⟩ : ∃ od, PI.orderT.getD j 0 = od := ⟨_, rfl⟩
        have hod19 : od < 19 := by rw [← hod]; exact PI.orderT_lt j hlt
        rw [hod] at hix
        have htk : PI.firstsW FF (PI.orderT.take (j + 1)) = PI.firstsW FF (PI.orderT.take j) ++ PBits.bitsOf (FF.getD od 0) 3 := by
         rw [take_snoc PI.orderT j 0 (by show j < 19; exact hlt), hod]
         unfold PI.firstsW
         rw [List.flatMap_append]
         simp
        obtain ⟨fv, hfv⟩ : ∃ fv, FF.getD od 0 = fv := ⟨_, rfl⟩
        rw [hfv] at htk
        obtain ⟨afx, rfl, hcf⟩ := cellsN_at (row_ent 1 rfl _ _ H14) (k := od) (by rw [HF2.out]; exact hod19)
        rw [hfv] at hcf
        have k2 : (od : Int) < 19 := by omega
        have hlen : (PI.firstsW FF (PI.orderT.take j)).length ≤ 3 * 19 := by
         have : ∀ l : List Nat, (PI.firstsW FF l).length = 3 * l.length := fun l => by
          unfold PI.firstsW
          induction l with
          | nil => rfl
          | cons x l ih => rw [List.flatMap_cons, List.length_append, ih, PBits.bitsOf_length, List.length_cons]; omega
         rw [this, List.length_take]; omega
        have hpn := pnum_ok gp fv 3 _ H14 (by omega) (by rw [List.length_append]; omega)
        rw [List.append_assoc, ← htk] at hpn
        have HPN := Lib.hid hpn
        clear hpn htk hfv hod hlen H14
        go_wp2_with fail
        refine HPN.out.mono ?_
        rintro _ w9 ⟨rfl, H15⟩
        clear HPN hix
        go_wp2_with fail
        go_roundw
        case rel => exact ⟨j + 1, by go_num, by omega, H15⟩
        case measure => first | (simp [intOf]; omega) | simp [intOf]
       ·have k1 : ¬ (j : Int) < 19 := by omega
        obtain rfl : j = 19 := by omega
        have hpc := pcodes_ok VF 19 vfc FF (H14.pick 3 [1, 2, 0]) HF2.out.symm (row_ent 0 rfl) (by omega) (fun x hx => by have := HF3.out x hx; omega) (PI.book_sum HF1.out)
        have HPC := Lib.hid hpc
        have hlen : (PI.firstsW FF (PI.orderT.take 19)).length = 57 := by
         have : ∀ l : List Nat, (PI.firstsW FF l).length = 3 * l.length := fun l => by
          unfold PI.firstsW
          induction l with
          | nil => rfl
          | cons x l ih => rw [List.flatMap_cons, List.length_append, ih, PBits.bitsOf_length, List.length_cons]; omega
         rw [this]; rfl
        clear hpc H14
        go_wp2_with fail
        refine HPC.out.mono ?_
        rintro _ w9 ⟨vc, rfl, H15⟩
        obtain ⟨VC, cvc, rfl, _, _⟩ := Row.form H15 0 rfl
        obtain ⟨l3, hl3⟩ : ∃ l3, l2 ++ PI.firstsW FF (PI.orderT.take 19) = l3 := ⟨_, rfl⟩
        have hl3l : l3.length = l1.length + 71 := by rw [← hl3, List.length_append, hlen, hl2l]
        rw [hl3] at H15
        have HL3 := Lib.hid hl3
        have HX15 : Hid (Sp w0 (Row 63 1 (.slice VC 19 cvc) 19 (rowU (PH.codeAt FF) 19) :: Row 3 1 (.slice VF 19 vfc) 19 (cellsN FF) :: Row 102 3 (.slice (some asx) nR vsc) nR (cellsS (R.map PI.sgR)) :: Pen gp (l3 ++ PI.tellsW FF (R.take 0)) :: L) w9) := Lib.hid (by
         rw [List.take_zero, show PI.tellsW FF [] = [] from rfl, List.append_nil]; exact H15)
        clear HPC hlen hl3 H15
        go_wp2_with fail
        go_loopw [174] (fun jv wr => ∃ j : Nat, jv = .int .i64 (j : Int) ∧ j ≤ nR ∧ Sp w0 (Row 63 1 (.slice VC 19 cvc) 19 (rowU (PH.codeAt FF) 19) :: Row 3 1 (.slice VF 19 vfc) 19 (cellsN FF) :: Row 102 3 (.slice (some asx) nR vsc) nR (cellsS (R.map PI.sgR)) :: Pen gp (l3 ++ PI.tellsW FF (R.take j)) :: L) wr) (fun jv _ => nR - (intOf jv).toNat)
        case atStart => exact ⟨0, rfl, Nat.zero_le _, HX15.out⟩
        case round =>
         obtain ⟨j, rfl, hj, H7⟩ := hrel
         clear HX15
         by_cases hlt : j < nR
         ·have k1 : (j : Int) < (nR : Int) := by omega
          have hjR : j < R.length := by rw [HNR.out]; exact hlt
          obtain ⟨ax2, e2, hrd⟩ := rdS (row3 H7 2 rfl) (i := j) (by rw [List.length_map]; exact hjR)
          injection e2 with e2
          subst e2
          rw [show (R.map PI.sgR).getD j (0, 0, 0) = PI.sgR (R.getD j (0, 0)) by rw [List.getD_eq_getElem?_getD, List.getD_eq_getElem?_getD, List.getElem?_map, List.getElem?_eq_getElem hjR]; rfl] at hrd
          have htk : PI.tellsW FF (R.take (j + 1)) = PI.tellsW FF (R.take j) ++ PI.tellW FF (R.getD j (0, 0)) := by rw [take_snoc R j (0, 0) hjR]; unfold PI.tellsW; rw [List.flatMap_append]; simp
          have hsv := HVAL.out (R.getD j (0, 0)) (by rw [List.getD_eq_getElem?_getD, List.getElem?_eq_getElem hjR]; exact List.getElem_mem hjR)
          have htl : (PI.tellsW FF (R.take j)).length ≤ 14 * j := by
           have h9 : ∀ l : List (Nat × Nat), (PI.tellsW FF l).length ≤ 14 * l.length := fun l => by
            unfold PI.tellsW
            induction l with
            | nil => exact Nat.le_refl _
            | cons x l ih =>
             rw [List.flatMap_cons, List.length_append, List.length_cons]
             have h1 : (PI.tellW FF x).length ≤ 14 := by
              unfold PI.tellW PI.sayW
              rw [List.length_append, PI.codeW_len, PBits.bitsOf_length]
              have h2 := PI.tellB_le x.1
              have h3 : FF.getD x.1 0 ≤ 7 := by
               rw [List.getD_eq_getElem?_getD]
               rcases Nat.lt_or_ge x.1 FF.length with h | h
               ·rw [List.getElem?_eq_getElem h]; exact HF3.out _ (List.getElem_mem h)
               ·rw [List.getElem?_eq_none h]; exact Nat.zero_le _
              omega
             omega
           refine Nat.le_trans (h9 _) ?_
           rw [List.length_take]; omega
          obtain ⟨⟨s, v⟩, hx⟩ : ∃ x, R.getD j (0, 0) = x := ⟨_, rfl⟩
          rw [hx] at hrd htk hsv
          obtain ⟨tb, htb⟩ : ∃ tb, PI.tellB s = tb := ⟨_, rfl⟩
          have htb7 : tb ≤ 7 := by rw [← htb]; exact PI.tellB_le s
          have hsg : PI.sgR (s, v) = (s, v, tb) := by rw [← htb]; rfl
          rw [hsg] at hrd
          have hs19 : s < 19 := hsv.1
          have k2 : (s : Int) < 19 := by omega
          obtain ⟨cdv, hcdv⟩ : ∃ x, PH.codeAt FF s = x := ⟨_, rfl⟩
          obtain ⟨lnv, hlnv⟩ : ∃ x, FF.getD s 0 = x := ⟨_, rfl⟩
          have hcl : cdv < 4294967296 := by rw [← hcdv]; exact codeAt_u32 FF (fun x hx => by have := HF3.out x hx; omega) (PI.book_sum HF1.out) s
          have hll : lnv ≤ 7 := by
           rw [← hlnv, List.getD_eq_getElem?_getD, List.getElem?_eq_getElem (by rw [HF2.out]; exact hs19)]
           exact HF3.out _ (List.getElem_mem _)
          have htw : PI.tellsW FF (R.take (j + 1)) = PI.tellsW FF (R.take j) ++ (PH.bitsC lnv cdv ++ PBits.bitsOf v tb) := by
           rw [htk]; unfold PI.tellW PI.sayW PI.codeW; simp only; rw [hcdv, hlnv, htb]
          have gc : (rowU (PH.codeAt FF) 19)[s]? = some (.int .u32 (cdv : Int)) := by rw [rowU_get _ _ _ hs19, hcdv]
          have gl : (cellsN FF)[s]? = some (.int .i64 (lnv : Int)) := by
           have : s < FF.length := by rw [HF2.out]; exact hs19
           rw [← hlnv]; simp [cellsN, List.getD_eq_getElem?_getD, this]
          obtain ⟨axc, rfl, _⟩ := (row3 H7 0 rfl) (fun h0 => by rw [h0] at gc; cases gc)
          obtain ⟨afx, rfl, _⟩ := (row3 H7 1 rfl) (fun h0 => by rw [h0] at gl; cases gl)
          have HRD := Lib.hid hrd
          have HTW := Lib.hid htw
          have HCV := Lib.hid hcl
          have HCE : Hid (∀ g8 : Nat, Ent (Row 63 1 (.slice (some axc) 19 cvc) 19 (rowU (PH.codeAt FF) 19) :: Row 3 1 (.slice (some afx) 19 vfc) 19 (cellsN FF) :: Bk g8 102 (sgC (s, v, tb)) :: Row 102 3 (.slice (some asx) nR vsc) nR (cellsS (R.map PI.sgR)) :: L) fun w => w.cell? (axc.add s) = some (.int .u32 (cdv : Int))) := Lib.hid fun g8 w0 w h => by
           obtain ⟨a9, e9, hc9⟩ := row3 h 0 rfl (fun h0 => by rw [h0] at gc; cases gc)
           injection e9 with e9
           subst e9
           exact hc9 _ _ gc
          have HLE : Hid (∀ g8 : Nat, Ent (Row 63 1 (.slice (some axc) 19 cvc) 19 (rowU (PH.codeAt FF) 19) :: Row 3 1 (.slice (some afx) 19 vfc) 19 (cellsN FF) :: Bk g8 102 (sgC (s, v, tb)) :: Row 102 3 (.slice (some asx) nR vsc) nR (cellsS (R.map PI.sgR)) :: L) fun w => w.cell? (afx.add s) = some (.int .i64 (lnv : Int))) := Lib.hid fun g8 w0 w h => by
           obtain ⟨a9, e9, hc9⟩ := row3 h 1 rfl (fun h0 => by rw [h0] at gl; cases gl)
           injection e9 with e9
           subst e9
           exact hc9 _ _ gl
          obtain ⟨l4, hl4⟩ : ∃ l4, l3 ++ PI.tellsW FF (R.take j) = l4 := ⟨_, rfl⟩
          have hl4l : l4.length ≤ l1.length + 71 + 14 * 316 := by rw [← hl4, List.length_append]; omega
          rw [hl4] at H7
          have HL4 := Lib.hid hl4
          have hnb := H7.newBk [.int .i64 0, .int .i64 0, .int .i64 0] 102
          have HNB := Lib.hid hnb
          clear hrd htk hx hsg htb hnb H7 hsv hjR hcdv hlnv htw hcl gc gl hl4 htl
          go_wp2_with (first | (refine wpList_load_agg rfl 102 _ rfl (asx.add (j * 3)) (sgC (s, v, tb)) rfl HRD.out Tryd.isAgg102 Tryd.sizeOf102 ?_) | (refine wpList_store_whole rfl 102 _ _ rfl wr.heap.size 102 [.int .i64 0, .int .i64 0, .int .i64 0] (sgC (s, v, tb)) rfl rfl HNB.out rfl Tryd.sizeOf102 (sgC_one _) ?_))
          intro w8 H8
          generalize wr.heap.size = g8 at H8 ⊢
          replace HCE := Lib.hid (HCE.out g8)
          replace HLE := Lib.hid (HLE.out g8)
          have HX := Lib.hid (H8.pick 5 [4, 1, 2, 0, 3])
          clear HNB HRD H8
          go_wp2_with fail
          refine wp_region_sp (L := (Row 63 1 (.slice (some axc) 19 cvc) 19 (rowU (PH.codeAt FF) 19) :: Row 3 1 (.slice (some afx) 19 vfc) 19 (cellsN FF) :: Bk g8 102 (sgC (s, v, tb)) :: Row 102 3 (.slice (some asx) nR vsc) nR (cellsS (R.map PI.sgR)) :: L)) (fun ix vx => ([(· = .pointer (some ⟨gp, 0, none⟩)), (· = .slice (some axc) 19 cvc), (· = .pointer (some ⟨g8, 0, none⟩)), (· = .int .i64 (s : Int)), (· = .pointer (some (axc.add s))), (· = .int .u32 (cdv : Int)), (· = .slice (some afx) 19 vfc), (· = .pointer (some ⟨g8, 0, none⟩)), (· = .int .i64 (s : Int)), (· = .pointer (some (afx.add s))), (· = .int .i64 (lnv : Int)), (· = .tuple #[])] : List (Value → Prop)).getD ix (fun _ => True) vx)
           (fun ix vx => ([fun _ => [], fun _ => [], fun _ => [], fun _ => [], fun _ => [], fun _ => [], fun _ => [], fun _ => [], fun _ => [], fun _ => [], fun _ => [], fun _ => [Pen gp (l4 ++ PH.bitsC lnv cdv)]] : List (Value → List Pr)).getD ix (fun _ => []) vx) (fun ix => ([[], [], [], [], [], [], [], [], [], [], [], [Pen gp l4]] : List (List Pr)).getD ix []) 12 197
           [some 178, some 179, some 180, some 181, some 182, some 183, some 184, some 185, some 186, some 187, some 188, some 189]
           [[], [], [], [2], [1, 3], [4], [], [], [7], [6, 8], [9], [0, 5, 10]]
           [[], [], [], [2], [1, 2, 3], [1, 2, 3, 4], [], [], [7], [6, 7, 8], [6, 7, 8, 9], [0, 1, 2, 3, 4, 5, 6, 7, 8, 9, 10]]
           [[], [], [], [], [], [], [], [], [], [], [], []]
           [[], [], [], [], [], [], [], [], [], [], [], []]
           [(0, .pointer (some ⟨gp, 0, none⟩)), (14, .slice (some afx) 19 vfc), (17, .slice (some axc) 19 cvc), (19, .pointer (some ⟨g8, 0, none⟩))]
           (by kernel_rfl) rfl (by decide) (by rfl) rfl (by decide +kernel) (by decide +kernel) (by rfl) rfl rfl (by decide) (by simp) (by rfl) (HX.out) ?hstep ?hend
          case hstep =>
           refine ⟨?_, ⟨?_, ⟨?_, ⟨?_, ⟨?_, ⟨?_, ⟨?_, ⟨?_, ⟨?_, ⟨?_, ⟨?_, ⟨?_, trivial⟩⟩⟩⟩⟩⟩⟩⟩⟩⟩⟩⟩
           ·intro x wx A rest hN hS hE H K hK0
            have e0 : A.tmps[0]?.getD undef = .pointer (some ⟨gp, 0, none⟩) := hN (0, .pointer (some ⟨gp, 0, none⟩)) (by simp)
            replace H : Sp w0 (rest) wx := H
            have hK : Hid (∀ (v : Value) (w' : World), v = .pointer (some ⟨gp, 0, none⟩) → Sp w0 (rest) w' → K (A.put (some 178) v) w') := Lib.hid hK0
            clear hK0 hN hS hE
            change Oper.wp _ _ A wx K _
            go_step
            exact hK.out _ _ rfl (H)
           ·intro x wx A rest hN hS hE H K hK0
            have e17 : A.tmps[17]?.getD undef = .slice (some axc) 19 cvc := hN (17, .slice (some axc) 19 cvc) (by simp)
            replace H : Sp w0 (rest) wx := H
            have hK : Hid (∀ (v : Value) (w' : World), v = .slice (some axc) 19 cvc → Sp w0 (rest) w' → K (A.put (some 179) v) w') := Lib.hid hK0
            clear hK0 hN hS hE
            change Oper.wp _ _ A wx K _
            go_step
            exact hK.out _ _ rfl (H)
           ·intro x wx A rest hN hS hE H K hK0
            have e19 : A.tmps[19]?.getD undef = .pointer (some ⟨g8, 0, none⟩) := hN (19, .pointer (some ⟨g8, 0, none⟩)) (by simp)
            replace H : Sp w0 (rest) wx := H
            have hK : Hid (∀ (v : Value) (w' : World), v = .pointer (some ⟨g8, 0, none⟩) → Sp w0 (rest) w' → K (A.put (some 180) v) w') := Lib.hid hK0
            clear hK0 hN hS hE
            change Oper.wp _ _ A wx K _
            go_step
            exact hK.out _ _ rfl (H)
           ·intro x wx A rest hN hS hE H K hK0
            have e180 : A.tmps[180]?.getD undef = .pointer (some ⟨g8, 0, none⟩) := ((hS 2 (by decide)).2 180 rfl).trans (hS 2 (by decide)).1
            replace H : Sp w0 (rest) wx := H
            have hK : Hid (∀ (v : Value) (w' : World), v = .int .i64 (s : Int) → Sp w0 (rest) w' → K (A.put (some 181) v) w') := Lib.hid hK0
            clear hK0 hN hS
            have ctb := hE (fun w => w.cell? ⟨g8, 0, none⟩ = some (.int .i64 (s : Int))) (fun w0 w h => h.cell 2 rfl 0) _ _ H
            change Oper.wp _ _ A wx K _
            go_step
            exact hK.out _ _ rfl (H)
           ·intro x wx A rest hN hS hE H K hK0
            have e179 : A.tmps[179]?.getD undef = .slice (some axc) 19 cvc := ((hS 1 (by decide)).2 179 rfl).trans (hS 1 (by decide)).1
            have e181 : A.tmps[181]?.getD undef = .int .i64 (s : Int) := ((hS 3 (by decide)).2 181 rfl).trans (hS 3 (by decide)).1
            replace H : Sp w0 (rest) wx := H
            have hK : Hid (∀ (v : Value) (w' : World), v = .pointer (some (axc.add s)) → Sp w0 (rest) w' → K (A.put (some 182) v) w') := Lib.hid hK0
            clear hK0 hN hS hE
            change Oper.wp _ _ A wx K _
            go_step
            exact hK.out _ _ rfl (H)
           ·intro x wx A rest hN hS hE H K hK0
            have e182 : A.tmps[182]?.getD undef = .pointer (some (axc.add s)) := ((hS 4 (by decide)).2 182 rfl).trans (hS 4 (by decide)).1
            replace H : Sp w0 (rest) wx := H
            have hK : Hid (∀ (v : Value) (w' : World), v = .int .u32 (cdv : Int) → Sp w0 (rest) w' → K (A.put (some 183) v) w') := Lib.hid hK0
            clear hK0 hN hS
            have ctb := hE _ HCE.out _ _ H
            change Oper.wp _ _ A wx K _
            go_step
            exact hK.out _ _ rfl (H)
           ·intro x wx A rest hN hS hE H K hK0
            have e14 : A.tmps[14]?.getD undef = .slice (some afx) 19 vfc := hN (14, .slice (some afx) 19 vfc) (by simp)
            replace H : Sp w0 (rest) wx := H
            have hK : Hid (∀ (v : Value) (w' : World), v = .slice (some afx) 19 vfc → Sp w0 (rest) w' → K (A.put (some 184) v) w') := Lib.hid hK0
            clear hK0 hN hS hE
            change Oper.wp _ _ A wx K _
            go_step
            exact hK.out _ _ rfl (H)
           ·intro x wx A rest hN hS hE H K hK0
            have e19 : A.tmps[19]?.getD undef = .pointer (some ⟨g8, 0, none⟩) := hN (19, .pointer (some ⟨g8, 0, none⟩)) (by simp)
            replace H : Sp w0 (rest) wx := H
            have hK : Hid (∀ (v : Value) (w' : World), v = .pointer (some ⟨g8, 0, none⟩) → Sp w0 (rest) w' → K (A.put (some 185) v) w') := Lib.hid hK0
            clear hK0 hN hS hE
            change Oper.wp _ _ A wx K _
            go_step
            exact hK.out _ _ rfl (H)
           ·intro x wx A rest hN hS hE H K hK0
            have e185 : A.tmps[185]?.getD undef = .pointer (some ⟨g8, 0, none⟩) := ((hS 7 (by decide)).2 185 rfl).trans (hS 7 (by decide)).1
            replace H : Sp w0 (rest) wx := H
            have hK : Hid (∀ (v : Value) (w' : World), v = .int .i64 (s : Int) → Sp w0 (rest) w' → K (A.put (some 186) v) w') := Lib.hid hK0
            clear hK0 hN hS
            have ctb := hE (fun w => w.cell? ⟨g8, 0, none⟩ = some (.int .i64 (s : Int))) (fun w0 w h => h.cell 2 rfl 0) _ _ H
            change Oper.wp _ _ A wx K _
            go_step
            exact hK.out _ _ rfl (H)
           ·intro x wx A rest hN hS hE H K hK0
            have e184 : A.tmps[184]?.getD undef = .slice (some afx) 19 vfc := ((hS 6 (by decide)).2 184 rfl).trans (hS 6 (by decide)).1
            have e186 : A.tmps[186]?.getD undef = .int .i64 (s : Int) := ((hS 8 (by decide)).2 186 rfl).trans (hS 8 (by decide)).1
            replace H : Sp w0 (rest) wx := H
            have hK : Hid (∀ (v : Value) (w' : World), v = .pointer (some (afx.add s)) → Sp w0 (rest) w' → K (A.put (some 187) v) w') := Lib.hid hK0
            clear hK0 hN hS hE
            change Oper.wp _ _ A wx K _
            go_step
            exact hK.out _ _ rfl (H)
           ·intro x wx A rest hN hS hE H K hK0
            have e187 : A.tmps[187]?.getD undef = .pointer (some (afx.add s)) := ((hS 9 (by decide)).2 187 rfl).trans (hS 9 (by decide)).1
            replace H : Sp w0 (rest) wx := H
            have hK : Hid (∀ (v : Value) (w' : World), v = .int .i64 (lnv : Int) → Sp w0 (rest) w' → K (A.put (some 188) v) w') := Lib.hid hK0
            clear hK0 hN hS
            have ctb := hE _ HLE.out _ _ H
            change Oper.wp _ _ A wx K _
            go_step
            exact hK.out _ _ rfl (H)
           ·intro x wx A rest hN hS hE H K hK0
            have e178 : A.tmps[178]?.getD undef = .pointer (some ⟨gp, 0, none⟩) := ((hS 0 (by decide)).2 178 rfl).trans (hS 0 (by decide)).1
            have e183 : A.tmps[183]?.getD undef = .int .u32 (cdv : Int) := ((hS 5 (by decide)).2 183 rfl).trans (hS 5 (by decide)).1
            have e188 : A.tmps[188]?.getD undef = .int .i64 (lnv : Int) := ((hS 10 (by decide)).2 188 rfl).trans (hS 10 (by decide)).1
            replace H : Sp w0 ((Pen gp l4) :: rest) wx := H
            have hK : Hid (∀ (v : Value) (w' : World), v = .tuple #[] → Sp w0 ((Pen gp (l4 ++ PH.bitsC lnv cdv)) :: rest) w' → K (A.put (some 189) v) w') := Lib.hid hK0
            clear hK0 hN hS hE
            change Oper.wp _ _ A wx K _
            go_wp2_with fail
            refine (pcode_ok gp cdv lnv l4 H HCV.out (by omega) (by omega)).mono ?_
            rintro _ w9 ⟨rfl, H9⟩
            exact hK.out _ _ rfl H9
          case hend =>
           intro x wx A hA hS H
           replace H : Sp w0 ((Pen gp (l4 ++ PH.bitsC lnv cdv)) :: (Row 63 1 (.slice (some axc) 19 cvc) 19 (rowU (PH.codeAt FF) 19) :: Row 3 1 (.slice (some afx) 19 vfc) 19 (cellsN FF) :: Bk g8 102 (sgC (s, v, tb)) :: Row 102 3 (.slice (some asx) nR vsc) nR (cellsS (R.map PI.sgR)) :: L)) wx := H
           clear hS
           simp only [putAll, Act.put, List.setIfInBounds_toArray, List.set_cons_succ, List.set_cons_zero, Nat.reduceAdd] at hA
           subst hA
           have HZ := Lib.hid H
           clear H HX
           have c5 : wx.cell? ⟨g8, 1, none⟩ = some (.int .i64 (v : Int)) := HZ.out.cell 3 rfl 1
           have c6 : wx.cell? ⟨g8, 2, none⟩ = some (.int .i64 (tb : Int)) := HZ.out.cell 3 rfl 2
           have hpn := pnum_ok gp v tb _ HZ.out (by omega) (by rw [List.length_append, PH.bitsC_len]; omega)
           rw [← HL4.out, List.append_assoc, List.append_assoc, ← HTW.out] at hpn
           have HNU := Lib.hid hpn
           clear hpn
           go_wp2_with fail
           refine HNU.out.mono ?_
           rintro _ w9 ⟨rfl, H9⟩
           clear HNU HZ
           go_wp2_with fail
           go_roundw
           case rel => exact ⟨j + 1, by go_num, by omega, H9.pick 5 [1, 2, 4, 0]⟩
           case measure => first | (simp [intOf]; omega) | simp [intOf]
         ·have k1 : ¬ (j : Int) < (nR : Int) := by omega
          obtain rfl : nR = j := by omega
          rw [List.take_of_length_le (by rw [HNR.out]; exact Nat.le_refl _)] at H7
          go_wp2_with fail
          go_end0
          refine ⟨rfl, ?_⟩
          have e : l1 ++ PI.headsW m d = l3 ++ PI.tellsW FF R := by
           unfold PI.headsW PI.headW
           rw [HRWD.out, HFF.out, ← HL3.out, ← HL2.out]
           simp only [List.append_assoc]
          rw [e]
          exact H7.pick 4 [3]
     ·have k9 : ((s0 : Int) == (s9 : Int)) = false := by rw [beq_eq_false_iff_ne]; omega
      clear hs0
      go_quiet (fail)
      have H10 := HX9.out.drewN nq
      generalize w4.drewN nq = w5 at H10 ⊢
      have HX10 := Lib.hid H10
      clear H10 HX9 d0 d1
      go_wp2_with fail
      refine (pnum_ok gp 29 5 l1 (HX10.out.pick 3 [2, 0, 1]) (by omega) (by omega)).mono ?_
      rintro _ w6 ⟨rfl, H11⟩
      clear HX10
      go_wp2_with fail
      refine (pnum_ok gp 29 5 _ H11 (by omega) (by rw [List.length_append, PBits.bitsOf_length]; omega)).mono ?_
      rintro _ w7 ⟨rfl, H12⟩
      clear H11
      go_wp2_with fail
      refine (pnum_ok gp 15 4 _ H12 (by omega) (by rw [List.length_append, List.length_append, PBits.bitsOf_length]; omega)).mono ?_
      rintro _ w8 ⟨rfl, H13⟩
      clear H12
      obtain ⟨l2, hl2⟩ : ∃ l2, l1 ++ PBits.bitsOf 29 5 ++ PBits.bitsOf 29 5 ++ PBits.bitsOf 15 4 = l2 := ⟨_, rfl⟩
      rw [hl2] at H13
      have hl2l : l2.length = l1.length + 14 := by rw [← hl2, List.length_append, List.length_append, List.length_append, PBits.bitsOf_length, PBits.bitsOf_length]
      have HL2 := Lib.hid hl2
      have HX13 : Hid (Sp w0 (Pen gp (l2 ++ PI.firstsW FF (PI.orderT.take 0)) :: Row 3 1 (.slice VF 19 vfc) 19 (cellsN FF) :: Row 102 3 (.slice (some asx) nR vsc) nR (cellsS (R.map PI.sgR)) :: L) w8) := Lib.hid (by
       rw [List.take_zero, show PI.firstsW FF [] = [] from rfl, List.append_nil]; exact H13)
      clear hl2 H13
      go_wp2_with fail
      go_loopw [16, 160] (fun _ jv wr => ∃ j : Nat, jv = .int .i64 (j : Int) ∧ j ≤ 19 ∧ Sp w0 (Pen gp (l2 ++ PI.firstsW FF (PI.orderT.take j)) :: Row 3 1 (.slice VF 19 vfc) 19 (cellsN FF) :: Row 102 3 (.slice (some asx) nR vsc) nR (cellsS (R.map PI.sgR)) :: L) wr) (fun _ jv _ => 19 - (intOf jv).toNat)
      case atStart => exact ⟨0, rfl, Nat.zero_le _, HX13.out⟩
      case round =>
       obtain ⟨j, rfl, hj, H14⟩ := hrel
       clear HX13
       by_cases hlt : j < 19
       ·have k1 : (j : Int) < 19 := by omega
        have hix := run_order j hlt
        obtain ⟨od, hod⟩ : ∃ od, PI.orderT.getD j 0 = od := ⟨_, rfl⟩
        have hod19 : od < 19 := by rw [← hod]; exact PI.orderT_lt j hlt
        rw [hod] at hix
        have htk : PI.firstsW FF (PI.orderT.take (j + 1)) = PI.firstsW FF (PI.orderT.take j) ++ PBits.bitsOf (FF.getD od 0) 3 := by
         rw [take_snoc PI.orderT j 0 (by show j < 19; exact hlt), hod]
         unfold PI.firstsW
         rw [List.flatMap_append]
         simp
        obtain ⟨fv, hfv⟩ : ∃ fv, FF.getD od 0 = fv := ⟨_, rfl⟩
        rw [hfv] at htk
        obtain ⟨afx, rfl, hcf⟩ := cellsN_at (row_ent 1 rfl _ _ H14) (k := od) (by rw [HF2.out]; exact hod19)
        rw [hfv] at hcf
        have k2 : (od : Int) < 19 := by omega
        have hlen : (PI.firstsW FF (PI.orderT.take j)).length ≤ 3 * 19 := by
         have : ∀ l : List Nat, (PI.firstsW FF l).length = 3 * l.length := fun l => by
          unfold PI.firstsW
          induction l with
          | nil => rfl
          | cons x l ih => rw [List.flatMap_cons, List.length_append, ih, PBits.bitsOf_length, List.length_cons]; omega
         rw [this, List.length_take]; omega
        have hpn := pnum_ok gp fv 3 _ H14 (by omega) (by rw [List.length_append]; omega)
        rw [List.append_assoc, ← htk] at hpn
        have HPN := Lib.hid hpn
        clear hpn htk hfv hod hlen H14
        go_wp2_with fail
        refine HPN.out.mono ?_
        rintro _ w9 ⟨rfl, H15⟩
        clear HPN hix
        go_wp2_with fail
        go_roundw
        case rel => exact ⟨j + 1, by go_num, by omega, H15⟩
        case measure => first | (simp [intOf]; omega) | simp [intOf]
       ·have k1 : ¬ (j : Int) < 19 := by omega
        obtain rfl : j = 19 := by omega
        have hpc := pcodes_ok VF 19 vfc FF (H14.pick 3 [1, 2, 0]) HF2.out.symm (row_ent 0 rfl) (by omega) (fun x hx => by have := HF3.out x hx; omega) (PI.book_sum HF1.out)
        have HPC := Lib.hid hpc
        have hlen : (PI.firstsW FF (PI.orderT.take 19)).length = 57 := by
         have : ∀ l : List Nat, (PI.firstsW FF l).length = 3 * l.length := fun l => by
          unfold PI.firstsW
          induction l with
          | nil => rfl
          | cons x l ih => rw [List.flatMap_cons, List.length_append, ih, PBits.bitsOf_length, List.length_cons]; omega
         rw [this]; rfl
        clear hpc H14
        go_wp2_with fail
        refine HPC.out.mono ?_
        rintro _ w9 ⟨vc, rfl, H15⟩
        obtain ⟨VC, cvc, rfl, _, _⟩ := Row.form H15 0 rfl
        obtain ⟨l3, hl3⟩ : ∃ l3, l2 ++ PI.firstsW FF (PI.orderT.take 19) = l3 := ⟨_, rfl⟩
        have hl3l : l3.length = l1.length + 71 := by rw [← hl3, List.length_append, hlen, hl2l]
        rw [hl3] at H15
        have HL3 := Lib.hid hl3
        have HX15 : Hid (Sp w0 (Row 63 1 (.slice VC 19 cvc) 19 (rowU (PH.codeAt FF) 19) :: Row 3 1 (.slice VF 19 vfc) 19 (cellsN FF) :: Row 102 3 (.slice (some asx) nR vsc) nR (cellsS (R.map PI.sgR)) :: Pen gp (l3 ++ PI.tellsW FF (R.take 0)) :: L) w9) := Lib.hid (by
         rw [List.take_zero, show PI.tellsW FF [] = [] from rfl, List.append_nil]; exact H15)
        clear HPC hlen hl3 H15
        go_wp2_with fail
        go_loopw [174] (fun jv wr => ∃ j : Nat, jv = .int .i64 (j : Int) ∧ j ≤ nR ∧ Sp w0 (Row 63 1 (.slice VC 19 cvc) 19 (rowU (PH.codeAt FF) 19) :: Row 3 1 (.slice VF 19 vfc) 19 (cellsN FF) :: Row 102 3 (.slice (some asx) nR vsc) nR (cellsS (R.map PI.sgR)) :: Pen gp (l3 ++ PI.tellsW FF (R.take j)) :: L) wr) (fun jv _ => nR - (intOf jv).toNat)
        case atStart => exact ⟨0, rfl, Nat.zero_le _, HX15.out⟩
        case round =>
         obtain ⟨j, rfl, hj, H7⟩ := hrel
         clear HX15
         by_cases hlt : j < nR
         ·have k1 : (j : Int) < (nR : Int) := by omega
          have hjR : j < R.length := by rw [HNR.out]; exact hlt
          obtain ⟨ax2, e2, hrd⟩ := rdS (row3 H7 2 rfl) (i := j) (by rw [List.length_map]; exact hjR)
          injection e2 with e2
          subst e2
          rw [show (R.map PI.sgR).getD j (0, 0, 0) = PI.sgR (R.getD j (0, 0)) by rw [List.getD_eq_getElem?_getD, List.getD_eq_getElem?_getD, List.getElem?_map, List.getElem?_eq_getElem hjR]; rfl] at hrd
          have htk : PI.tellsW FF (R.take (j + 1)) = PI.tellsW FF (R.take j) ++ PI.tellW FF (R.getD j (0, 0)) := by rw [take_snoc R j (0, 0) hjR]; unfold PI.tellsW; rw [List.flatMap_append]; simp
          have hsv := HVAL.out (R.getD j (0, 0)) (by rw [List.getD_eq_getElem?_getD, List.getElem?_eq_getElem hjR]; exact List.getElem_mem hjR)
          have htl : (PI.tellsW FF (R.take j)).length ≤ 14 * j := by
           have h9 : ∀ l : List (Nat × Nat), (PI.tellsW FF l).length ≤ 14 * l.length := fun l => by
            unfold PI.tellsW
            induction l with
            | nil => exact Nat.le_refl _
            | cons x l ih =>
             rw [List.flatMap_cons, List.length_append, List.length_cons]
             have h1 : (PI.tellW FF x).length ≤ 14 := by
              unfold PI.tellW PI.sayW
              rw [List.length_append, PI.codeW_len, PBits.bitsOf_length]
              have h2 := PI.tellB_le x.1
              have h3 : FF.getD x.1 0 ≤ 7 := by
               rw [List.getD_eq_getElem?_getD]
               rcases Nat.lt_or_ge x.1 FF.length with h | h
               ·rw [List.getElem?_eq_getElem h]; exact HF3.out _ (List.getElem_mem h)
               ·rw [List.getElem?_eq_none h]; exact Nat.zero_le _
              omega
             omega
           refine Nat.le_trans (h9 _) ?_
           rw [List.length_take]; omega
          obtain ⟨⟨s, v⟩, hx⟩ : ∃ x, R.getD j (0, 0) = x := ⟨_, rfl⟩
          rw [hx] at hrd htk hsv
          obtain ⟨tb, htb⟩ : ∃ tb, PI.tellB s = tb := ⟨_, rfl⟩
          have htb7 : tb ≤ 7 := by rw [← htb]; exact PI.tellB_le s
          have hsg : PI.sgR (s, v) = (s, v, tb) := by rw [← htb]; rfl
          rw [hsg] at hrd
          have hs19 : s < 19 := hsv.1
          have k2 : (s : Int) < 19 := by omega
          obtain ⟨cdv, hcdv⟩ : ∃ x, PH.codeAt FF s = x := ⟨_, rfl⟩
          obtain ⟨lnv, hlnv⟩ : ∃ x, FF.getD s 0 = x := ⟨_, rfl⟩
          have hcl : cdv < 4294967296 := by rw [← hcdv]; exact codeAt_u32 FF (fun x hx => by have := HF3.out x hx; omega) (PI.book_sum HF1.out) s
          have hll : lnv ≤ 7 := by
           rw [← hlnv, List.getD_eq_getElem?_getD, List.getElem?_eq_getElem (by rw [HF2.out]; exact hs19)]
           exact HF3.out _ (List.getElem_mem _)
          have htw : PI.tellsW FF (R.take (j + 1)) = PI.tellsW FF (R.take j) ++ (PH.bitsC lnv cdv ++ PBits.bitsOf v tb) := by
           rw [htk]; unfold PI.tellW PI.sayW PI.codeW; simp only; rw [hcdv, hlnv, htb]
          have gc : (rowU (PH.codeAt FF) 19)[s]? = some (.int .u32 (cdv : Int)) := by rw [rowU_get _ _ _ hs19, hcdv]
          have gl : (cellsN FF)[s]? = some (.int .i64 (lnv : Int)) := by
           have : s < FF.length := by rw [HF2.out]; exact hs19
           rw [← hlnv]; simp [cellsN, List.getD_eq_getElem?_getD, this]
          obtain ⟨axc, rfl, _⟩ := (row3 H7 0 rfl) (fun h0 => by rw [h0] at gc; cases gc)
          obtain ⟨afx, rfl, _⟩ := (row3 H7 1 rfl) (fun h0 => by rw [h0] at gl; cases gl)
          have HRD := Lib.hid hrd
          have HTW := Lib.hid htw
          have HCV := Lib.hid hcl
          have HCE : Hid (∀ g8 : Nat, Ent (Row 63 1 (.slice (some axc) 19 cvc) 19 (rowU (PH.codeAt FF) 19) :: Row 3 1 (.slice (some afx) 19 vfc) 19 (cellsN FF) :: Bk g8 102 (sgC (s, v, tb)) :: Row 102 3 (.slice (some asx) nR vsc) nR (cellsS (R.map PI.sgR)) :: L) fun w => w.cell? (axc.add s) = some (.int .u32 (cdv : Int))) := Lib.hid fun g8 w0 w h => by
           obtain ⟨a9, e9, hc9⟩ := row3 h 0 rfl (fun h0 => by rw [h0] at gc; cases gc)
           injection e9 with e9
           subst e9
           exact hc9 _ _ gc
          have HLE : Hid (∀ g8 : Nat, Ent (Row 63 1 (.slice (some axc) 19 cvc) 19 (rowU (PH.codeAt FF) 19) :: Row 3 1 (.slice (some afx) 19 vfc) 19 (cellsN FF) :: Bk g8 102 (sgC (s, v, tb)) :: Row 102 3 (.slice (some asx) nR vsc) nR (cellsS (R.map PI.sgR)) :: L) fun w => w.cell? (afx.add s) = some (.int .i64 (lnv : Int))) := Lib.hid fun g8 w0 w h => by
           obtain ⟨a9, e9, hc9⟩ := row3 h 1 rfl (fun h0 => by rw [h0] at gl; cases gl)
           injection e9 with e9
           subst e9
           exact hc9 _ _ gl
          obtain ⟨l4, hl4⟩ : ∃ l4, l3 ++ PI.tellsW FF (R.take j) = l4 := ⟨_, rfl⟩
          have hl4l : l4.length ≤ l1.length + 71 + 14 * 316 := by rw [← hl4, List.length_append]; omega
          rw [hl4] at H7
          have HL4 := Lib.hid hl4
          have hnb := H7.newBk [.int .i64 0, .int .i64 0, .int .i64 0] 102
          have HNB := Lib.hid hnb
          clear hrd htk hx hsg htb hnb H7 hsv hjR hcdv hlnv htw hcl gc gl hl4 htl
          go_wp2_with (first | (refine wpList_load_agg rfl 102 _ rfl (asx.add (j * 3)) (sgC (s, v, tb)) rfl HRD.out Tryd.isAgg102 Tryd.sizeOf102 ?_) | (refine wpList_store_whole rfl 102 _ _ rfl wr.heap.size 102 [.int .i64 0, .int .i64 0, .int .i64 0] (sgC (s, v, tb)) rfl rfl HNB.out rfl Tryd.sizeOf102 (sgC_one _) ?_))
          intro w8 H8
          generalize wr.heap.size = g8 at H8 ⊢
          replace HCE := Lib.hid (HCE.out g8)
          replace HLE := Lib.hid (HLE.out g8)
          have HX := Lib.hid (H8.pick 5 [4, 1, 2, 0, 3])
          clear HNB HRD H8
          go_wp2_with fail
          refine wp_region_sp (L := (Row 63 1 (.slice (some axc) 19 cvc) 19 (rowU (PH.codeAt FF) 19) :: Row 3 1 (.slice (some afx) 19 vfc) 19 (cellsN FF) :: Bk g8 102 (sgC (s, v, tb)) :: Row 102 3 (.slice (some asx) nR vsc) nR (cellsS (R.map PI.sgR)) :: L)) (fun ix vx => ([(· = .pointer (some ⟨gp, 0, none⟩)), (· = .slice (some axc) 19 cvc), (· = .pointer (some ⟨g8, 0, none⟩)), (· = .int .i64 (s : Int)), (· = .pointer (some (axc.add s))), (· = .int .u32 (cdv : Int)), (· = .slice (some afx) 19 vfc), (· = .pointer (some ⟨g8, 0, none⟩)), (· = .int .i64 (s : Int)), (· = .pointer (some (afx.add s))), (· = .int .i64 (lnv : Int)), (· = .tuple #[])] : List (Value → Prop)).getD ix (fun _ => True) vx)
           (fun ix vx => ([fun _ => [], fun _ => [], fun _ => [], fun _ => [], fun _ => [], fun _ => [], fun _ => [], fun _ => [], fun _ => [], fun _ => [], fun _ => [], fun _ => [Pen gp (l4 ++ PH.bitsC lnv cdv)]] : List (Value → List Pr)).getD ix (fun _ => []) vx) (fun ix => ([[], [], [], [], [], [], [], [], [], [], [], [Pen gp l4]] : List (List Pr)).getD ix []) 12 197
           [some 178, some 179, some 180, some 181, some 182, some 183, some 184, some 185, some 186, some 187, some 188, some 189]
           [[], [], [], [2], [1, 3], [4], [], [], [7], [6, 8], [9], [0, 5, 10]]
           [[], [], [], [2], [1, 2, 3], [1, 2, 3, 4], [], [], [7], [6, 7, 8], [6, 7, 8, 9], [0, 1, 2, 3, 4, 5, 6, 7, 8, 9, 10]]
           [[], [], [], [], [], [], [], [], [], [], [], []]
           [[], [], [], [], [], [], [], [], [], [], [], []]
           [(0, .pointer (some ⟨gp, 0, none⟩)), (14, .slice (some afx) 19 vfc), (17, .slice (some axc) 19 cvc), (19, .pointer (some ⟨g8, 0, none⟩))]
           (by kernel_rfl) rfl (by decide) (by rfl) rfl (by decide +kernel) (by decide +kernel) (by rfl) rfl rfl (by decide) (by simp) (by rfl) (HX.out) ?hstep ?hend
          case hstep =>
           refine ⟨?_, ⟨?_, ⟨?_, ⟨?_, ⟨?_, ⟨?_, ⟨?_, ⟨?_, ⟨?_, ⟨?_, ⟨?_, ⟨?_, trivial⟩⟩⟩⟩⟩⟩⟩⟩⟩⟩⟩⟩
           ·intro x wx A rest hN hS hE H K hK0
            have e0 : A.tmps[0]?.getD undef = .pointer (some ⟨gp, 0, none⟩) := hN (0, .pointer (some ⟨gp, 0, none⟩)) (by simp)
            replace H : Sp w0 (rest) wx := H
            have hK : Hid (∀ (v : Value) (w' : World), v = .pointer (some ⟨gp, 0, none⟩) → Sp w0 (rest) w' → K (A.put (some 178) v) w') := Lib.hid hK0
            clear hK0 hN hS hE
            change Oper.wp _ _ A wx K _
            go_step
            exact hK.out _ _ rfl (H)
           ·intro x wx A rest hN hS hE H K hK0
            have e17 : A.tmps[17]?.getD undef = .slice (some axc) 19 cvc := hN (17, .slice (some axc) 19 cvc) (by simp)
            replace H : Sp w0 (rest) wx := H
            have hK : Hid (∀ (v : Value) (w' : World), v = .slice (some axc) 19 cvc → Sp w0 (rest) w' → K (A.put (some 179) v) w') := Lib.hid hK0
            clear hK0 hN hS hE
            change Oper.wp _ _ A wx K _
            go_step
            exact hK.out _ _ rfl (H)
           ·intro x wx A rest hN hS hE H K hK0
            have e19 : A.tmps[19]?.getD undef = .pointer (some ⟨g8, 0, none⟩) := hN (19, .pointer (some ⟨g8, 0, none⟩)) (by simp)
            replace H : Sp w0 (rest) wx := H
            have hK : Hid (∀ (v : Value) (w' : World), v = .pointer (some ⟨g8, 0, none⟩) → Sp w0 (rest) w' → K (A.put (some 180) v) w') := Lib.hid hK0
            clear hK0 hN hS hE
            change Oper.wp _ _ A wx K _
            go_step
            exact hK.out _ _ rfl (H)
           ·intro x wx A rest hN hS hE H K hK0
            have e180 : A.tmps[180]?.getD undef = .pointer (some ⟨g8, 0, none⟩) := ((hS 2 (by decide)).2 180 rfl).trans (hS 2 (by decide)).1
            replace H : Sp w0 (rest) wx := H
            have hK : Hid (∀ (v : Value) (w' : World), v = .int .i64 (s : Int) → Sp w0 (rest) w' → K (A.put (some 181) v) w') := Lib.hid hK0
            clear hK0 hN hS
            have ctb := hE (fun w => w.cell? ⟨g8, 0, none⟩ = some (.int .i64 (s : Int))) (fun w0 w h => h.cell 2 rfl 0) _ _ H
            change Oper.wp _ _ A wx K _
            go_step
            exact hK.out _ _ rfl (H)
           ·intro x wx A rest hN hS hE H K hK0
            have e179 : A.tmps[179]?.getD undef = .slice (some axc) 19 cvc := ((hS 1 (by decide)).2 179 rfl).trans (hS 1 (by decide)).1
            have e181 : A.tmps[181]?.getD undef = .int .i64 (s : Int) := ((hS 3 (by decide)).2 181 rfl).trans (hS 3 (by decide)).1
            replace H : Sp w0 (rest) wx := H
            have hK : Hid (∀ (v : Value) (w' : World), v = .pointer (some (axc.add s)) → Sp w0 (rest) w' → K (A.put (some 182) v) w') := Lib.hid hK0
            clear hK0 hN hS hE
            change Oper.wp _ _ A wx K _
            go_step
            exact hK.out _ _ rfl (H)
           ·intro x wx A rest hN hS hE H K hK0
            have e182 : A.tmps[182]?.getD undef = .pointer (some (axc.add s)) := ((hS 4 (by decide)).2 182 rfl).trans (hS 4 (by decide)).1
            replace H : Sp w0 (rest) wx := H
            have hK : Hid (∀ (v : Value) (w' : World), v = .int .u32 (cdv : Int) → Sp w0 (rest) w' → K (A.put (some 183) v) w') := Lib.hid hK0
            clear hK0 hN hS
            have ctb := hE _ HCE.out _ _ H
            change Oper.wp _ _ A wx K _
            go_step
            exact hK.out _ _ rfl (H)
           ·intro x wx A rest hN hS hE H K hK0
            have e14 : A.tmps[14]?.getD undef = .slice (some afx) 19 vfc := hN (14, .slice (some afx) 19 vfc) (by simp)
            replace H : Sp w0 (rest) wx := H
            have hK : Hid (∀ (v : Value) (w' : World), v = .slice (some afx) 19 vfc → Sp w0 (rest) w' → K (A.put (some 184) v) w') := Lib.hid hK0
            clear hK0 hN hS hE
            change Oper.wp _ _ A wx K _
            go_step
            exact hK.out _ _ rfl (H)
           ·intro x wx A rest hN hS hE H K hK0
            have e19 : A.tmps[19]?.getD undef = .pointer (some ⟨g8, 0, none⟩) := hN (19, .pointer (some ⟨g8, 0, none⟩)) (by simp)
            replace H : Sp w0 (rest) wx := H
            have hK : Hid (∀ (v : Value) (w' : World), v = .pointer (some ⟨g8, 0, none⟩) → Sp w0 (rest) w' → K (A.put (some 185) v) w') := Lib.hid hK0
            clear hK0 hN hS hE
            change Oper.wp _ _ A wx K _
            go_step
            exact hK.out _ _ rfl (H)
           ·intro x wx A rest hN hS hE H K hK0
            have e185 : A.tmps[185]?.getD undef = .pointer (some ⟨g8, 0, none⟩) := ((hS 7 (by decide)).2 185 rfl).trans (hS 7 (by decide)).1
            replace H : Sp w0 (rest) wx := H
            have hK : Hid (∀ (v : Value) (w' : World), v = .int .i64 (s : Int) → Sp w0 (rest) w' → K (A.put (some 186) v) w') := Lib.hid hK0
            clear hK0 hN hS
            have ctb := hE (fun w => w.cell? ⟨g8, 0, none⟩ = some (.int .i64 (s : Int))) (fun w0 w h => h.cell 2 rfl 0) _ _ H
            change Oper.wp _ _ A wx K _
            go_step
            exact hK.out _ _ rfl (H)
           ·intro x wx A rest hN hS hE H K hK0
            have e184 : A.tmps[184]?.getD undef = .slice (some afx) 19 vfc := ((hS 6 (by decide)).2 184 rfl).trans (hS 6 (by decide)).1
            have e186 : A.tmps[186]?.getD undef = .int .i64 (s : Int) := ((hS 8 (by decide)).2 186 rfl).trans (hS 8 (by decide)).1
            replace H : Sp w0 (rest) wx := H
            have hK : Hid (∀ (v : Value) (w' : World), v = .pointer (some (afx.add s)) → Sp w0 (rest) w' → K (A.put (some 187) v) w') := Lib.hid hK0
            clear hK0 hN hS hE
            change Oper.wp _ _ A wx K _
            go_step
            exact hK.out _ _ rfl (H)
           ·intro x wx A rest hN hS hE H K hK0
            have e187 : A.tmps[187]?.getD undef = .pointer (some (afx.add s)) := ((hS 9 (by decide)).2 187 rfl).trans (hS 9 (by decide)).1
            replace H : Sp w0 (rest) wx := H
            have hK : Hid (∀ (v : Value) (w' : World), v = .int .i64 (lnv : Int) → Sp w0 (rest) w' → K (A.put (some 188) v) w') := Lib.hid hK0
            clear hK0 hN hS
            have ctb := hE _ HLE.out _ _ H
            change Oper.wp _ _ A wx K _
            go_step
            exact hK.out _ _ rfl (H)
           ·intro x wx A rest hN hS hE H K hK0
            have e178 : A.tmps[178]?.getD undef = .pointer (some ⟨gp, 0, none⟩) := ((hS 0 (by decide)).2 178 rfl).trans (hS 0 (by decide)).1
            have e183 : A.tmps[183]?.getD undef = .int .u32 (cdv : Int) := ((hS 5 (by decide)).2 183 rfl).trans (hS 5 (by decide)).1
            have e188 : A.tmps[188]?.getD undef = .int .i64 (lnv : Int) := ((hS 10 (by decide)).2 188 rfl).trans (hS 10 (by decide)).1
            replace H : Sp w0 ((Pen gp l4) :: rest) wx := H
            have hK : Hid (∀ (v : Value) (w' : World), v = .tuple #[] → Sp w0 ((Pen gp (l4 ++ PH.bitsC lnv cdv)) :: rest) w' → K (A.put (some 189) v) w') := Lib.hid hK0
            clear hK0 hN hS hE
            change Oper.wp _ _ A wx K _
            go_wp2_with fail
            refine (pcode_ok gp cdv lnv l4 H HCV.out (by omega) (by omega)).mono ?_
            rintro _ w9 ⟨rfl, H9⟩
            exact hK.out _ _ rfl H9
          case hend =>
           intro x wx A hA hS H
           replace H : Sp w0 ((Pen gp (l4 ++ PH.bitsC lnv cdv)) :: (Row 63 1 (.slice (some axc) 19 cvc) 19 (rowU (PH.codeAt FF) 19) :: Row 3 1 (.slice (some afx) 19 vfc) 19 (cellsN FF) :: Bk g8 102 (sgC (s, v, tb)) :: Row 102 3 (.slice (some asx) nR vsc) nR (cellsS (R.map PI.sgR)) :: L)) wx := H
           clear hS
           simp only [putAll, Act.put, List.setIfInBounds_toArray, List.set_cons_succ, List.set_cons_zero, Nat.reduceAdd] at hA
           subst hA
           have HZ := Lib.hid H
           clear H HX
           have c5 : wx.cell? ⟨g8, 1, none⟩ = some (.int .i64 (v : Int)) := HZ.out.cell 3 rfl 1
           have c6 : wx.cell? ⟨g8, 2, none⟩ = some (.int .i64 (tb : Int)) := HZ.out.cell 3 rfl 2
           have hpn := pnum_ok gp v tb _ HZ.out (by omega) (by rw [List.length_append, PH.bitsC_len]; omega)
           rw [← HL4.out, List.append_assoc, List.append_assoc, ← HTW.out] at hpn
           have HNU := Lib.hid hpn
           clear hpn
           go_wp2_with fail
           refine HNU.out.mono ?_
           rintro _ w9 ⟨rfl, H9⟩
           clear HNU HZ
           go_wp2_with fail
           go_roundw
           case rel => exact ⟨j + 1, by go_num, by omega, H9.pick 5 [1, 2, 4, 0]⟩
           case measure => first | (simp [intOf]; omega) | simp [intOf]
         ·have k1 : ¬ (j : Int) < (nR : Int) := by omega
          obtain rfl : nR = j := by omega
          rw [List.take_of_length_le (by rw [HNR.out]; exact Nat.le_refl _)] at H7
          go_wp2_with fail
          go_end0
          refine ⟨rfl, ?_⟩
          have e : l1 ++ PI.headsW m d = l3 ++ PI.tellsW FF R := by
           unfold PI.headsW PI.headW
           rw [HRWD.out, HFF.out, ← HL3.out, ← HL2.out]
           simp only [List.append_assoc]
          rw [e]
          exact H7.pick 4 [3]
end Go.Proofs.YtiogaejfcenooaaDoor

