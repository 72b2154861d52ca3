/- HuffX: Lengths and Cost, whatever is handed in. -/
import Derived.Test.YtdlbhoedmaifpaaHuffW
import Derived.Test.YtdlbhoedmaifpaaHuffP
namespace Go.Proofs.Ytdlbhoedmaifpaa
set_option linter.unusedVariables false
set_option linter.unusedSimpArgs false
open Go.RowKit
set_option maxRecDepth 100000 in
set_option maxHeartbeats 4000000 in
theorem rlengths_bad (A : Option Addr) (n c : Nat) (l : List Int) (m : Int) {w0 w : World} {L : List Pr} (H : Sp w0 L w) (hn : n = l.length) (hb : Ent L fun w => Rd w A (cells64 l)) (hl : n ≤ 1000000) (hm : PL.may l m = false) :
    Calls Try.prog 27 #[.slice A n c, .int .i64 m] w fun e w' => e = .returned (.tuple #[.slice none 0 0, .int .i64 1]) ∧ Sp w0 L w' := by
  have HN := Lib.hid hn
  have HB := Lib.hid hb
  unfold PL.may at hm
  rw [← hn] at hm
  by_cases c1 : (1024 : Int) < (n : Int)
  · clear hm hn hb
    go_enter Try.func27, Try.ntmps27
    go_wp2_with fail
    go_ret2
    exact ⟨rfl, H⟩
  · rw [decide_eq_true (show n ≤ 1024 by omega), Bool.true_and] at hm
    by_cases c2 : m < 1
    · clear hm hn hb
      go_enter Try.func27, Try.ntmps27
      go_wp2_with fail
      go_ret2
      exact ⟨rfl, H⟩
    · by_cases c3 : 15 < m
      · clear hm hn hb
        go_enter Try.func27, Try.ntmps27
        go_wp2_with fail
        go_ret2
        exact ⟨rfl, H⟩
      · rw [decide_eq_true (show 1 ≤ m ∧ m ≤ 15 by omega), Bool.true_and] at hm
        obtain ⟨lm, hlm⟩ : ∃ lm : Nat, m = (lm : Int) := ⟨m.toNat, by omega⟩
        subst hlm
        rw [show ((lm : Int)).toNat = lm from rfl] at hm
        obtain ⟨pw, hpw⟩ : ∃ p, 2 ^ lm = p := ⟨_, rfl⟩
        have hpw2 : pw ≤ 32768 := by
          rw [← hpw]
          have : (2 : Nat) ^ lm ≤ 2 ^ 15 := Nat.pow_le_pow_right (by omega) (by omega)
          exact this
        have hpo := fun w => power_ok lm (by omega) w
        rw [hpw] at hm hpo
        have HM := Lib.hid hm
        have HPO := Lib.hid hpo
        clear hpw hm hn hb hpo
        go_enter Try.func27, Try.ntmps27
        go_wp2_with fail
        go_loopw [6, 7] (fun vv iv wr => ∃ (i nn cc : Nat) (AA : Option Addr) (xs : List RK) (Rs : List Pr), iv = .int .i64 (i : Int) ∧ vv = .slice AA nn cc ∧ i ≤ n ∧ nn ≤ i ∧ nn ≤ cc ∧ Hid ((∀ k, k < i → ∀ x, l[k]? = some x → 0 ≤ x ∧ x ≤ 4294967296) ∧ xs.length = nn ∧ (PL.itemsTo (l.map Int.toNat) i).length = nn ∧ Ent (Rs ++ L) (fun w => Rd w AA (cellsR xs))) ∧ Sp w0 (RPool [] :: (Rs ++ L)) wr) (fun _ iv _ => n - (intOf iv).toNat)
        case atStart => exact ⟨0, 0, 0, none, [], [], rfl, rfl, Nat.zero_le _, Nat.zero_le _, Nat.zero_le _, Lib.hid ⟨fun k hk => by omega, rfl, rfl, fun _ _ _ => Rd.nil⟩, RPool.nil H⟩
        case round =>
          clear H
          obtain ⟨i, nn, cc, AA, xs, Rs, rfl, rfl, hin, hni, hnc, HX, H⟩ := hrel
          by_cases hlt : i < n
          · have k1 : (i : Int) < (n : Int) := by omega
            have hic : i < l.length := by rw [← HN.out]; exact hlt
            obtain ⟨al, hal, hcell⟩ := (HB.out _ _ (Sp.dropMid2 H).tail).at64 (k := i) hic
            obtain ⟨x, hx2⟩ : ∃ x, l[i] = x := ⟨_, rfl⟩
            rw [hx2] at hcell
            subst hal
            by_cases q1 : x < 0
            · clear hx2
              go_wp2_with fail
              go_ret2
              exact ⟨rfl, (Sp.dropMid2 H).tail⟩
            · by_cases q2 : 4294967296 < x
              · clear hx2
                go_wp2_with fail
                go_ret2
                exact ⟨rfl, (Sp.dropMid2 H).tail⟩
              · have hx3 : (l.map Int.toNat).getD i 0 = x.toNat := by
                  rw [List.getD_eq_getElem?_getD, List.getElem?_map, List.getElem?_eq_getElem hic, hx2]; rfl
                have hnext := congrArg List.length (PL.itemsTo_succ (l.map Int.toNat) i)
                rw [hx3] at hnext
                have hall : ∀ k, k < i + 1 → ∀ x, l[k]? = some x → 0 ≤ x ∧ x ≤ 4294967296 := fun k hk z hz => by
                  rcases Nat.lt_or_eq_of_le (Nat.le_of_lt_succ hk) with h | rfl
                  · exact HX.out.1 k h z hz
                  · rw [List.getElem?_eq_getElem hic, hx2] at hz
                    injection hz with hz
                    omega
                obtain ⟨xn, hxn⟩ : ∃ xn : Nat, x = (xn : Int) := ⟨x.toNat, by omega⟩
                subst hxn
                rw [show ((xn : Int)).toNat = xn from rfl] at hnext
                have HNX := Lib.hid hnext
                have HALL := Lib.hid hall
                clear hx2 hx3 hnext hall
                by_cases hx0 : 0 < xn
                · have k4 : (0 : Int) < (xn : Int) := by omega
                  have hrr := (H.newBk [.int .i64 (i : Int)] 3).tail
                  have hpt := rput_ok AA nn cc xs ⟨(xn : Int), some ⟨wr.heap.size, 0, none⟩, 1, 1⟩ hrr HX.out.2.1.symm (HX.out.2.2.2.cons _) hnc (by omega)
                  have hlen : (SS.put keyR xs ⟨(xn : Int), some ⟨wr.heap.size, 0, none⟩, 1, 1⟩).length = nn + 1 := by rw [SS.len_put, HX.out.2.1]
                  obtain ⟨Y, hY⟩ : ∃ Y, SS.put keyR xs ⟨(xn : Int), some ⟨wr.heap.size, 0, none⟩, 1, 1⟩ = Y := ⟨_, rfl⟩
                  rw [hY] at hpt hlen
                  unfold RK.val at hpt
                  have HPT := Lib.hid hpt
                  have HLEN := Lib.hid hlen
                  clear hrr hpt hlen hY H
                  go_wp2_with fail
                  refine HPT.out.mono ?_
                  rintro _ w9 ⟨v9, rfl, H11⟩
                  clear HPT
                  obtain ⟨V9, c9, hv9, hc9, _⟩ := Row.form H11 0 rfl
                  subst hv9
                  have hrd : Ent (([Row 109 2 (.slice V9 (nn + 1) c9) (nn + 1) (cellsR Y)] ++ Rs) ++ L) (fun w => Rd w V9 (cellsR Y)) := fun _ _ H => by
                    obtain ⟨A9, c9, e9, hr9, _, _⟩ := H.row_rd 0 rfl
                    injection e9 with e9
                    rw [e9]; exact hr9
                  have HRD := Lib.hid hrd
                  have H12 := H11.swap
                  clear hrd H11
                  go_wp2_with fail
                  go_roundw
                  case rel => exact ⟨i + 1, nn + 1, c9, V9, Y, [Row 109 2 (.slice V9 (nn + 1) c9) (nn + 1) (cellsR Y)] ++ Rs, by go_num, rfl, by omega, by omega, hc9, Lib.hid ⟨HALL.out, HLEN.out, by rw [HNX.out, if_pos hx0, List.length_append, HX.out.2.2.1]; rfl, HRD.out⟩, H12⟩
                  case measure => first | (simp [intOf]; omega) | simp [intOf]
                · have k4 : ¬ (0 : Int) < (xn : Int) := by omega
                  go_wp2_with fail
                  go_roundw
                  case rel => exact ⟨i + 1, nn, cc, AA, xs, Rs, by go_num, rfl, by omega, by omega, hnc, Lib.hid ⟨HALL.out, HX.out.2.1, by rw [HNX.out, if_neg hx0]; exact HX.out.2.2.1, HX.out.2.2.2⟩, H⟩
                  case measure => first | (simp [intOf]; omega) | simp [intOf]
          · have k1 : ¬ (i : Int) < (n : Int) := by omega
            obtain rfl : i = n := by omega
            have hall : (l.all fun n => decide (0 ≤ n ∧ n ≤ 4294967296)) = true := by
              rw [List.all_eq_true]
              intro x hx
              obtain ⟨k, hk, rfl⟩ := List.getElem_of_mem hx
              exact decide_eq_true (HX.out.1 k (by rw [HN.out]; exact hk) _ (List.getElem?_eq_getElem hk))
            have h2 := HM.out
            rw [hall, Bool.true_and, decide_eq_false_iff_not] at h2
            have h3 := HX.out.2.2.1
            rw [HN.out] at h3
            have h4 : (PL.items (l.map Int.toNat)).length = nn := by
              unfold PL.items; rw [List.length_map]; exact h3
            have k2 : (pw : Int) < (nn : Int) := by omega
            clear hall h2 h3 h4
            go_wp2_with fail
            refine (HPO.out _).mono ?_
            rintro _ _ ⟨rfl, rfl⟩
            clear HPO
            go_wp2_with fail
            go_ret2
            exact ⟨rfl, (Sp.dropMid2 H).tail⟩
set_option maxRecDepth 100000 in
set_option maxHeartbeats 1000000 in
theorem cost_nil (A B : Option Addr) (n c d : Nat) {w0 w : World} {L : List Pr} (H : Sp w0 L w) (hl : n ≤ 1000000) :
    Calls Try.prog 29 #[.slice A n c, .slice B 0 d] w fun e w' => e = .returned (.int .i64 0) ∧ Sp w0 L w' := by
  have hmin : ∀ W : World, (Builtin.min_ #[3, 3] 3 #[.int .i64 (n : Int), .int .i64 0]).run Try.prog W = .ok (.int .i64 0) W := fun W => by
    simp [Builtin.min_, Builtin.min2]
    try omega
  go_enter Try.func29, Try.ntmps29
  go_wp2_with fail
  go_loopw [5, 12] (fun sv iv wr => iv = .int .i64 0 ∧ sv = .int .i64 0 ∧ Sp w0 L wr) (fun _ _ _ => 0)
  case atStart => exact ⟨rfl, rfl, H⟩
  case round =>
    clear H hmin
    obtain ⟨rfl, rfl, H⟩ := hrel
    go_wp2_with fail
    go_ret
    exact ⟨rfl, H⟩
set_option maxRecDepth 100000 in
set_option maxHeartbeats 1000000 in
theorem rcost_nil (A B : Option Addr) (n c d : Nat) {w0 w : World} {L : List Pr} (H : Sp w0 L w) (hl : n ≤ 1000000) :
    Calls Try.prog 30 #[.slice A n c, .slice B 0 d] w fun e w' => e = .returned (.int .i64 0) ∧ Sp w0 L w' := by
  go_enter Try.func30, Try.ntmps30
  go_wp2_with fail
  go_loopw [5, 6] (fun sv iv wr => iv = .int .i64 0 ∧ sv = .int .i64 0 ∧ Sp w0 L wr) (fun _ _ _ => 0)
  case atStart => exact ⟨rfl, rfl, H⟩
  case round =>
    clear H
    obtain ⟨rfl, rfl, H⟩ := hrel
    by_cases h0 : (0 : Int) < (n : Int)
    · go_wp2_with fail
      go_ret
      exact ⟨rfl, H⟩
    · go_wp2_with fail
      go_ret
      exact ⟨rfl, H⟩
namespace PL
/-- The lengths, if they may be; none else. -/
def lensI (l : List Int) (m : Int) : List Nat := if may l m = true then lens (PH.nat l) m.toNat else []
def errI (l : List Int) (m : Int) : Int := if may l m = true then 0 else 1
def costI (l : List Int) (m : Int) : Nat := if may l m = true then cost (PH.nat l) (lensI l m) else 0
theorem may_split {l : List Int} {m : Int} (h : may l m = true) : l = castN (PH.nat l) ∧ (PH.nat l).length ≤ 1024 ∧ (∀ x ∈ PH.nat l, x ≤ 4294967296) ∧ ∃ lm : Nat, m = (lm : Int) ∧ 1 ≤ lm ∧ lm ≤ 15 ∧ (items (PH.nat l)).length ≤ 2 ^ lm := by
  unfold may at h
  simp only [Bool.and_eq_true, decide_eq_true_eq, List.all_eq_true] at h
  obtain ⟨h1, ⟨h2, h3⟩, h4, h5⟩ := h
  refine ⟨?_, by rw [PH.nat_len]; exact h1, ?_, m.toNat, by omega, by omega, by omega, h5⟩
  · unfold castN PH.nat
    rw [List.map_map]
    conv => lhs; rw [← List.map_id l]
    refine List.map_congr_left fun x hx => ?_
    have := h4 x hx
    show x = ((x.toNat : Nat) : Int)
    omega
  · intro x hx
    obtain ⟨y, hy, rfl⟩ := List.mem_map.1 hx
    have := h4 y hy
    omega
theorem count_flatMap (z : Nat) (l : List Pk) : (l.flatMap Prod.snd).count z = wt (fun p => p.2.count z) l := by
  induction l with
  | nil => rfl
  | cons p l ih => rw [List.flatMap_cons, List.count_append, ih]; rfl
theorem wt_le_len (f : Pk → Nat) (l : List Pk) (h : ∀ p ∈ l, f p ≤ 1) : wt f l ≤ l.length := by
  induction l with
  | nil => exact Nat.le_refl _
  | cons p l ih =>
    have h1 := h p (List.mem_cons_self ..)
    have h2 := ih fun q hq => h q (List.mem_cons_of_mem _ hq)
    show f p + wt _ l ≤ l.length + 1
    omega
theorem lens_le (cs : List Nat) (m : Nat) (h1 : 1 ≤ m) : ∀ x ∈ lens cs m, x ≤ m * cs.length := by
  intro x hx
  obtain ⟨z, hz, rfl⟩ := List.mem_map.1 hx
  have hone : ∀ p ∈ items cs, p.2.count z ≤ 1 := fun p hp => by
    have := (itemsTo_mem cs cs.length p hp).2.1
    rw [← this]
    exact List.count_le_length
  have hil : (items cs).length ≤ cs.length := itemsTo_len cs cs.length
  have h9 : wt (fun p => p.2.count z) (items cs) ≤ cs.length := Nat.le_trans (wt_le_len _ _ hone) hil
  unfold flat
  split
  · rw [count_flatMap]
    refine Nat.le_trans h9 ?_
    exact Nat.le_mul_of_pos_left _ h1
  · rw [count_flatMap]
    refine Nat.le_trans (wt_take _ _ _) ?_
    refine Nat.le_trans (wt_lst _ (fun a b => List.count_append ..) _ _) ?_
    unfold sorted
    rw [wt_isort, show m - 1 + 1 = m by omega]
    exact Nat.mul_le_mul_left _ h9
theorem lensI_len (l : List Int) (m : Int) : (lensI l m).length ≤ l.length := by
  unfold lensI
  split
  · rw [lens_len, PH.nat_len]; exact Nat.le_refl _
  · exact Nat.zero_le _
end PL
section
variable (A B : Option Addr) (n c q d : Nat) (l : List Int) (m : Int) {w0 w : World} {L : List Pr}
theorem lengths_any (H : Sp w0 L w) (hn : n = l.length) (hb : Ent L fun w => Rd w A (cells64 l)) (hl : n ≤ 1000000) :
    Calls Try.prog 26 #[.slice A n c, .int .i64 m] w fun e w' => ∃ v, e = .returned (.tuple #[v, .int .i64 (PL.errI l m)]) ∧ Sp w0 (Row 3 1 v (PL.lensI l m).length (cellsN (PL.lensI l m)) :: L) w' := by
  unfold PL.lensI PL.errI
  cases hm : PL.may l m with
  | true =>
    obtain ⟨h1, h2, h3, lm, rfl, h4, h5, h6⟩ := PL.may_split hm
    rw [if_pos rfl, if_pos rfl, PL.lens_len, PH.nat_len, ← hn]
    exact lengths_ok A n c (PH.nat l) lm H (by rw [PH.nat_len]; exact hn) (by rw [← h1]; exact hb) (by rw [hn, ← PH.nat_len]; exact h2) h4 h5 h3 h6
  | false =>
    rw [if_neg (by decide), if_neg (by decide)]
    exact (lengths_bad A n c l m H hn hb hl hm).mono fun _ _ ⟨e, H2⟩ => ⟨_, e, H2.rowNil _ _⟩
theorem rlengths_any (H : Sp w0 L w) (hn : n = l.length) (hb : Ent L fun w => Rd w A (cells64 l)) (hl : n ≤ 1000000) :
    Calls Try.prog 27 #[.slice A n c, .int .i64 m] w fun e w' => ∃ v, e = .returned (.tuple #[v, .int .i64 (PL.errI l m)]) ∧ Sp w0 (Row 3 1 v (PL.lensI l m).length (cellsN (PL.lensI l m)) :: L) w' := by
  unfold PL.lensI PL.errI
  cases hm : PL.may l m with
  | true =>
    obtain ⟨h1, h2, h3, lm, rfl, h4, h5, h6⟩ := PL.may_split hm
    rw [if_pos rfl, if_pos rfl, PL.lens_len, PH.nat_len, ← hn]
    exact rlengths_ok A n c (PH.nat l) lm H (by rw [PH.nat_len]; exact hn) (by rw [← h1]; exact hb) (by rw [hn, ← PH.nat_len]; exact h2) h4 h5 h3 h6
  | false =>
    rw [if_neg (by decide), if_neg (by decide)]
    exact (rlengths_bad A n c l m H hn hb hl hm).mono fun _ _ ⟨e, H2⟩ => ⟨_, e, H2.rowNil _ _⟩
theorem cost_any (H : Sp w0 L w) (hn : n = l.length) (hq : q = (PL.lensI l m).length) (ha : Ent L fun w => Rd w A (cells64 l)) (hb : Ent L fun w => Rd w B (cellsN (PL.lensI l m))) (hl : n ≤ 600) :
    Calls Try.prog 29 #[.slice A n c, .slice B q d] w fun e w' => e = .returned (.int .i64 (PL.costI l m : Int)) ∧ Sp w0 L w' := by
  unfold PL.costI
  cases hm : PL.may l m with
  | true =>
    obtain ⟨h1, h2, h3, lm, rfl, h4, h5, h6⟩ := PL.may_split hm
    rw [if_pos rfl]
    refine cost_ok A B n c q d (PH.nat l) _ H (by rw [PH.nat_len]; exact hn) hq (by rw [← h1]; exact ha) hb (by omega) (by rw [hq]; have := PL.lensI_len l (lm : Int); omega) h3 ?_
    unfold PL.lensI
    rw [if_pos hm]
    intro x hx
    have := PL.lens_le _ _ (by exact h4) x hx
    rw [PH.nat_len, ← hn] at this
    refine Nat.le_trans this ?_
    exact Nat.le_trans (Nat.mul_le_mul h5 hl) (by decide)
  | false =>
    rw [if_neg (by decide)]
    have : q = 0 := by rw [hq]; unfold PL.lensI; rw [if_neg (by rw [hm]; decide)]; rfl
    subst this
    exact cost_nil A B n c d H (by omega)
theorem rcost_any (H : Sp w0 L w) (hn : n = l.length) (hq : q = (PL.lensI l m).length) (ha : Ent L fun w => Rd w A (cells64 l)) (hb : Ent L fun w => Rd w B (cellsN (PL.lensI l m))) (hl : n ≤ 600) :
    Calls Try.prog 30 #[.slice A n c, .slice B q d] w fun e w' => e = .returned (.int .i64 (PL.costI l m : Int)) ∧ Sp w0 L w' := by
  unfold PL.costI
  cases hm : PL.may l m with
  | true =>
    obtain ⟨h1, h2, h3, lm, rfl, h4, h5, h6⟩ := PL.may_split hm
    rw [if_pos rfl]
    refine rcost_ok A B n c q d (PH.nat l) _ H (by rw [PH.nat_len]; exact hn) hq (by rw [← h1]; exact ha) hb (by omega) h3 ?_
    unfold PL.lensI
    rw [if_pos hm]
    intro x hx
    have := PL.lens_le _ _ (by exact h4) x hx
    rw [PH.nat_len, ← hn] at this
    refine Nat.le_trans this ?_
    exact Nat.le_trans (Nat.mul_le_mul h5 hl) (by decide)
  | false =>
    rw [if_neg (by decide)]
    have : q = 0 := by rw [hq]; unfold PL.lensI; rw [if_neg (by rw [hm]; decide)]; rfl
    subst this
    exact rcost_nil A B n c d H (by omega)
end
end Go.Proofs.Ytdlbhoedmaifpaa
