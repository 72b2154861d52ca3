/- HuffP: Lengths of what may not be; Cost. -/
import Derived.Test.YtdlbhoedmaifpaaHuffO
namespace Go.Proofs.Ytdlbhoedmaifpaa
set_option linter.unusedVariables false
open Go.RowKit
set_option maxRecDepth 100000 in
set_option maxHeartbeats 4000000 in
theorem lengths_bad (A : Option Addr) (n c : Nat) (l : List Int) (m : Int) {w0 w : World} {L : List Pr} (H : Sp w0 L w) (hn : n = l.length) (hb : Ent L fun w => Rd w A (cells64 l)) (hl : n ≤ 1000000) (hm : PL.may l m = false) :
    Calls Try.prog 26 #[.slice A n c, .int .i64 m] w fun e w' => e = .returned (.tuple #[.slice none 0 0, .int .i64 1]) ∧ Sp w0 L w' := by
  obtain ⟨i0, hi, hz0, hz1, hz2⟩ := info_parts infoK
  have HN := Lib.hid hn
  have HB := Lib.hid hb
  unfold PL.may at hm
  rw [← hn] at hm
  by_cases c1 : (1024 : Int) < (n : Int)
  · clear hm hn hb
    go_enter Try.func26, Try.ntmps26
    go_wp2_with fail
    go_ret2
    exact ⟨rfl, H⟩
  · rw [decide_eq_true (show n ≤ 1024 by omega), Bool.true_and] at hm
    by_cases c2 : m < 1
    · clear hm hn hb
      go_enter Try.func26, Try.ntmps26
      go_wp2_with fail
      go_ret2
      exact ⟨rfl, H⟩
    · by_cases c3 : 15 < m
      · clear hm hn hb
        go_enter Try.func26, Try.ntmps26
        go_wp2_with fail
        go_ret2
        exact ⟨rfl, H⟩
      · rw [decide_eq_true (show 1 ≤ m ∧ m ≤ 15 by omega), Bool.true_and] at hm
        obtain ⟨lm, hlm⟩ : ∃ lm : Nat, m = (lm : Int) := ⟨m.toNat, by omega⟩
        subst hlm
        rw [show ((lm : Int)).toNat = lm from rfl] at hm
        obtain ⟨pw, hpw⟩ : ∃ p, 2 ^ lm = p := ⟨_, rfl⟩
        have hpw2 : pw ≤ 32768 := by
          rw [← hpw]
          have : (2 : Nat) ^ lm ≤ 2 ^ 15 := Nat.pow_le_pow_right (by omega) (by omega)
          exact this
        have y1 : (2 : Int) ^ lm = (pw : Int) := by rw [← hpw]; simp
        rw [hpw] at hm
        have HM := Lib.hid hm
        clear hpw hm hn hb
        go_enter Try.func26, Try.ntmps26
        go_wp2_with fail
        go_loopw [6, 28] (fun vv iv wr => ∃ (i : Nat), iv = .int .i64 (i : Int) ∧ i ≤ n ∧ Hid (∀ k, k < i → ∀ x, l[k]? = some x → 0 ≤ x ∧ x ≤ 4294967296) ∧ Sp w0 (RowK vv (leafs (l.map Int.toNat) i) :: L) wr) (fun _ iv _ => n - (intOf iv).toNat)
        case atStart => exact ⟨0, rfl, Nat.zero_le _, Lib.hid (fun k hk => by omega), H.rowNil _ _⟩
        case round =>
          clear H
          obtain ⟨i, rfl, hin, HA, H⟩ := hrel
          obtain ⟨D, hD⟩ : ∃ D, leafs (l.map Int.toNat) i = D := ⟨_, rfl⟩
          have hDl : D.length ≤ i := by rw [← hD, leafs_len]; exact PL.itemsTo_len _ i
          rw [hD] at H
          obtain ⟨VA, Vc, hvf, _, _⟩ := RowK.form H 0 rfl
          subst hvf
          by_cases hlt : i < n
          · have k1 : (i : Int) < (n : Int) := by omega
            have hic : i < l.length := by rw [← HN.out]; exact hlt
            obtain ⟨al, hal, hcell⟩ := (HB.out _ _ H.tail).at64 (k := i) hic
            obtain ⟨x, hx2⟩ : ∃ x, l[i] = x := ⟨_, rfl⟩
            rw [hx2] at hcell
            subst hal
            by_cases q1 : x < 0
            · clear hx2 hD
              go_wp2_with fail
              go_ret2
              exact ⟨rfl, H.tail⟩
            · by_cases q2 : 4294967296 < x
              · clear hx2 hD
                go_wp2_with fail
                go_ret2
                exact ⟨rfl, H.tail⟩
              · have hx3 : (l.map Int.toNat).getD i 0 = x.toNat := by
                  rw [List.getD_eq_getElem?_getD, List.getElem?_map, List.getElem?_eq_getElem hic, hx2]; rfl
                have hnext := leafs_succ (l.map Int.toNat) i
                rw [hx3, hD] at hnext
                have hall : ∀ k, k < i + 1 → ∀ x, l[k]? = some x → 0 ≤ x ∧ x ≤ 4294967296 := fun k hk z hz => by
                  rcases Nat.lt_or_eq_of_le (Nat.le_of_lt_succ hk) with h | rfl
                  · exact HA.out k h z hz
                  · rw [List.getElem?_eq_getElem hic, hx2] at hz
                    injection hz with hz
                    omega
                obtain ⟨xn, hxn⟩ : ∃ xn : Nat, x = (xn : Int) := ⟨x.toNat, by omega⟩
                subst hxn
                rw [show ((xn : Int)).toNat = xn from rfl] at hnext
                have HNX := Lib.hid hnext
                have HALL := Lib.hid hall
                clear hx2 hD hx3 hnext hall
                by_cases hx0 : 0 < xn
                · have k4 : (0 : Int) < (xn : Int) := by omega
                  have hr9 := Rd.of_blk (Blk.new wr 102 [.int .i64 (xn : Int), .int .i64 (i : Int), .pointer none])
                  have HR9 := Lib.hid hr9
                  have h9 := (H.newBk [.int .i64 (xn : Int), .int .i64 (i : Int), .pointer none] 102).swap
                  have HH9 := Lib.hid h9
                  clear hr9 h9 H
                  go_wp2_with (at_builtin; refine wpList_append_sp rfl _ _ 99 rfl 102 i0 (.agg #[.int .i64 0, .int .i64 0, .pointer none]) 3 24 Try.underlying99 hi hz0 hz1 hz2 rfl (by decide) (.slice VA D.length Vc) D.length (cellsK D) rfl HH9.out (some ⟨wr.heap.size, 0, none⟩) 1 1 [.int .i64 (xn : Int), .int .i64 (i : Int), .pointer none] rfl rfl HR9.out (PK.one ⟨xn, i, none⟩) (by simp only [maxLen]; omega) (by omega) ?_)
                  intro v6 w6 H6 _
                  clear HR9 HH9
                  go_wp2_with fail
                  go_roundw
                  case rel =>
                    refine ⟨i + 1, by go_num, by omega, HALL, ?_⟩
                    rw [HNX.out, if_pos hx0]
                    unfold RowK
                    rw [List.length_append, cellsK_append]
                    exact H6.pick 2 [0]
                  case measure => first | (simp [intOf]; omega) | simp [intOf]
                · have k4 : ¬ (0 : Int) < (xn : Int) := by omega
                  go_wp2_with fail
                  go_roundw
                  case rel => exact ⟨i + 1, by go_num, by omega, HALL, by rw [HNX.out, if_neg hx0]; exact H⟩
                  case measure => first | (simp [intOf]; omega) | simp [intOf]
          · have k1 : ¬ (i : Int) < (n : Int) := by omega
            obtain rfl : i = n := by omega
            have hall : (l.all fun n => decide (0 ≤ n ∧ n ≤ 4294967296)) = true := by
              rw [List.all_eq_true]
              intro x hx
              obtain ⟨k, hk, rfl⟩ := List.getElem_of_mem hx
              exact decide_eq_true (HA.out k (by rw [HN.out]; exact hk) _ (List.getElem?_eq_getElem hk))
            have h2 := HM.out
            rw [hall, Bool.true_and, decide_eq_false_iff_not] at h2
            have hDl2 : D.length = (PL.items (l.map Int.toNat)).length := by
              rw [← hD, leafs_len, HN.out]
              unfold PL.items; rw [List.length_map]
            have k2 : (pw : Int) < (D.length : Int) := by omega
            clear hall h2 hDl2 hD
            go_wp2_with fail
            go_ret2
            exact ⟨rfl, H.tail⟩
namespace PL
/-- What codes cost: of as many as both have. -/
def costTo (cs ls : List Nat) (k : Nat) : Nat := ((List.range k).map fun i => cs.getD i 0 * ls.getD i 0).sum
def cost (cs ls : List Nat) : Nat := costTo cs ls (min cs.length ls.length)
theorem costTo_succ (cs ls : List Nat) (k : Nat) : costTo cs ls (k + 1) = costTo cs ls k + cs.getD k 0 * ls.getD k 0 := by
  unfold costTo; rw [List.range_succ, List.map_append, List.sum_append]; simp
end PL
set_option maxRecDepth 100000 in
set_option maxHeartbeats 2000000 in
theorem cost_ok (A B : Option Addr) (n c m d : Nat) (cs ls : List Nat) {w0 w : World} {L : List Pr} (H : Sp w0 L w) (hn : n = cs.length) (hm : m = ls.length) (ha : Ent L fun w => Rd w A (cells64 (castN cs))) (hb : Ent L fun w => Rd w B (cellsN ls)) (hl : n ≤ 1024) (hl2 : m ≤ 1024) (hc : ∀ x ∈ cs, x ≤ 4294967296) (hd : ∀ x ∈ ls, x ≤ 10000) :
    Calls Try.prog 29 #[.slice A n c, .slice B m d] w fun e w' => e = .returned (.int .i64 (PL.cost cs ls : Int)) ∧ Sp w0 L w' := by
  obtain ⟨k, hk⟩ : ∃ k, min n m = k := ⟨_, rfl⟩
  have hmin : ∀ W : World, (Builtin.min_ #[3, 3] 3 #[.int .i64 (n : Int), .int .i64 (m : Int)]).run Try.prog W = .ok (.int .i64 (k : Int)) W := fun W => by
    simp [Builtin.min_, Builtin.min2]
    split <;> omega
  have hkn : k ≤ n := by omega
  have hkm : k ≤ m := by omega
  have hT : PL.cost cs ls = PL.costTo cs ls k := by unfold PL.cost; rw [← hn, ← hm, hk]
  rw [hT]
  have HN := Lib.hid hn
  have HM := Lib.hid hm
  have HA := Lib.hid ha
  have HB := Lib.hid hb
  have HC := Lib.hid hc
  have HD := Lib.hid hd
  clear hT hk hn hm ha hb hc hd
  go_enter Try.func29, Try.ntmps29
  go_wp2_with fail
  go_loopw [5, 12] (fun sv iv wr => ∃ (i s : Nat), iv = .int .i64 (i : Int) ∧ sv = .int .i64 (s : Int) ∧ i ≤ k ∧ s ≤ i * 42949672960000 ∧ Hid (PL.costTo cs ls i = s) ∧ Sp w0 L wr) (fun _ iv _ => k - (intOf iv).toNat)
  case atStart => exact ⟨0, 0, rfl, rfl, Nat.zero_le _, Nat.zero_le _, Lib.hid rfl, H⟩
  case round =>
    clear H hmin
    obtain ⟨i, s, rfl, rfl, hik, hsb, HS, H⟩ := hrel
    by_cases hlt : i < k
    · have k1 : (i : Int) < (k : Int) := by omega
      have hic : i < cs.length := by rw [← HN.out]; omega
      have him : i < ls.length := by rw [← HM.out]; omega
      obtain ⟨al, hal, hcell⟩ := (HA.out _ _ H).at64 (k := i) (by simpa [castN] using hic)
      obtain ⟨x, hx⟩ : ∃ x, cs.getD i 0 = x := ⟨_, rfl⟩
      have hx2 : cs[i] = x := by rw [← hx, List.getD_eq_getElem?_getD, List.getElem?_eq_getElem hic]; rfl
      have hxl : x ≤ 4294967296 := by rw [← hx2]; exact HC.out _ (List.getElem_mem hic)
      replace hcell : wr.cell? (al.add i) = some (.int .i64 (x : Int)) := by
        rw [hcell]
        simp [castN, hx2]
      obtain ⟨bl, hbl, hcell2⟩ := (HB.out _ _ H).at_ (k := i) (by simpa [cellsN] using him)
      obtain ⟨y, hy⟩ : ∃ y, ls.getD i 0 = y := ⟨_, rfl⟩
      have hy2 : ls[i] = y := by rw [← hy, List.getD_eq_getElem?_getD, List.getElem?_eq_getElem him]; rfl
      have hyl : y ≤ 10000 := by rw [← hy2]; exact HD.out _ (List.getElem_mem him)
      replace hcell2 : wr.cell? (bl.add i) = some (.int .i64 (y : Int)) := by
        rw [hcell2]
        simp [cellsN, hy2]
      subst hal hbl
      obtain ⟨z, hz⟩ : ∃ z, x * y = z := ⟨_, rfl⟩
      have hzl : z ≤ 42949672960000 := by
        rw [← hz]
        exact Nat.mul_le_mul hxl hyl
      have yz : (x : Int) * (y : Int) = (z : Int) := by rw [← hz]; simp
      have hs2 : PL.costTo cs ls (i + 1) = s + z := by rw [PL.costTo_succ, HS.out, hx, hy, hz]
      have HS2 := Lib.hid hs2
      have k2 : (i : Int) < (n : Int) := by omega
      have k3 : (i : Int) < (m : Int) := by omega
      have ks : s ≤ 50000000000000000 := by omega
      have hs3 : s + z ≤ (i + 1) * 42949672960000 := by rw [Nat.succ_mul]; omega
      have HSB := Lib.hid hs3
      clear hx hx2 hy hy2 hz hs2 hs3 hsb
      go_wp2_with fail
      go_quiet (fail)
      go_wp2_with fail
      go_roundw
      case rel => exact ⟨i + 1, s + z, by go_num, by go_num, by omega, HSB.out, HS2, H.drewN _⟩
      case measure => first | (simp [intOf]; omega) | simp [intOf]
    · have k1 : ¬ (i : Int) < (k : Int) := by omega
      obtain rfl : i = k := by omega
      go_wp2_with fail
      go_ret
      exact ⟨ret_i64 (by rw [HS.out]), H⟩
end Go.Proofs.Ytdlbhoedmaifpaa
