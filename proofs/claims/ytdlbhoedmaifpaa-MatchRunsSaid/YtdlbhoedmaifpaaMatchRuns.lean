/- MatchRuns: the walk of the law. -/
import Derived.Test.YtdlbhoedmaifpaaMatchBack
import Derived.Test.YtdlbhoedmaifpaaBytesRep
namespace Go.Proofs.Ytdlbhoedmaifpaa
open Go.RowKit Go.MapKept
theorem cutL_nat (B : List UInt8) (d : Nat) (h1 : 1 ≤ d) (h2 : d ≤ 32768) : cutL B (d : Int) = PM.Cut B d := by
  unfold cutL
  rw [if_pos (by omega)]
  rfl
section
variable {P : Program}
/-- append onto the row in front, at an operation that waits for another one. -/
theorem wpList_append_sg {w0 w : World} {L : List Pr} {ops : Array Oper} {rest : List Oper} {o : Oper} {a : Act} {Q : Exit → Act → World → Prop} (hgd : Region.wanted o (yielded ops a.tmps) = true) (s x : Operand) (t : TypeId)
    (ho : o.op = .call { callee := .builtin .append, args := #[s, x], argTypes := #[t, t] })
    (e : TypeId) (i : TypeInfo) (z : Value) (size bytes : Nat) (ht : P.underlying t = some (.slice e)) (hi : P.info? e = some i) (hz : i.zero = some z)
    (hsize : i.size = size) (hby : i.bytes = bytes) (hzs : z.cells.size = size) (hsz : 0 < size)
    (v : Value) (n : Nat) (xs : List Value) (hs : a.eval s = v) (H : Sp w0 (Row e size v n xs :: L) w)
    (A : Option Addr) (m c : Nat) (news : List Value) (hx : a.eval x = .slice A m c) (hl : news.length = m * size) (hr : Rd w A news) (h1 : ∀ u ∈ news, u.oneCell' = true)
    (h63 : n + m ≤ maxLen) (hbytes : (n + m) * bytes ≤ 140737488355328)
    (h : ∀ v' w', Sp w0 (Row e size v' (n + m) (xs ++ news) :: L) w' → (v' = .slice none 0 0 ↔ v = .slice none 0 0 ∧ m = 0) → wpList P ops Q rest (a.put o.dst v') w') :
    wpList P ops Q (o :: rest) a w :=
  wpList_step fun _ hK => by
    rw [if_pos hgd]
    exact wp_append_sp s x t ho e i z size bytes ht hi hz hsize hby hzs hsz v n xs hs H A m c news hx hl hr h1 h63 hbytes fun v' w' h2 h3 => hK _ _ (h v' w' h2 h3)
end
set_option maxRecDepth 100000 in
set_option maxHeartbeats 4000000 in
theorem runs_any (c : UInt8) (many : Nat) (A0 : Option Addr) (ca : Nat) (b0 : List UInt8) {w0 w : World} {L : List Pr} (H : Sp w0 L w) (hE : Ent L fun w' => Byt w' (.slice A0 b0.length ca) b0) (hmy : many < 65536) :
    Calls Try.prog 6 #[.int .u8 (c.toNat : Int), .int .u16 (many : Int), .slice A0 b0.length ca] w fun e w' => e = .returned (.bool true) ∧ Sp w0 L w' := by
  obtain ⟨hb1, hb2⟩ : b0.length ≤ ca ∧ ca ≤ maxLen := by
    obtain ⟨_, _, e, _, h1, h2⟩ := hE _ _ H
    injection e with _ _ e
    subst e
    exact ⟨h1, h2⟩
  unfold maxLen at hb2
  obtain ⟨n, hn⟩ : ∃ n : Nat, n = min b0.length 300 := ⟨_, rfl⟩
  have hmn : ∀ W : World, (Builtin.min_ #[3, 3] 3 #[.int .i64 (b0.length : Int), .int .i64 300]).run Try.prog W = .ok (.int .i64 (n : Int)) W := fun W => by
    simp [Builtin.min_, Builtin.min2]
    split <;> omega
  have hna : n ≤ b0.length := by omega
  have hnk : n ≤ 300 := by omega
  have hnc : (n : Int) ≤ ca := by omega
  clear hn
  obtain ⟨B, hl⟩ : ∃ B, b0.take n = B := ⟨_, rfl⟩
  have hll : n = B.length := by rw [← hl]; simp; omega
  have hB : Ent L fun w' => Byt w' (.slice A0 n ca) B := hE.mono fun w' h => by rw [← hl]; exact h.take n hna
  have HL := Lib.hid hll
  have HB := Lib.hid hB
  clear hl hll hE hB
  obtain ⟨N, hN⟩ : ∃ N, many % 2000 = N := ⟨_, rfl⟩
  have k1 : (many : Int) % 2000 = (N : Int) := by omega
  have hN2 : N < 2000 := by omega
  have k2 : (1 : Int) + (N : Int) = ((N + 1 : Nat) : Int) := by omega
  clear hN
  obtain ⟨r, hX, hrun⟩ := PM.cut_run0 c N
  have hc1 : cutL (List.replicate (N + 1) c) 1 = (0, 0, c) :: r := by rw [← hX]; exact cutL_nat _ 1 (by omega) (by omega)
  have hrl : r.length ≤ 2000 := by
    have h := PM.cut_length (List.replicate (N + 1) c) 1 0
    rw [← PM.Cut_at, hX, List.length_replicate, List.length_cons] at h
    omega
  have HRUN := Lib.hid hrun
  have G1 := H.newBk [.int .u8 (c.toNat : Int)] 5
  have hrep := repeat_ok (some ⟨w.heap.size, 0, none⟩) 1 c (N + 1) G1 (fun _ _ H => Byt.of_blk [c] (H.blk 0 rfl) (by simp [maxLen])) (by omega) (by omega)
  have HREP := Lib.hid hrep
  have HK2 := Lib.hid k2
  have HC1 := Lib.hid hc1
  clear hX hrun hrep k2 hc1
  go_enter Try.func6, Try.ntmps6
  go_wp2_with fail
  rw [HK2.out]
  refine HREP.out.mono ?_
  rintro _ w2 ⟨g, rfl, H2⟩
  clear HREP
  have hcut := Cut_ok (N + 1) 1 (some ⟨g, 0, none⟩) (N + 1) (List.replicate (N + 1) c) H2 (by rw [List.length_replicate]) (fun _ _ H => RB.byt H (by simp [maxLen]; omega)) (by omega)
  rw [HC1.out, show cutE 1 = 0 from rfl] at hcut
  go_wp2_with fail
  refine hcut.mono ?_
  rintro _ w3 ⟨v3, rfl, H3⟩
  clear hcut HC1
  obtain ⟨V3, c3, rfl, hc3, _⟩ := Row.form H3 0 rfl
  obtain ⟨a3, rfl, p0, p1, p2⟩ := H3.stAt 0 rfl 0 (by simp)
  replace p0 : w3.cell? a3 = some (.int .i64 0) := p0
  replace p1 : w3.cell? ⟨a3.block, a3.off + 1, none⟩ = some (.int .i64 0) := p1
  replace p2 : w3.cell? ⟨a3.block, a3.off + 2, none⟩ = some (.int .u8 (c.toNat : Int)) := p2
  rw [List.length_cons] at hc3 H3 ⊢
  have q1 : ((r.length + 1 : Nat) : Int) = (r.length : Int) + 1 := by omega
  have q2 : ((N + 1 : Nat) : Int) = (N : Int) + 1 := by omega
  have q3 : 1 ≤ r.length + 1 := by omega
  have q4 : 1 ≤ c3 := by omega
  have q5 : ((r.length : Int) + 1 == 0) = false := by
    rw [beq_eq_false_iff_ne]; omega
  have hcel : ∀ E : Addr, (∀ i, i < r.length → E.add (i * 3) = a3.add ((i + 1) * 3)) → Ent (Row 25 3 (.slice (some a3) (r.length + 1) c3) (r.length + 1) (stsV ((0, 0, c) :: r)) :: L) fun w => ∀ (i : Nat) (h : i < r.length), w.cell? (E.add (i * 3)) = some (.int .i64 (r[i].1 : Int)) ∧
      w.cell? ⟨(E.add (i * 3)).block, (E.add (i * 3)).off + 1, none⟩ = some (.int .i64 (r[i].2.1 : Int)) ∧ w.cell? ⟨(E.add (i * 3)).block, (E.add (i * 3)).off + 2, none⟩ = some (.int .u8 (r[i].2.2.toNat : Int)) := fun E hE w0 w H i hi => by
    obtain ⟨ad, e, h1, h2, h3⟩ := H.stAt 0 rfl (i + 1) (by simpa using hi)
    injection e with e
    subst e
    rw [hE i hi]
    simp only [List.getElem_cons_succ] at h1 h2 h3
    exact ⟨h1, h2, h3⟩
  have HCEL := Lib.hid hcel
  have H4 := H3.pick 3 [0]
  clear hcel H3 H2
  by_cases hc31 : c3 = 1
  · have hr0 : r.length = 0 := by omega
    go_wp2_with fail
    have he := HCEL.out a3 (fun i hi => by omega)
    have HE := Lib.hid he
    clear he p0 p1 p2
    go_loopw [10, 51] (fun lv iv wr => ∃ (i left : Nat), lv = .int .i64 (left : Int) ∧ iv = .int .i64 (i : Int) ∧ i ≤ r.length ∧ left ≤ N ∧ PM.RunOk c left (r.drop i) ∧ Sp w0 (Row 25 3 (.slice (some a3) (r.length + 1) c3) (r.length + 1) (stsV ((0, 0, c) :: r)) :: L) wr) (fun _ iv _ => r.length - (intOf iv).toNat)
    case atStart => exact ⟨0, N, by first | rfl | go_num, rfl, Nat.zero_le _, Nat.le_refl _, HRUN.out, H4⟩
    case round =>
      obtain ⟨i, left, rfl, rfl, hi, hleft, hro, H5⟩ := hrel
      cases left with
      | zero =>
        rw [PM.RunOk] at hro
        have hir : r.length ≤ i := by
          rcases Nat.lt_or_ge i r.length with h | h
          · rw [List.drop_eq_getElem_cons h] at hro; cases hro
          · exact h
        have k5 : ¬ (i : Int) < (r.length : Int) := by omega
        clear hro
        go_wp2_with fail
        obtain ⟨i0, hi0, hz0, hz1, hz2⟩ := info_parts info8
        have HH := H5.tail
        clear H5 hmn
        obtain ⟨X, hX⟩ : ∃ X, PM.Cut B 32768 = X := ⟨_, rfl⟩
        have hcu := Cut_ok n 32768 A0 ca B HH HL.out HB.out (by omega)
        rw [show cutL B 32768 = X from (cutL_nat B 32768 (by omega) (by omega)).trans hX, show cutE 32768 = 0 from rfl] at hcu
        have hXl : X.length ≤ 300 := by
          rw [← hX]
          have := PM.cut_length B 32768 0
          rw [← PM.Cut_at, ← HL.out] at this
          omega
        have hXs : PM.size X = n := by
          have := PM.cut_size B 32768 0
          rw [← PM.Cut_at, hX, ← HL.out] at this
          omega
        have hXm : PM.mays X 0 := by rw [← hX]; exact PM.cut_mays B 32768 0
        obtain ⟨B2, hB2⟩ : ∃ B2, B ++ B = B2 := ⟨_, rfl⟩
        have hl2 : n + n = B2.length := by rw [← hB2, List.length_append, ← HL.out]
        have hce2 : cells8 B ++ cells8 B = cells8 B2 := by rw [← hB2, cells8_append]
        obtain ⟨Y, hY⟩ : ∃ Y, PM.Cut B2 32768 = Y := ⟨_, rfl⟩
        have hYl : Y.length ≤ 600 := by
          rw [← hY]
          have := PM.cut_length B2 32768 0
          rw [← PM.Cut_at, ← hl2] at this
          omega
        have hYs : PM.size Y = n + n := by
          have := PM.cut_size B2 32768 0
          rw [← PM.Cut_at, hY, ← hl2] at this
          omega
        have hYm : PM.mays Y 0 := by rw [← hY]; exact PM.cut_mays B2 32768 0
        have hYe : PM.expand Y [] = B2 := by rw [← hY]; exact PM.cut_back0 B2 _
        have hbd : ∀ s ∈ X.map toI, s.1 ≤ 1000000 := by
          intro s hs
          obtain ⟨t, ht, rfl⟩ := List.mem_map.1 hs
          obtain ⟨i, hi, rfl⟩ := List.getElem_of_mem ht
          have := PM.mays_at X 0 i hXm hi
          show ((X[i].1 : Nat) : Int) ≤ 1000000
          rcases this with h | h
          · rw [h.1]; omega
          · have := h.2.1; omega
        have HL2 := Lib.hid hl2
        have HCE2 := Lib.hid hce2
        have HY := Lib.hid hY
        have HXS := Lib.hid hXs
        have HXM := Lib.hid hXm
        have HYS := Lib.hid hYs
        have HYM := Lib.hid hYm
        have HYE := Lib.hid hYe
        have HBD := Lib.hid hbd
        clear hX hB2 hl2 hce2 hY hXs hXm hYs hYm hYe hbd
        refine hcu.mono ?_
        rintro _ u1 ⟨v1, rfl, J1⟩
        clear hcu
        obtain ⟨V1, d1, rfl, _, _⟩ := Row.form J1 0 rfl
        go_wp2_with fail
        refine (clone_ok J1 (HB.out _ _ (J1.pick 1 [])) (by rw [← HL.out]; omega)).mono ?_
        rintro _ u2 ⟨v2, rfl, J2⟩
        rw [← HL.out] at J2
        obtain ⟨V2, d2, rfl, _, _⟩ := Row.form J2 0 rfl
        have hrd : Rd u2 A0 (cells8 B) := by
          obtain ⟨_, _, e, hr, _, _⟩ := HB.out _ _ (J2.pick 2 [])
          injection e with e
          rw [e]; exact hr
        have HRD := Lib.hid hrd
        have HJ2 := Lib.hid J2
        clear hrd J2
        go_wp2_with (at_builtin; refine wpList_append_sp rfl _ _ 22 rfl 5 i0 (.int .u8 0) 1 1 Try.underlying22 hi0 hz0 hz1 hz2 rfl (by decide) (.slice V2 n d2) n (cells8 B) rfl HJ2.out A0 n ca (cells8 B) rfl (by rw [Nat.mul_one, HL.out]; simp [cells8]) HRD.out (cells8_one B) (by unfold maxLen; omega) (by omega) ?_)
        intro v3 u3 J3 _
        clear HRD HJ2
        rw [HCE2.out] at J3
        obtain ⟨V3, d3, rfl, _, _⟩ := Row.form J3 0 rfl
        have hcv := Cut_ok (n + n) 32768 V3 d3 B2 J3 HL2.out (fun _ _ H => H.row_byt 0 (by rw [← HL2.out]; rfl)) (by omega)
        rw [show cutL B2 32768 = Y from (cutL_nat B2 32768 (by omega) (by omega)).trans HY.out, show cutE 32768 = 0 from rfl] at hcv
        go_wp2_with fail
        refine hcv.mono ?_
        rintro _ u4 ⟨v4, rfl, J4⟩
        clear hcv
        obtain ⟨V4, d4, rfl, _, _⟩ := Row.form J4 0 rfl
        have hex := expand_ok V4 Y.length d4 Y (2 * (n : Int)) J4 rfl (by omega) (fun _ _ H => H.stAt 0 rfl) HYM.out (by rw [HYS.out]; omega) (by rw [HYS.out]; omega)
        rw [HYE.out, ← HL2.out] at hex
        go_wp2_with fail
        refine hex.mono ?_
        rintro _ u5 ⟨v5, rfl, J5⟩
        clear hex
        obtain ⟨V5, d5, rfl, _, _⟩ := Row.form J5 0 rfl
        go_wp2_with fail
        refine (clone_ok J5 (HB.out _ _ (J5.pick 4 [])) (by rw [← HL.out]; omega)).mono ?_
        rintro _ u6 ⟨v6, rfl, J6⟩
        rw [← HL.out] at J6
        obtain ⟨V6, d6, rfl, _, _⟩ := Row.form J6 0 rfl
        have hrd : Rd u6 A0 (cells8 B) := by
          obtain ⟨_, _, e, hr, _, _⟩ := HB.out _ _ (J6.pick 5 [])
          injection e with e
          rw [e]; exact hr
        have HRD := Lib.hid hrd
        have HJ6 := Lib.hid J6
        clear hrd J6
        go_wp2_with (at_builtin; refine wpList_append_sg (by rfl) _ _ 22 rfl 5 i0 (.int .u8 0) 1 1 Try.underlying22 hi0 hz0 hz1 hz2 rfl (by decide) (.slice V6 n d6) n (cells8 B) rfl HJ6.out A0 n ca (cells8 B) rfl (by rw [Nat.mul_one, HL.out]; simp [cells8]) HRD.out (cells8_one B) (by unfold maxLen; omega) (by omega) ?_)
        intro v7 u7 J7 _
        clear HRD HJ6
        rw [HCE2.out] at J7
        obtain ⟨V7, d7, rfl, _, _⟩ := Row.form J7 0 rfl
        have heq := equal_ok (J7.row_byt 1 (v := .slice V5 (n + n) d5) (l := B2) (by rw [← HL2.out]; rfl)) (J7.row_byt 0 (v := .slice V7 (n + n) d7) (l := B2) (by rw [← HL2.out]; rfl))
        rw [beq_self_eq_true] at heq
        go_wp2_with fail
        refine heq.mono ?_
        rintro _ _ ⟨rfl, rfl⟩
        clear heq
        have hsz := size_ok V1 X.length d1 (X.map toI) J7 (by rw [List.length_map]) (by omega) HBD.out (fun _ _ H => (H.stAt 4 rfl).toI)
        rw [sizeI_map, HXS.out] at hsz
        go_wp2_with fail
        refine hsz.mono ?_
        rintro _ u8 ⟨rfl, J8⟩
        clear hsz
        go_wp2_with fail
        refine (wakes_ok J8).mono ?_
        rintro _ u9 ⟨rfl, J9⟩
        go_wp2_with fail
        go_ret
        exact ⟨rfl, J9.pick 5 []⟩
      | succ m =>
        rw [PM.RunOk] at hro
        obtain ⟨st, rest, hdr, g1, g2, g3⟩ := hro
        obtain ⟨hir, hx, hd2⟩ := drop_head hdr
        exact absurd hir (by omega)
  · go_wp2_with fail
    obtain ⟨E, hE⟩ : ∃ E : Addr, (⟨a3.block, a3.off + 3, none⟩ : Addr) = E := ⟨_, rfl⟩
    rw [hE]
    have he := HCEL.out E (fun i hi => by
      have e : (⟨a3.block, a3.off + 3, none⟩ : Addr) = a3.add 3 := by simp [Addr.add]
      rw [← hE, e, Addr.add_add]
      congr 1; omega)
    clear hE
    have HE := Lib.hid he
    clear he p0 p1 p2
    go_loopw [10, 51] (fun lv iv wr => ∃ (i left : Nat), lv = .int .i64 (left : Int) ∧ iv = .int .i64 (i : Int) ∧ i ≤ r.length ∧ left ≤ N ∧ PM.RunOk c left (r.drop i) ∧ Sp w0 (Row 25 3 (.slice (some a3) (r.length + 1) c3) (r.length + 1) (stsV ((0, 0, c) :: r)) :: L) wr) (fun _ iv _ => r.length - (intOf iv).toNat)
    case atStart => exact ⟨0, N, by first | rfl | go_num, rfl, Nat.zero_le _, Nat.le_refl _, HRUN.out, H4⟩
    case round =>
      obtain ⟨i, left, rfl, rfl, hi, hleft, hro, H5⟩ := hrel
      cases left with
      | zero =>
        rw [PM.RunOk] at hro
        have hir : r.length ≤ i := by
          rcases Nat.lt_or_ge i r.length with h | h
          · rw [List.drop_eq_getElem_cons h] at hro; cases hro
          · exact h
        have k5 : ¬ (i : Int) < (r.length : Int) := by omega
        clear hro
        go_wp2_with fail
        obtain ⟨i0, hi0, hz0, hz1, hz2⟩ := info_parts info8
        have HH := H5.tail
        clear H5 hmn
        obtain ⟨X, hX⟩ : ∃ X, PM.Cut B 32768 = X := ⟨_, rfl⟩
        have hcu := Cut_ok n 32768 A0 ca B HH HL.out HB.out (by omega)
        rw [show cutL B 32768 = X from (cutL_nat B 32768 (by omega) (by omega)).trans hX, show cutE 32768 = 0 from rfl] at hcu
        have hXl : X.length ≤ 300 := by
          rw [← hX]
          have := PM.cut_length B 32768 0
          rw [← PM.Cut_at, ← HL.out] at this
          omega
        have hXs : PM.size X = n := by
          have := PM.cut_size B 32768 0
          rw [← PM.Cut_at, hX, ← HL.out] at this
          omega
        have hXm : PM.mays X 0 := by rw [← hX]; exact PM.cut_mays B 32768 0
        obtain ⟨B2, hB2⟩ : ∃ B2, B ++ B = B2 := ⟨_, rfl⟩
        have hl2 : n + n = B2.length := by rw [← hB2, List.length_append, ← HL.out]
        have hce2 : cells8 B ++ cells8 B = cells8 B2 := by rw [← hB2, cells8_append]
        obtain ⟨Y, hY⟩ : ∃ Y, PM.Cut B2 32768 = Y := ⟨_, rfl⟩
        have hYl : Y.length ≤ 600 := by
          rw [← hY]
          have := PM.cut_length B2 32768 0
          rw [← PM.Cut_at, ← hl2] at this
          omega
        have hYs : PM.size Y = n + n := by
          have := PM.cut_size B2 32768 0
          rw [← PM.Cut_at, hY, ← hl2] at this
          omega
        have hYm : PM.mays Y 0 := by rw [← hY]; exact PM.cut_mays B2 32768 0
        have hYe : PM.expand Y [] = B2 := by rw [← hY]; exact PM.cut_back0 B2 _
        have hbd : ∀ s ∈ X.map toI, s.1 ≤ 1000000 := by
          intro s hs
          obtain ⟨t, ht, rfl⟩ := List.mem_map.1 hs
          obtain ⟨i, hi, rfl⟩ := List.getElem_of_mem ht
          have := PM.mays_at X 0 i hXm hi
          show ((X[i].1 : Nat) : Int) ≤ 1000000
          rcases this with h | h
          · rw [h.1]; omega
          · have := h.2.1; omega
        have HL2 := Lib.hid hl2
        have HCE2 := Lib.hid hce2
        have HY := Lib.hid hY
        have HXS := Lib.hid hXs
        have HXM := Lib.hid hXm
        have HYS := Lib.hid hYs
        have HYM := Lib.hid hYm
        have HYE := Lib.hid hYe
        have HBD := Lib.hid hbd
        clear hX hB2 hl2 hce2 hY hXs hXm hYs hYm hYe hbd
        refine hcu.mono ?_
        rintro _ u1 ⟨v1, rfl, J1⟩
        clear hcu
        obtain ⟨V1, d1, rfl, _, _⟩ := Row.form J1 0 rfl
        go_wp2_with fail
        refine (clone_ok J1 (HB.out _ _ (J1.pick 1 [])) (by rw [← HL.out]; omega)).mono ?_
        rintro _ u2 ⟨v2, rfl, J2⟩
        rw [← HL.out] at J2
        obtain ⟨V2, d2, rfl, _, _⟩ := Row.form J2 0 rfl
        have hrd : Rd u2 A0 (cells8 B) := by
          obtain ⟨_, _, e, hr, _, _⟩ := HB.out _ _ (J2.pick 2 [])
          injection e with e
          rw [e]; exact hr
        have HRD := Lib.hid hrd
        have HJ2 := Lib.hid J2
        clear hrd J2
        go_wp2_with (at_builtin; refine wpList_append_sp rfl _ _ 22 rfl 5 i0 (.int .u8 0) 1 1 Try.underlying22 hi0 hz0 hz1 hz2 rfl (by decide) (.slice V2 n d2) n (cells8 B) rfl HJ2.out A0 n ca (cells8 B) rfl (by rw [Nat.mul_one, HL.out]; simp [cells8]) HRD.out (cells8_one B) (by unfold maxLen; omega) (by omega) ?_)
        intro v3 u3 J3 _
        clear HRD HJ2
        rw [HCE2.out] at J3
        obtain ⟨V3, d3, rfl, _, _⟩ := Row.form J3 0 rfl
        have hcv := Cut_ok (n + n) 32768 V3 d3 B2 J3 HL2.out (fun _ _ H => H.row_byt 0 (by rw [← HL2.out]; rfl)) (by omega)
        rw [show cutL B2 32768 = Y from (cutL_nat B2 32768 (by omega) (by omega)).trans HY.out, show cutE 32768 = 0 from rfl] at hcv
        go_wp2_with fail
        refine hcv.mono ?_
        rintro _ u4 ⟨v4, rfl, J4⟩
        clear hcv
        obtain ⟨V4, d4, rfl, _, _⟩ := Row.form J4 0 rfl
        have hex := expand_ok V4 Y.length d4 Y (2 * (n : Int)) J4 rfl (by omega) (fun _ _ H => H.stAt 0 rfl) HYM.out (by rw [HYS.out]; omega) (by rw [HYS.out]; omega)
        rw [HYE.out, ← HL2.out] at hex
        go_wp2_with fail
        refine hex.mono ?_
        rintro _ u5 ⟨v5, rfl, J5⟩
        clear hex
        obtain ⟨V5, d5, rfl, _, _⟩ := Row.form J5 0 rfl
        go_wp2_with fail
        refine (clone_ok J5 (HB.out _ _ (J5.pick 4 [])) (by rw [← HL.out]; omega)).mono ?_
        rintro _ u6 ⟨v6, rfl, J6⟩
        rw [← HL.out] at J6
        obtain ⟨V6, d6, rfl, _, _⟩ := Row.form J6 0 rfl
        have hrd : Rd u6 A0 (cells8 B) := by
          obtain ⟨_, _, e, hr, _, _⟩ := HB.out _ _ (J6.pick 5 [])
          injection e with e
          rw [e]; exact hr
        have HRD := Lib.hid hrd
        have HJ6 := Lib.hid J6
        clear hrd J6
        go_wp2_with (at_builtin; refine wpList_append_sg (by rfl) _ _ 22 rfl 5 i0 (.int .u8 0) 1 1 Try.underlying22 hi0 hz0 hz1 hz2 rfl (by decide) (.slice V6 n d6) n (cells8 B) rfl HJ6.out A0 n ca (cells8 B) rfl (by rw [Nat.mul_one, HL.out]; simp [cells8]) HRD.out (cells8_one B) (by unfold maxLen; omega) (by omega) ?_)
        intro v7 u7 J7 _
        clear HRD HJ6
        rw [HCE2.out] at J7
        obtain ⟨V7, d7, rfl, _, _⟩ := Row.form J7 0 rfl
        have heq := equal_ok (J7.row_byt 1 (v := .slice V5 (n + n) d5) (l := B2) (by rw [← HL2.out]; rfl)) (J7.row_byt 0 (v := .slice V7 (n + n) d7) (l := B2) (by rw [← HL2.out]; rfl))
        rw [beq_self_eq_true] at heq
        go_wp2_with fail
        refine heq.mono ?_
        rintro _ _ ⟨rfl, rfl⟩
        clear heq
        have hsz := size_ok V1 X.length d1 (X.map toI) J7 (by rw [List.length_map]) (by omega) HBD.out (fun _ _ H => (H.stAt 4 rfl).toI)
        rw [sizeI_map, HXS.out] at hsz
        go_wp2_with fail
        refine hsz.mono ?_
        rintro _ u8 ⟨rfl, J8⟩
        clear hsz
        go_wp2_with fail
        refine (wakes_ok J8).mono ?_
        rintro _ u9 ⟨rfl, J9⟩
        go_wp2_with fail
        go_ret
        exact ⟨rfl, J9.pick 5 []⟩
      | succ m =>
        rw [PM.RunOk] at hro
        obtain ⟨st, rest, hdr, g1, g2, g3⟩ := hro
        obtain ⟨hir, hx, hd2⟩ := drop_head hdr
        obtain ⟨t0, t1, t2⟩ := HE.out _ _ H5 i hir
        rw [hx] at t0 t1 t2
        obtain ⟨x, y, z⟩ := st
        replace t0 : wr.cell? _ = some (.int .i64 (x : Int)) := t0
        replace t1 : wr.cell? _ = some (.int .i64 (y : Int)) := t1
        obtain ⟨zn, hzn⟩ : ∃ zn, z.toNat = zn := ⟨_, rfl⟩
        replace t2 : wr.cell? _ = some (.int .u8 (z.toNat : Int)) := t2
        rw [hzn] at t2
        replace g3 : PM.RunOk c (m + 1 - max x 1) rest := g3
        rw [← hd2] at g3
        obtain ⟨lf, hlf⟩ : ∃ lf, m + 1 = lf := ⟨_, rfl⟩
        rw [hlf] at g1 g2 g3 hleft ⊢
        have k5 : (i : Int) < (r.length : Int) := by omega
        have HG3 := Lib.hid g3
        have hxl : max x 1 ≤ lf := by
          by_cases h3 : 3 ≤ lf
          · have := (g1 h3).2
            replace this : x = min lf 258 := this
            omega
          · have := g2 (by omega)
            replace this : x = 0 := this
            omega
        by_cases h3 : 3 ≤ lf
        · obtain ⟨e1, e2⟩ := g1 h3
          replace e1 : y = 1 := e1
          replace e2 : x = min lf 258 := e2
          subst e1
          have k6 : (3 : Int) ≤ (lf : Int) := by omega
          have hmm : ∀ W : World, (Builtin.min_ #[3, 3] 3 #[.int .i64 (lf : Int), .int .i64 258]).run Try.prog W = .ok (.int .i64 (x : Int)) W := fun W => by
            simp [Builtin.min_, Builtin.min2]
            split <;> omega
          have hmx : ∀ W : World, (Builtin.max_ #[3, 3] 3 #[.int .i64 (x : Int), .int .i64 1]).run Try.prog W = .ok (.int .i64 (x : Int)) W := fun W => by
            simp [Builtin.max_, Builtin.max2]
            omega
          have e4 : max x 1 = x := by omega
          rw [e4] at hxl HG3
          clear g1 g2 g3 hdr hx hd2 e2 e4 hlf
          go_wp2_with fail
          go_roundw
          case rel => exact ⟨i + 1, lf - x, congrArg (Value.int .i64) (by omega), by go_num, by omega, by omega, HG3.out, H5.alloc _⟩
          case measure => first | (simp [intOf]; omega) | simp [intOf]
        · have e2 := g2 (by omega)
          replace e2 : x = 0 := e2
          subst e2
          have k6 : ¬ (3 : Int) ≤ (lf : Int) := by omega
          have k7 : (lf : Int) < 3 := by omega
          replace t0 : wr.cell? _ = some (.int .i64 0) := t0
          rw [show max 0 1 = 1 from rfl] at hxl HG3
          clear g1 g2 g3 hdr hx hd2 hlf
          go_wp2_with fail
          go_roundw
          case rel => exact ⟨i + 1, lf - 1, congrArg (Value.int .i64) (by omega), by go_num, by omega, by omega, HG3.out, H5.alloc _⟩
          case measure => first | (simp [intOf]; omega) | simp [intOf]
end Go.Proofs.Ytdlbhoedmaifpaa
