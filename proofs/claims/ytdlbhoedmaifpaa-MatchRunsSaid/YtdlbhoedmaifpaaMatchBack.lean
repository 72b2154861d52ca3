/- MatchBack: the walk of the law. -/
import Derived.Test.YtdlbhoedmaifpaaMatchY
import Derived.Test.YtdlbhoedmaifpaaMatchCuts
namespace Go.Proofs.Ytdlbhoedmaifpaa
open Go.RowKit Go.MapKept
namespace PM
theorem cutAt_cases (B : List UInt8) (d q : Nat) : (B.length ≤ q ∧ cutAt B d q = []) ∨ (q < B.length ∧ cutAt B d q = (0, 0, B.getD q 0) :: cutAt B d (q + 1)) ∨
    (q < B.length ∧ ∃ m far, 1 ≤ far ∧ far ≤ q ∧ 3 ≤ m ∧ m ≤ 258 ∧ q + m ≤ B.length ∧ best B q d = (m, far) ∧ (∀ i, i < m → B.getD (q - far + i) 0 = B.getD (q + i) 0) ∧ cutAt B d q = (m, far, 0) :: cutAt B d (q + m)) := by
  rcases Nat.lt_or_ge q B.length with h | h
  · right
    by_cases k : (best B q d).1 = 0 ∨ (best B q d).1 < (best B (q + 1) d).1
    · exact .inl ⟨h, cutAt_lit B d q h k⟩
    · right
      rcases best_is B q d with h0 | ⟨far, h1, h2, h3, h4, h5, h6⟩
      · exact absurd (.inl (by rw [h0])) k
      · refine ⟨h, mlen B (q - far) q, far, h1, h3, h6, mlen_le _ _ _, mlen_in (by omega), h5, fun i hi => mlen_same hi, ?_⟩
        rw [cutAt_copy B d q h k, h5]
  · exact .inl ⟨h, cutAt_end B d q h⟩
theorem part_eq {B : List UInt8} {p q m : Nat} (hq : q + m ≤ B.length) (hp : p ≤ q) (h : ∀ i, i < m → B.getD (p + i) 0 = B.getD (q + i) 0) : (B.drop p).take m = (B.drop q).take m := by
  apply List.ext_getElem?
  intro i
  rw [List.getElem?_take, List.getElem?_take]
  by_cases hi : i < m
  · rw [if_pos hi, if_pos hi, List.getElem?_drop, List.getElem?_drop]
    have := h i hi
    rw [List.getD_eq_getElem?_getD, List.getD_eq_getElem?_getD, List.getElem?_eq_getElem (by omega), List.getElem?_eq_getElem (by omega)] at this
    rw [List.getElem?_eq_getElem (by omega), List.getElem?_eq_getElem (by omega)]
    exact congrArg some this
  · rw [if_neg hi, if_neg hi]
end PM
theorem drop_head {α : Type} {X R : List α} {i : Nat} {x : α} (h : X.drop i = x :: R) : ∃ hi : i < X.length, X[i] = x ∧ X.drop (i + 1) = R := by
  have hi : i < X.length := by
    rcases Nat.lt_or_ge i X.length with h1 | h1
    · exact h1
    · rw [List.drop_eq_nil_of_le h1] at h; cases h
  rw [List.drop_eq_getElem_cons hi] at h
  injection h with h1 h2
  exact ⟨hi, h1, h2⟩
set_option maxRecDepth 100000 in
set_option maxHeartbeats 4000000 in
theorem back_any (A0 : Option Addr) (ca : Nat) (b0 : List UInt8) (many : Nat) {w0 w : World} {L : List Pr} (H : Sp w0 L w) (hE : Ent L fun w' => Byt w' (.slice A0 b0.length ca) b0) (hmy : many < 256) :
    Calls Try.prog 5 #[.slice A0 b0.length ca, .int .u8 (many : Int)] w fun e w' => e = .returned (.bool true) ∧ Sp w0 L w' := by
  obtain ⟨hb1, hb2⟩ : b0.length ≤ ca ∧ ca ≤ maxLen := by
    obtain ⟨_, _, e, _, h1, h2⟩ := hE _ _ H
    injection e with _ _ e
    subst e
    exact ⟨h1, h2⟩
  unfold maxLen at hb2
  obtain ⟨n, hn⟩ : ∃ n : Nat, n = min b0.length 2000 := ⟨_, rfl⟩
  have hmn : ∀ W : World, (Builtin.min_ #[3, 3] 3 #[.int .i64 (b0.length : Int), .int .i64 2000]).run Try.prog W = .ok (.int .i64 (n : Int)) W := fun W => by
    simp [Builtin.min_, Builtin.min2]
    split <;> omega
  have hna : n ≤ b0.length := by omega
  have hnk : n ≤ 2000 := by omega
  have hnc : (n : Int) ≤ ca := by omega
  clear hn
  obtain ⟨B, hl⟩ : ∃ B, b0.take n = B := ⟨_, rfl⟩
  have hll : n = B.length := by rw [← hl]; simp; omega
  have hB : Ent L fun w' => Byt w' (.slice A0 n ca) B := hE.mono fun w' h => by rw [← hl]; exact h.take n hna
  have HL := Lib.hid hll
  have HB := Lib.hid hB
  clear hl hll hE hB
  obtain ⟨X, hX⟩ : ∃ X, PM.Cut B (many + 1) = X := ⟨_, rfl⟩
  have hcl : cutL B ((many : Int) + 1) = X := by
    rw [← hX]
    unfold cutL
    rw [if_pos (by omega), show ((many : Int) + 1).toNat = many + 1 by omega]
  have hce : cutE ((many : Int) + 1) = 0 := if_pos (by omega)
  have hXl : X.length ≤ 2000 := by
    rw [← hX]
    have := PM.cut_length B (many + 1) 0
    rw [← PM.Cut_at, ← HL.out] at this
    omega
  have hXm : PM.mays X 0 := by rw [← hX]; exact PM.cut_mays B (many + 1) 0
  have hXs : PM.size X = n := by
    have := PM.cut_size B (many + 1) 0
    rw [← PM.Cut_at, hX, ← HL.out] at this
    omega
  have hXe : PM.expand X [] = B := by rw [← hX]; exact PM.cut_back0 B _
  have hbd : ∀ s ∈ X.map toI, s.1 ≤ 1000000 := by
    intro s hs
    obtain ⟨t, ht, rfl⟩ := List.mem_map.1 hs
    obtain ⟨i, hi, rfl⟩ := List.getElem_of_mem ht
    have := PM.mays_at X 0 i hXm hi
    show ((X[i].1 : Nat) : Int) ≤ 1000000
    rcases this with h | h
    · rw [h.1]; omega
    · have := h.2.1; omega
  have HXX := Lib.hid (hX.symm.trans (PM.Cut_at B (many + 1)))
  have HXM := Lib.hid hXm
  have HXS := Lib.hid hXs
  have HXE := Lib.hid hXe
  have HBD := Lib.hid hbd
  have hc1 := Cut_ok n ((many : Int) + 1) A0 ca B H HL.out HB.out (by omega)
  rw [hcl, hce] at hc1
  clear hX hcl hce hXm hXs hXe hbd
  go_enter Try.func5, Try.ntmps5
  go_wp2_with fail
  refine hc1.mono ?_
  rintro _ w1 ⟨v1, rfl, H1⟩
  clear hc1 hmn
  obtain ⟨V1, c1, rfl, _, _⟩ := Row.form H1 0 rfl
  go_wp2_with fail
  refine (expand_ok V1 X.length c1 X (n : Int) H1 rfl (by omega) (fun _ _ H => H.stAt 0 rfl) HXM.out (by rw [HXS.out]; exact Int.le_refl _) (by rw [HXS.out]; omega)).mono ?_
  rintro _ w2 ⟨v2, rfl, H2⟩
  rw [HXE.out, ← HL.out] at H2
  obtain ⟨V2, c2, rfl, _, _⟩ := Row.form H2 0 rfl
  have hXI : Ent (Row 5 1 (.slice V2 n c2) n (cells8 B) :: Row 25 3 (.slice V1 X.length c1) X.length (stsV X) :: L) (fun w => StI_ w V1 (X.map toI)) := fun _ _ H => (H.stAt 1 rfl).toI
  have HXI := Lib.hid hXI
  have hmay := fun (w : World) H => may_ok (w := w) (w0 := w0) V1 X.length c1 (X.map toI) H (by rw [List.length_map]) (by omega) HXI.out
  rw [show mayI (X.map toI) 0 = true from mayI_map X 0 HXM.out] at hmay
  have hsz := fun (w : World) H => size_ok (w := w) (w0 := w0) V1 X.length c1 (X.map toI) H (by rw [List.length_map]) (by omega) HBD.out HXI.out
  rw [sizeI_map, HXS.out] at hsz
  have HMAY := Lib.hid hmay
  have HSZ := Lib.hid hsz
  clear hXI hmay hsz H1
  go_wp2_with fail
  rcases Nat.eq_zero_or_pos n with hn0 | hn0
  · have hX0 : X = [] := by
      have := HXX.out
      rw [PM.cutAt_end B _ 0 (by rw [← HL.out]; omega)] at this
      exact this
    have hX1 : (X.length : Int) = 0 := by rw [hX0]; rfl
    have HX1 := Lib.hid hX1
    have k1 : (n : Int) = 0 := by omega
    have HN0 := Lib.hid k1
    clear hX0 k1 hn0 hX1
    refine (expand_bad V1 X.length c1 (X.map toI) ((n : Int) - 1) H2 (by rw [List.length_map]) (by omega) HXI.out (.inl (by have := HN0.out; omega))).mono ?_
    rintro _ w3 ⟨rfl, H3⟩
    have heq := equal_ok (HB.out _ _ (H3.pick 2 [])) (H3.row_byt 0 (by rw [← HL.out]; rfl))
    rw [beq_self_eq_true] at heq
    go_wp2_with fail
    refine heq.mono ?_
    rintro _ _ ⟨rfl, rfl⟩
    clear heq
    have k2 : ¬ (0 : Int) < (n : Int) := by have := HN0.out; omega
    have k3 : ((n : Int) == 0) = true := by rw [beq_iff_eq]; exact HN0.out
    go_wp2_with fail
    refine (HMAY.out _ H3).mono ?_
    rintro _ w4 ⟨rfl, H4⟩
    go_wp2_with fail
    refine (HSZ.out _ H4).mono ?_
    rintro _ w5 ⟨rfl, H5⟩
    go_wp2_with fail
    go_loopw [11, 88] (fun av iv wr => av = .int .i64 0 ∧ iv = .int .i64 0 ∧ Sp w0 (Row 5 1 (.slice V2 n c2) n (cells8 B) :: Row 25 3 (.slice V1 X.length c1) X.length (stsV X) :: L) wr) (fun _ _ _ => 0)
    case atStart => exact ⟨rfl, rfl, H5⟩
    case round =>
      obtain ⟨rfl, rfl, H6⟩ := hrel
      have k4 : ¬ (0 : Int) < (X.length : Int) := by have := HX1.out; omega
      go_wp2_with fail
      refine (wakes_ok H6).mono ?_
      rintro _ w7 ⟨rfl, H7⟩
      go_wp2_with fail
      go_ret
      exact ⟨rfl, H7.pick 2 []⟩
  · have hcap := expand_cap V1 X.length c1 (X.map toI) ((n : Int) - 1) H2 (by rw [List.length_map]) (by omega) HXI.out (by omega) (mayI_map X 0 HXM.out) HBD.out (by rw [sizeI_map, HXS.out]; omega)
    have k1 : (0 : Int) < (n : Int) := by omega
    have k3 : ((n : Int) == 0) = false := by rw [beq_eq_false_iff_ne]; omega
    refine hcap.mono ?_
    rintro _ w3 ⟨rfl, H3⟩
    have heq := equal_ok (HB.out _ _ (H3.pick 2 [])) (H3.row_byt 0 (by rw [← HL.out]; rfl))
    rw [beq_self_eq_true] at heq
    go_wp2_with fail
    refine heq.mono ?_
    rintro _ _ ⟨rfl, rfl⟩
    clear heq hcap
    go_wp2_with fail
    refine (HMAY.out _ H3).mono ?_
    rintro _ w4 ⟨rfl, H4⟩
    go_wp2_with fail
    refine (HSZ.out _ H4).mono ?_
    rintro _ w5 ⟨rfl, H5⟩
    clear H2 H3 H4
    go_wp2_with fail
    go_loopw [11, 88] (fun av iv wr => ∃ (i q : Nat), av = .int .i64 (q : Int) ∧ iv = .int .i64 (i : Int) ∧ i ≤ X.length ∧ q ≤ n ∧ X.drop i = PM.cutAt B (many + 1) q ∧ Sp w0 (Row 25 3 (.slice V1 X.length c1) X.length (stsV X) :: L) wr) (fun _ iv _ => X.length - (intOf iv).toNat)
    case atStart => exact ⟨0, 0, rfl, rfl, Nat.zero_le _, Nat.zero_le _, HXX.out, H5.pick 2 [1]⟩
    case round =>
      obtain ⟨i, q, rfl, rfl, hi, hq, hdr, H⟩ := hrel
      rcases PM.cutAt_cases B (many + 1) q with ⟨_, he⟩ | ⟨hqB, he⟩ | ⟨hqB, m, far, f1, f2, f3, f4, f5, f6, f7, he⟩
      · rw [he] at hdr
        have hil : X.length ≤ i := by
          rcases Nat.lt_or_ge i X.length with h | h
          · rw [List.drop_eq_getElem_cons h] at hdr; cases hdr
          · exact h
        have k4 : ¬ (i : Int) < (X.length : Int) := by omega
        clear he hdr
        go_wp2_with fail
        refine (wakes_ok H).mono ?_
        rintro _ w7 ⟨rfl, H7⟩
        go_wp2_with fail
        go_ret
        exact ⟨rfl, H7.pick 1 []⟩
      · rw [he] at hdr
        obtain ⟨hiX, hx, hd2⟩ := drop_head hdr
        have HD2 := Lib.hid hd2
        obtain ⟨a1, rfl, p0, p1, p2⟩ := H.stAt 0 rfl i hiX
        obtain ⟨ad, rfl⟩ : ∃ ad, A0 = some ad := by
          obtain ⟨_, _, e, hr, _, _⟩ := HB.out _ _ (H.pick 1 [])
          obtain ⟨ad, e2, _⟩ := hr.at8 hqB
          injection e with e
          exact ⟨ad, e.trans e2⟩
        have hcell : Ent L fun w' => w'.cell? (ad.add q) = some (.int .u8 ((B.getD q 0).toNat : Int)) := HB.out.mono fun w' hw => by
          obtain ⟨_, _, e, hr, _, _⟩ := hw
          obtain ⟨ad2, e2, hc⟩ := hr.at8 hqB
          injection e with e
          rw [← e] at e2
          injection e2 with e2
          rw [e2, hc, List.getD_eq_getElem?_getD, List.getElem?_eq_getElem hqB]
          rfl
        rw [hx] at p0 p1 p2
        obtain ⟨bx, hbx⟩ : ∃ bx, (B.getD q 0).toNat = bx := ⟨_, rfl⟩
        replace p0 : wr.cell? (a1.add (i * 3)) = some (.int .i64 0) := p0
        replace p1 : wr.cell? ⟨(a1.add (i * 3)).block, (a1.add (i * 3)).off + 1, none⟩ = some (.int .i64 0) := p1
        replace p2 : wr.cell? ⟨(a1.add (i * 3)).block, (a1.add (i * 3)).off + 2, none⟩ = some (.int .u8 ((B.getD q 0).toNat : Int)) := p2
        rw [hbx] at p2 hcell
        have HCE := Lib.hid hcell
        have k4 : (i : Int) < (X.length : Int) := by omega
        have k5 : (q : Int) < (n : Int) := by rw [HL.out]; omega
        have k6 : ¬ (n : Int) ≤ (q : Int) := by omega
        have k7 : ¬ (n : Int) < (q : Int) := by omega
        have ce : ∀ o z, ((wr.alloc o).drewN z).cell? (ad.add q) = some (.int .u8 (bx : Int)) := fun o z => HCE.out _ _ (((H.alloc o).drewN z).pick 1 [])
        have ce2 : ∀ o, (wr.alloc o).cell? (ad.add q) = some (.int .u8 (bx : Int)) := fun o => HCE.out _ _ ((H.alloc o).pick 1 [])
        have h9 := H.newBk [.int .i64 0, .int .i64 0, .int .u8 (bx : Int)] 25
        clear hcell hbx hd2 hx hdr he
        go_wp2_with fail
        generalize wr.heap.size = s at h9 ⊢
        generalize hw6 : wr.alloc _ = w6 at h9 ⊢
        have ce := HCE.out _ _ (h9.pick 2 [])
        have t0 : w6.cell? ⟨s, 0, none⟩ = some (.int .i64 0) := h9.cell 0 rfl 0
        have t2 : w6.cell? ⟨s, 2, none⟩ = some (.int .u8 (bx : Int)) := h9.cell 0 rfl 2
        clear hw6 p0 p1 p2
        go_quiet (fail)
        go_wp2
        go_roundw
        case rel => exact ⟨i + 1, q + 1, by go_num, by go_num, by omega, by omega, HD2.out, (h9.drewN _).tail⟩
        case measure => first | (simp [intOf]; omega) | simp [intOf]
      · rw [he] at hdr
        obtain ⟨hiX, hx, hd2⟩ := drop_head hdr
        have HD2 := Lib.hid hd2
        obtain ⟨a1, rfl, p0, p1, p2⟩ := H.stAt 0 rfl i hiX
        obtain ⟨ad, rfl⟩ : ∃ ad, A0 = some ad := by
          obtain ⟨_, _, e, hr, _, _⟩ := HB.out _ _ (H.pick 1 [])
          obtain ⟨ad, e2, _⟩ := hr.at8 hqB
          injection e with e
          exact ⟨ad, e.trans e2⟩
        rw [hx] at p0 p1 p2
        replace p0 : wr.cell? (a1.add (i * 3)) = some (.int .i64 (m : Int)) := p0
        replace p1 : wr.cell? ⟨(a1.add (i * 3)).block, (a1.add (i * 3)).off + 1, none⟩ = some (.int .i64 (far : Int)) := p1
        replace p2 : wr.cell? ⟨(a1.add (i * 3)).block, (a1.add (i * 3)).off + 2, none⟩ = some (.int .u8 0) := p2
        have hqm : q + m ≤ n := by rw [HL.out]; exact f5
        obtain ⟨p, hp⟩ : ∃ p, q - far = p := ⟨_, rfl⟩
        rw [hp] at f7
        obtain ⟨k, hk⟩ : ∃ k, min m far = k := ⟨_, rfl⟩
        have hmk : ∀ W : World, (Builtin.min_ #[3, 3] 3 #[.int .i64 (m : Int), .int .i64 (far : Int)]).run Try.prog W = .ok (.int .i64 (k : Int)) W := fun W => by
          simp [Builtin.min_, Builtin.min2]
          split <;> omega
        have hkm : k ≤ m := by omega
        have hpart : (B.drop p).take k = (B.drop q).take k := PM.part_eq (by omega) (by omega) fun i hi => f7 i (by omega)
        have hEQ : Ent L fun w' => ∀ z, Calls Try.prog 21 #[.slice (some (ad.add p)) k (ca - p), .slice (some (ad.add q)) k (ca - q)] (w'.drewN z) fun e w => e = .returned (.bool true) ∧ w'.drewN z = w := fun w1 w' H' => fun z => by
          have hbw := HB.out _ _ (H'.drewN z)
          have h1 := (hbw.drop p (by omega)).take k (by rw [List.length_drop]; omega)
          have h2 := (hbw.drop q (by omega)).take k (by rw [List.length_drop]; omega)
          have := equal_ok h1 h2
          rw [hpart, beq_self_eq_true] at this
          exact this
        have HEQ := Lib.hid hEQ
        have HBST := Lib.hid f6
        have k4 : (i : Int) < (X.length : Int) := by omega
        have k6 : ¬ (n : Int) ≤ (q : Int) := by omega
        have k7 : ¬ (n : Int) < (q : Int) + (m : Int) := by omega
        have k8 : decide (q < far) = false := decide_eq_false (by omega)
        have k9 : ((m : Int) == 0) = false := by rw [beq_eq_false_iff_ne]; omega
        have h9 := H.newBk [.int .i64 (m : Int), .int .i64 (far : Int), .int .u8 0] 25
        clear hEQ hd2 hx hdr he f6 f7 hpart
        go_wp2_with fail
        generalize wr.heap.size = s at h9 ⊢
        generalize hw6 : wr.alloc _ = w6 at h9 ⊢
        have t0 : w6.cell? ⟨s, 0, none⟩ = some (.int .i64 (m : Int)) := h9.cell 0 rfl 0
        have t1 : w6.cell? ⟨s, 1, none⟩ = some (.int .i64 (far : Int)) := h9.cell 0 rfl 1
        have t2 : w6.cell? ⟨s, 2, none⟩ = some (.int .u8 0) := h9.cell 0 rfl 2
        clear hw6 p0 p1 p2
        obtain ⟨pm, hpm⟩ : ∃ pm, p + m = pm := ⟨_, rfl⟩
        obtain ⟨qk, hqk⟩ : ∃ qk, q + k = qk := ⟨_, rfl⟩
        have y1 : (q : Int) - (far : Int) = (p : Int) := by omega
        have y2 : (p : Int) + (m : Int) = (pm : Int) := by omega
        have y3 : (q : Int) + (k : Int) = (qk : Int) := by omega
        have y4 : ¬ ca = p := by omega
        have y5 : ¬ ca = q := by omega
        have y6 : p ≤ pm := by omega
        have y7 : pm ≤ ca := by omega
        have y8 : q ≤ qk := by omega
        have y9 : qk ≤ ca := by omega
        have y10 : k ≤ ca - p := by omega
        have y11 : pm - p = m := by omega
        have y12 : qk - q = k := by omega
        refine wp_region_sp (L := Bk s 25 [.int .i64 (m : Int), .int .i64 (far : Int), .int .u8 0] :: Row 25 3 (.slice (some a1) X.length c1) X.length (stsV X) :: L) (fun ix vx => ([(· = .int .i64 (q : Int)), (· = .pointer (some ⟨s, 1, none⟩)), (· = .int .i64 (far : Int)), (· = .bool false), (· = .bool false), (· = .slice (some ad) n ca), (· = .int .i64 (q : Int)), (· = .pointer (some ⟨s, 1, none⟩)), (· = .int .i64 (far : Int)), (· = .int .i64 (p : Int)), (· = .int .i64 (q : Int)), (· = .pointer (some ⟨s, 1, none⟩)), (· = .int .i64 (far : Int)), (· = .int .i64 (p : Int)), (· = .pointer (some ⟨s, 0, none⟩)), (· = .int .i64 (m : Int)), (· = .int .i64 (pm : Int)), (· = .slice (some (ad.add p)) m (ca - p)), (· = .pointer (some ⟨s, 0, none⟩)), (· = .int .i64 (m : Int)), (· = .pointer (some ⟨s, 1, none⟩)), (· = .int .i64 (far : Int)), (· = .int .i64 (k : Int)), (· = .slice (some (ad.add p)) k (ca - p)), (· = .slice (some ad) n ca), (· = .int .i64 (q : Int)), (· = .int .i64 (q : Int)), (· = .pointer (some ⟨s, 0, none⟩)), (· = .int .i64 (m : Int)), (· = .pointer (some ⟨s, 1, none⟩)), (· = .int .i64 (far : Int)), (· = .int .i64 (k : Int)), (· = .int .i64 (qk : Int)), (· = .slice (some (ad.add q)) k (ca - q)), (· = .bool true), (· = .bool false), (· = .bool false)] : List (Value → Prop)).getD ix (fun _ => True) vx)
          (fun ix vx => ([fun _ => [], fun _ => [], fun _ => [], fun _ => [], fun _ => [], fun _ => [], fun _ => [], fun _ => [], fun _ => [], fun _ => [], fun _ => [], fun _ => [], fun _ => [], fun _ => [], fun _ => [], fun _ => [], fun _ => [], fun _ => [], fun _ => [], fun _ => [], fun _ => [], fun _ => [], fun _ => [], fun _ => [], fun _ => [], fun _ => [], fun _ => [], fun _ => [], fun _ => [], fun _ => [], fun _ => [], fun _ => [], fun _ => [], fun _ => [], fun _ => [], fun _ => [], fun _ => []] : List (Value → List Pr)).getD ix (fun _ => []) vx) (fun ix => ([[], [], [], [], [], [], [], [], [], [], [], [], [], [], [], [], [], [], [], [], [], [], [], [], [], [], [], [], [], [], [], [], [], [], [], [], []] : List (List Pr)).getD ix []) 37 189
          [some 127, some 128, some 129, some 130, some 131, some 132, some 133, some 134, some 135, some 136, some 137, some 138, some 139, some 140, some 141, some 142, some 143, some 144, some 145, some 146, some 147, some 148, some 149, some 150, some 151, some 152, some 153, some 154, some 155, some 156, some 157, some 158, some 159, some 160, some 161, some 162, some 163]
          [[], [], [1], [0, 2], [3], [4], [4], [4], [7, 4], [6, 8, 4], [4], [4], [11, 4], [10, 12, 4], [4], [14, 4], [13, 15, 4], [5, 9, 16, 4], [4], [18, 4], [4], [20, 4], [19, 21, 4], [17, 22, 4], [4], [4], [4], [4], [27, 4], [4], [29, 4], [28, 30, 4], [26, 31, 4], [24, 25, 32, 4], [23, 33, 4, 4], [34, 4], [4, 35]]
          [[], [], [1], [0, 1, 2], [0, 1, 2, 3], [0, 1, 2, 3, 4], [0, 1, 2, 3, 4], [0, 1, 2, 3, 4], [0, 1, 2, 3, 4, 7], [0, 1, 2, 3, 4, 6, 7, 8], [0, 1, 2, 3, 4], [0, 1, 2, 3, 4], [0, 1, 2, 3, 4, 11], [0, 1, 2, 3, 4, 10, 11, 12], [0, 1, 2, 3, 4], [0, 1, 2, 3, 4, 14], [0, 1, 2, 3, 4, 10, 11, 12, 13, 14, 15], [0, 1, 2, 3, 4, 5, 6, 7, 8, 9, 10, 11, 12, 13, 14, 15, 16], [0, 1, 2, 3, 4], [0, 1, 2, 3, 4, 18], [0, 1, 2, 3, 4], [0, 1, 2, 3, 4, 20], [0, 1, 2, 3, 4, 18, 19, 20, 21], [0, 1, 2, 3, 4, 5, 6, 7, 8, 9, 10, 11, 12, 13, 14, 15, 16, 17, 18, 19, 20, 21, 22], [0, 1, 2, 3, 4], [0, 1, 2, 3, 4], [0, 1, 2, 3, 4], [0, 1, 2, 3, 4], [0, 1, 2, 3, 4, 27], [0, 1, 2, 3, 4], [0, 1, 2, 3, 4, 29], [0, 1, 2, 3, 4, 27, 28, 29, 30], [0, 1, 2, 3, 4, 26, 27, 28, 29, 30, 31], [0, 1, 2, 3, 4, 24, 25, 26, 27, 28, 29, 30, 31, 32], [0, 1, 2, 3, 4, 5, 6, 7, 8, 9, 10, 11, 12, 13, 14, 15, 16, 17, 18, 19, 20, 21, 22, 23, 24, 25, 26, 27, 28, 29, 30, 31, 32, 33], [0, 1, 2, 3, 4, 5, 6, 7, 8, 9, 10, 11, 12, 13, 14, 15, 16, 17, 18, 19, 20, 21, 22, 23, 24, 25, 26, 27, 28, 29, 30, 31, 32, 33, 34], [0, 1, 2, 3, 4, 5, 6, 7, 8, 9, 10, 11, 12, 13, 14, 15, 16, 17, 18, 19, 20, 21, 22, 23, 24, 25, 26, 27, 28, 29, 30, 31, 32, 33, 34, 35]]
          [[], [], [], [], [], [], [], [], [], [], [], [], [], [], [], [], [], [], [], [], [], [], [], [], [], [], [], [], [], [], [], [], [], [], [], [], []]
          [[], [], [], [], [], [], [], [], [], [], [], [], [], [], [], [], [], [], [], [], [], [], [], [], [], [], [], [], [], [], [], [], [], [], [], [], []]
          [(0, .slice (some ad) n ca), (11, .int .i64 (q : Int)), (13, .pointer (some ⟨s, 0, none⟩))]
          (by kernel_rfl) rfl (by decide) (by rfl) rfl (by decide +kernel) (by decide +kernel) (by rfl) rfl rfl (by decide) (by simp) (by rfl) (h9) ?hstep ?hend
        case hstep =>
          refine ⟨?_, ⟨?_, ⟨?_, ⟨?_, ⟨?_, ⟨?_, ⟨?_, ⟨?_, ⟨?_, ⟨?_, ⟨?_, ⟨?_, ⟨?_, ⟨?_, ⟨?_, ⟨?_, ⟨?_, ⟨?_, ⟨?_, ⟨?_, ⟨?_, ⟨?_, ⟨?_, ⟨?_, ⟨?_, ⟨?_, ⟨?_, ⟨?_, ⟨?_, ⟨?_, ⟨?_, ⟨?_, ⟨?_, ⟨?_, ⟨?_, ⟨?_, ⟨?_, trivial⟩⟩⟩⟩⟩⟩⟩⟩⟩⟩⟩⟩⟩⟩⟩⟩⟩⟩⟩⟩⟩⟩⟩⟩⟩⟩⟩⟩⟩⟩⟩⟩⟩⟩⟩⟩⟩
          · intro x wx A rest hN hS hE H K hK0
            have e11 : A.tmps[11]?.getD undef = .int .i64 (q : Int) := hN (11, .int .i64 (q : Int)) (by simp)
            replace H : Sp w0 (rest) wx := H
            have hK : Hid (∀ (v : Value) (w' : World), v = .int .i64 (q : Int) → Sp w0 (rest) w' → K (A.put (some 127) v) w') := Lib.hid hK0
            clear hK0 hN hS hE
            change Oper.wp _ _ A wx K _
            go_step
            exact hK.out _ _ rfl (H)
          · intro x wx A rest hN hS hE H K hK0
            have e13 : A.tmps[13]?.getD undef = .pointer (some ⟨s, 0, none⟩) := hN (13, .pointer (some ⟨s, 0, none⟩)) (by simp)
            replace H : Sp w0 (rest) wx := H
            have hK : Hid (∀ (v : Value) (w' : World), v = .pointer (some ⟨s, 1, none⟩) → Sp w0 (rest) w' → K (A.put (some 128) v) w') := Lib.hid hK0
            clear hK0 hN hS hE
            change Oper.wp _ _ A wx K _
            go_step
            exact hK.out _ _ rfl (H)
          · intro x wx A rest hN hS hE H K hK0
            have e128 : A.tmps[128]?.getD undef = .pointer (some ⟨s, 1, none⟩) := ((hS 1 (by decide)).2 128 rfl).trans (hS 1 (by decide)).1
            replace H : Sp w0 (rest) wx := H
            have hK : Hid (∀ (v : Value) (w' : World), v = .int .i64 (far : Int) → Sp w0 (rest) w' → K (A.put (some 129) v) w') := Lib.hid hK0
            clear hK0 hN hS
            have c1 : wx.cell? ⟨s, 1, none⟩ = some (.int .i64 (far : Int)) := hE (fun w => w.cell? ⟨s, 1, none⟩ = some (.int .i64 (far : Int))) (fun _ _ H => H.cell 0 rfl 1) _ _ H
            change Oper.wp _ _ A wx K _
            go_step
            exact hK.out _ _ rfl (H)
          · intro x wx A rest hN hS hE H K hK0
            have e127 : A.tmps[127]?.getD undef = .int .i64 (q : Int) := ((hS 0 (by decide)).2 127 rfl).trans (hS 0 (by decide)).1
            have e129 : A.tmps[129]?.getD undef = .int .i64 (far : Int) := ((hS 2 (by decide)).2 129 rfl).trans (hS 2 (by decide)).1
            replace H : Sp w0 (rest) wx := H
            have hK : Hid (∀ (v : Value) (w' : World), v = .bool false → Sp w0 (rest) w' → K (A.put (some 130) v) w') := Lib.hid hK0
            clear hK0 hN hS hE
            change Oper.wp _ _ A wx K _
            go_step
            exact hK.out _ _ rfl (H)
          · intro x wx A rest hN hS hE H K hK0
            have e130 : A.tmps[130]?.getD undef = .bool false := ((hS 3 (by decide)).2 130 rfl).trans (hS 3 (by decide)).1
            replace H : Sp w0 (rest) wx := H
            have hK : Hid (∀ (v : Value) (w' : World), v = .bool false → Sp w0 (rest) w' → K (A.put (some 131) v) w') := Lib.hid hK0
            clear hK0 hN hS hE
            change Oper.wp _ _ A wx K _
            go_step
            exact hK.out _ _ rfl (H)
          · intro x wx A rest hN hS hE H K hK0
            have e0 : A.tmps[0]?.getD undef = .slice (some ad) n ca := hN (0, .slice (some ad) n ca) (by simp)
            have pg := (hS 4 (by decide)).1
            replace H : Sp w0 (rest) wx := H
            have hK : Hid (∀ (v : Value) (w' : World), v = .slice (some ad) n ca → Sp w0 (rest) w' → K (A.put (some 132) v) w') := Lib.hid hK0
            clear hK0 hN hS hE
            refine ⟨some false, by rw [pg]; rfl, ?_⟩
            rw [if_pos rfl]
            change Oper.wp _ _ A wx K _
            go_step
            exact hK.out _ _ rfl (H)
          · intro x wx A rest hN hS hE H K hK0
            have e11 : A.tmps[11]?.getD undef = .int .i64 (q : Int) := hN (11, .int .i64 (q : Int)) (by simp)
            have pg := (hS 4 (by decide)).1
            replace H : Sp w0 (rest) wx := H
            have hK : Hid (∀ (v : Value) (w' : World), v = .int .i64 (q : Int) → Sp w0 (rest) w' → K (A.put (some 133) v) w') := Lib.hid hK0
            clear hK0 hN hS hE
            refine ⟨some false, by rw [pg]; rfl, ?_⟩
            rw [if_pos rfl]
            change Oper.wp _ _ A wx K _
            go_step
            exact hK.out _ _ rfl (H)
          · intro x wx A rest hN hS hE H K hK0
            have e13 : A.tmps[13]?.getD undef = .pointer (some ⟨s, 0, none⟩) := hN (13, .pointer (some ⟨s, 0, none⟩)) (by simp)
            have pg := (hS 4 (by decide)).1
            replace H : Sp w0 (rest) wx := H
            have hK : Hid (∀ (v : Value) (w' : World), v = .pointer (some ⟨s, 1, none⟩) → Sp w0 (rest) w' → K (A.put (some 134) v) w') := Lib.hid hK0
            clear hK0 hN hS hE
            refine ⟨some false, by rw [pg]; rfl, ?_⟩
            rw [if_pos rfl]
            change Oper.wp _ _ A wx K _
            go_step
            exact hK.out _ _ rfl (H)
          · intro x wx A rest hN hS hE H K hK0
            have e134 : A.tmps[134]?.getD undef = .pointer (some ⟨s, 1, none⟩) := ((hS 7 (by decide)).2 134 rfl).trans (hS 7 (by decide)).1
            have pg := (hS 4 (by decide)).1
            replace H : Sp w0 (rest) wx := H
            have hK : Hid (∀ (v : Value) (w' : World), v = .int .i64 (far : Int) → Sp w0 (rest) w' → K (A.put (some 135) v) w') := Lib.hid hK0
            clear hK0 hN hS
            have c1 : wx.cell? ⟨s, 1, none⟩ = some (.int .i64 (far : Int)) := hE (fun w => w.cell? ⟨s, 1, none⟩ = some (.int .i64 (far : Int))) (fun _ _ H => H.cell 0 rfl 1) _ _ H
            refine ⟨some false, by rw [pg]; rfl, ?_⟩
            rw [if_pos rfl]
            change Oper.wp _ _ A wx K _
            go_step
            exact hK.out _ _ rfl (H)
          · intro x wx A rest hN hS hE H K hK0
            have e133 : A.tmps[133]?.getD undef = .int .i64 (q : Int) := ((hS 6 (by decide)).2 133 rfl).trans (hS 6 (by decide)).1
            have e135 : A.tmps[135]?.getD undef = .int .i64 (far : Int) := ((hS 8 (by decide)).2 135 rfl).trans (hS 8 (by decide)).1
            have pg := (hS 4 (by decide)).1
            replace H : Sp w0 (rest) wx := H
            have hK : Hid (∀ (v : Value) (w' : World), v = .int .i64 (p : Int) → Sp w0 (rest) w' → K (A.put (some 136) v) w') := Lib.hid hK0
            clear hK0 hN hS hE
            refine ⟨some false, by rw [pg]; rfl, ?_⟩
            rw [if_pos rfl]
            change Oper.wp _ _ A wx K _
            go_step
            exact hK.out _ _ rfl (H)
          · intro x wx A rest hN hS hE H K hK0
            have e11 : A.tmps[11]?.getD undef = .int .i64 (q : Int) := hN (11, .int .i64 (q : Int)) (by simp)
            have pg := (hS 4 (by decide)).1
            replace H : Sp w0 (rest) wx := H
            have hK : Hid (∀ (v : Value) (w' : World), v = .int .i64 (q : Int) → Sp w0 (rest) w' → K (A.put (some 137) v) w') := Lib.hid hK0
            clear hK0 hN hS hE
            refine ⟨some false, by rw [pg]; rfl, ?_⟩
            rw [if_pos rfl]
            change Oper.wp _ _ A wx K _
            go_step
            exact hK.out _ _ rfl (H)
          · intro x wx A rest hN hS hE H K hK0
            have e13 : A.tmps[13]?.getD undef = .pointer (some ⟨s, 0, none⟩) := hN (13, .pointer (some ⟨s, 0, none⟩)) (by simp)
            have pg := (hS 4 (by decide)).1
            replace H : Sp w0 (rest) wx := H
            have hK : Hid (∀ (v : Value) (w' : World), v = .pointer (some ⟨s, 1, none⟩) → Sp w0 (rest) w' → K (A.put (some 138) v) w') := Lib.hid hK0
            clear hK0 hN hS hE
            refine ⟨some false, by rw [pg]; rfl, ?_⟩
            rw [if_pos rfl]
            change Oper.wp _ _ A wx K _
            go_step
            exact hK.out _ _ rfl (H)
          · intro x wx A rest hN hS hE H K hK0
            have e138 : A.tmps[138]?.getD undef = .pointer (some ⟨s, 1, none⟩) := ((hS 11 (by decide)).2 138 rfl).trans (hS 11 (by decide)).1
            have pg := (hS 4 (by decide)).1
            replace H : Sp w0 (rest) wx := H
            have hK : Hid (∀ (v : Value) (w' : World), v = .int .i64 (far : Int) → Sp w0 (rest) w' → K (A.put (some 139) v) w') := Lib.hid hK0
            clear hK0 hN hS
            have c1 : wx.cell? ⟨s, 1, none⟩ = some (.int .i64 (far : Int)) := hE (fun w => w.cell? ⟨s, 1, none⟩ = some (.int .i64 (far : Int))) (fun _ _ H => H.cell 0 rfl 1) _ _ H
            refine ⟨some false, by rw [pg]; rfl, ?_⟩
            rw [if_pos rfl]
            change Oper.wp _ _ A wx K _
            go_step
            exact hK.out _ _ rfl (H)
          · intro x wx A rest hN hS hE H K hK0
            have e137 : A.tmps[137]?.getD undef = .int .i64 (q : Int) := ((hS 10 (by decide)).2 137 rfl).trans (hS 10 (by decide)).1
            have e139 : A.tmps[139]?.getD undef = .int .i64 (far : Int) := ((hS 12 (by decide)).2 139 rfl).trans (hS 12 (by decide)).1
            have pg := (hS 4 (by decide)).1
            replace H : Sp w0 (rest) wx := H
            have hK : Hid (∀ (v : Value) (w' : World), v = .int .i64 (p : Int) → Sp w0 (rest) w' → K (A.put (some 140) v) w') := Lib.hid hK0
            clear hK0 hN hS hE
            refine ⟨some false, by rw [pg]; rfl, ?_⟩
            rw [if_pos rfl]
            change Oper.wp _ _ A wx K _
            go_step
            exact hK.out _ _ rfl (H)
          · intro x wx A rest hN hS hE H K hK0
            have e13 : A.tmps[13]?.getD undef = .pointer (some ⟨s, 0, none⟩) := hN (13, .pointer (some ⟨s, 0, none⟩)) (by simp)
            have pg := (hS 4 (by decide)).1
            replace H : Sp w0 (rest) wx := H
            have hK : Hid (∀ (v : Value) (w' : World), v = .pointer (some ⟨s, 0, none⟩) → Sp w0 (rest) w' → K (A.put (some 141) v) w') := Lib.hid hK0
            clear hK0 hN hS hE
            refine ⟨some false, by rw [pg]; rfl, ?_⟩
            rw [if_pos rfl]
            change Oper.wp _ _ A wx K _
            go_step
            exact hK.out _ _ rfl (H)
          · intro x wx A rest hN hS hE H K hK0
            have e141 : A.tmps[141]?.getD undef = .pointer (some ⟨s, 0, none⟩) := ((hS 14 (by decide)).2 141 rfl).trans (hS 14 (by decide)).1
            have pg := (hS 4 (by decide)).1
            replace H : Sp w0 (rest) wx := H
            have hK : Hid (∀ (v : Value) (w' : World), v = .int .i64 (m : Int) → Sp w0 (rest) w' → K (A.put (some 142) v) w') := Lib.hid hK0
            clear hK0 hN hS
            have c0 : wx.cell? ⟨s, 0, none⟩ = some (.int .i64 (m : Int)) := hE (fun w => w.cell? ⟨s, 0, none⟩ = some (.int .i64 (m : Int))) (fun _ _ H => H.cell 0 rfl 0) _ _ H
            refine ⟨some false, by rw [pg]; rfl, ?_⟩
            rw [if_pos rfl]
            change Oper.wp _ _ A wx K _
            go_step
            exact hK.out _ _ rfl (H)
          · intro x wx A rest hN hS hE H K hK0
            have e140 : A.tmps[140]?.getD undef = .int .i64 (p : Int) := ((hS 13 (by decide)).2 140 rfl).trans (hS 13 (by decide)).1
            have e142 : A.tmps[142]?.getD undef = .int .i64 (m : Int) := ((hS 15 (by decide)).2 142 rfl).trans (hS 15 (by decide)).1
            have pg := (hS 4 (by decide)).1
            replace H : Sp w0 (rest) wx := H
            have hK : Hid (∀ (v : Value) (w' : World), v = .int .i64 (pm : Int) → Sp w0 (rest) w' → K (A.put (some 143) v) w') := Lib.hid hK0
            clear hK0 hN hS hE
            refine ⟨some false, by rw [pg]; rfl, ?_⟩
            rw [if_pos rfl]
            change Oper.wp _ _ A wx K _
            go_step
            exact hK.out _ _ rfl (H)
          · intro x wx A rest hN hS hE H K hK0
            have e132 : A.tmps[132]?.getD undef = .slice (some ad) n ca := ((hS 5 (by decide)).2 132 rfl).trans (hS 5 (by decide)).1
            have e136 : A.tmps[136]?.getD undef = .int .i64 (p : Int) := ((hS 9 (by decide)).2 136 rfl).trans (hS 9 (by decide)).1
            have e143 : A.tmps[143]?.getD undef = .int .i64 (pm : Int) := ((hS 16 (by decide)).2 143 rfl).trans (hS 16 (by decide)).1
            have pg := (hS 4 (by decide)).1
            replace H : Sp w0 (rest) wx := H
            have hK : Hid (∀ (v : Value) (w' : World), v = .slice (some (ad.add p)) m (ca - p) → Sp w0 (rest) w' → K (A.put (some 144) v) w') := Lib.hid hK0
            clear hK0 hN hS hE
            refine ⟨some false, by rw [pg]; rfl, ?_⟩
            rw [if_pos rfl]
            change Oper.wp _ _ A wx K _
            go_step
            exact hK.out _ _ rfl (H)
          · intro x wx A rest hN hS hE H K hK0
            have e13 : A.tmps[13]?.getD undef = .pointer (some ⟨s, 0, none⟩) := hN (13, .pointer (some ⟨s, 0, none⟩)) (by simp)
            have pg := (hS 4 (by decide)).1
            replace H : Sp w0 (rest) wx := H
            have hK : Hid (∀ (v : Value) (w' : World), v = .pointer (some ⟨s, 0, none⟩) → Sp w0 (rest) w' → K (A.put (some 145) v) w') := Lib.hid hK0
            clear hK0 hN hS hE
            refine ⟨some false, by rw [pg]; rfl, ?_⟩
            rw [if_pos rfl]
            change Oper.wp _ _ A wx K _
            go_step
            exact hK.out _ _ rfl (H)
          · intro x wx A rest hN hS hE H K hK0
            have e145 : A.tmps[145]?.getD undef = .pointer (some ⟨s, 0, none⟩) := ((hS 18 (by decide)).2 145 rfl).trans (hS 18 (by decide)).1
            have pg := (hS 4 (by decide)).1
            replace H : Sp w0 (rest) wx := H
            have hK : Hid (∀ (v : Value) (w' : World), v = .int .i64 (m : Int) → Sp w0 (rest) w' → K (A.put (some 146) v) w') := Lib.hid hK0
            clear hK0 hN hS
            have c0 : wx.cell? ⟨s, 0, none⟩ = some (.int .i64 (m : Int)) := hE (fun w => w.cell? ⟨s, 0, none⟩ = some (.int .i64 (m : Int))) (fun _ _ H => H.cell 0 rfl 0) _ _ H
            refine ⟨some false, by rw [pg]; rfl, ?_⟩
            rw [if_pos rfl]
            change Oper.wp _ _ A wx K _
            go_step
            exact hK.out _ _ rfl (H)
          · intro x wx A rest hN hS hE H K hK0
            have e13 : A.tmps[13]?.getD undef = .pointer (some ⟨s, 0, none⟩) := hN (13, .pointer (some ⟨s, 0, none⟩)) (by simp)
            have pg := (hS 4 (by decide)).1
            replace H : Sp w0 (rest) wx := H
            have hK : Hid (∀ (v : Value) (w' : World), v = .pointer (some ⟨s, 1, none⟩) → Sp w0 (rest) w' → K (A.put (some 147) v) w') := Lib.hid hK0
            clear hK0 hN hS hE
            refine ⟨some false, by rw [pg]; rfl, ?_⟩
            rw [if_pos rfl]
            change Oper.wp _ _ A wx K _
            go_step
            exact hK.out _ _ rfl (H)
          · intro x wx A rest hN hS hE H K hK0
            have e147 : A.tmps[147]?.getD undef = .pointer (some ⟨s, 1, none⟩) := ((hS 20 (by decide)).2 147 rfl).trans (hS 20 (by decide)).1
            have pg := (hS 4 (by decide)).1
            replace H : Sp w0 (rest) wx := H
            have hK : Hid (∀ (v : Value) (w' : World), v = .int .i64 (far : Int) → Sp w0 (rest) w' → K (A.put (some 148) v) w') := Lib.hid hK0
            clear hK0 hN hS
            have c1 : wx.cell? ⟨s, 1, none⟩ = some (.int .i64 (far : Int)) := hE (fun w => w.cell? ⟨s, 1, none⟩ = some (.int .i64 (far : Int))) (fun _ _ H => H.cell 0 rfl 1) _ _ H
            refine ⟨some false, by rw [pg]; rfl, ?_⟩
            rw [if_pos rfl]
            change Oper.wp _ _ A wx K _
            go_step
            exact hK.out _ _ rfl (H)
          · intro x wx A rest hN hS hE H K hK0
            have e146 : A.tmps[146]?.getD undef = .int .i64 (m : Int) := ((hS 19 (by decide)).2 146 rfl).trans (hS 19 (by decide)).1
            have e148 : A.tmps[148]?.getD undef = .int .i64 (far : Int) := ((hS 21 (by decide)).2 148 rfl).trans (hS 21 (by decide)).1
            have pg := (hS 4 (by decide)).1
            replace H : Sp w0 (rest) wx := H
            have hK : Hid (∀ (v : Value) (w' : World), v = .int .i64 (k : Int) → Sp w0 (rest) w' → K (A.put (some 149) v) w') := Lib.hid hK0
            clear hK0 hN hS hE
            refine ⟨some false, by rw [pg]; rfl, ?_⟩
            rw [if_pos rfl]
            change Oper.wp _ _ A wx K _
            go_step
            exact hK.out _ _ rfl (H)
          · intro x wx A rest hN hS hE H K hK0
            have e144 : A.tmps[144]?.getD undef = .slice (some (ad.add p)) m (ca - p) := ((hS 17 (by decide)).2 144 rfl).trans (hS 17 (by decide)).1
            have e149 : A.tmps[149]?.getD undef = .int .i64 (k : Int) := ((hS 22 (by decide)).2 149 rfl).trans (hS 22 (by decide)).1
            have pg := (hS 4 (by decide)).1
            replace H : Sp w0 (rest) wx := H
            have hK : Hid (∀ (v : Value) (w' : World), v = .slice (some (ad.add p)) k (ca - p) → Sp w0 (rest) w' → K (A.put (some 150) v) w') := Lib.hid hK0
            clear hK0 hN hS hE
            refine ⟨some false, by rw [pg]; rfl, ?_⟩
            rw [if_pos rfl]
            change Oper.wp _ _ A wx K _
            go_step
            exact hK.out _ _ rfl (H)
          · intro x wx A rest hN hS hE H K hK0
            have e0 : A.tmps[0]?.getD undef = .slice (some ad) n ca := hN (0, .slice (some ad) n ca) (by simp)
            have pg := (hS 4 (by decide)).1
            replace H : Sp w0 (rest) wx := H
            have hK : Hid (∀ (v : Value) (w' : World), v = .slice (some ad) n ca → Sp w0 (rest) w' → K (A.put (some 151) v) w') := Lib.hid hK0
            clear hK0 hN hS hE
            refine ⟨some false, by rw [pg]; rfl, ?_⟩
            rw [if_pos rfl]
            change Oper.wp _ _ A wx K _
            go_step
            exact hK.out _ _ rfl (H)
          · intro x wx A rest hN hS hE H K hK0
            have e11 : A.tmps[11]?.getD undef = .int .i64 (q : Int) := hN (11, .int .i64 (q : Int)) (by simp)
            have pg := (hS 4 (by decide)).1
            replace H : Sp w0 (rest) wx := H
            have hK : Hid (∀ (v : Value) (w' : World), v = .int .i64 (q : Int) → Sp w0 (rest) w' → K (A.put (some 152) v) w') := Lib.hid hK0
            clear hK0 hN hS hE
            refine ⟨some false, by rw [pg]; rfl, ?_⟩
            rw [if_pos rfl]
            change Oper.wp _ _ A wx K _
            go_step
            exact hK.out _ _ rfl (H)
          · intro x wx A rest hN hS hE H K hK0
            have e11 : A.tmps[11]?.getD undef = .int .i64 (q : Int) := hN (11, .int .i64 (q : Int)) (by simp)
            have pg := (hS 4 (by decide)).1
            replace H : Sp w0 (rest) wx := H
            have hK : Hid (∀ (v : Value) (w' : World), v = .int .i64 (q : Int) → Sp w0 (rest) w' → K (A.put (some 153) v) w') := Lib.hid hK0
            clear hK0 hN hS hE
            refine ⟨some false, by rw [pg]; rfl, ?_⟩
            rw [if_pos rfl]
            change Oper.wp _ _ A wx K _
            go_step
            exact hK.out _ _ rfl (H)
          · intro x wx A rest hN hS hE H K hK0
            have e13 : A.tmps[13]?.getD undef = .pointer (some ⟨s, 0, none⟩) := hN (13, .pointer (some ⟨s, 0, none⟩)) (by simp)
            have pg := (hS 4 (by decide)).1
            replace H : Sp w0 (rest) wx := H
            have hK : Hid (∀ (v : Value) (w' : World), v = .pointer (some ⟨s, 0, none⟩) → Sp w0 (rest) w' → K (A.put (some 154) v) w') := Lib.hid hK0
            clear hK0 hN hS hE
            refine ⟨some false, by rw [pg]; rfl, ?_⟩
            rw [if_pos rfl]
            change Oper.wp _ _ A wx K _
            go_step
            exact hK.out _ _ rfl (H)
          · intro x wx A rest hN hS hE H K hK0
            have e154 : A.tmps[154]?.getD undef = .pointer (some ⟨s, 0, none⟩) := ((hS 27 (by decide)).2 154 rfl).trans (hS 27 (by decide)).1
            have pg := (hS 4 (by decide)).1
            replace H : Sp w0 (rest) wx := H
            have hK : Hid (∀ (v : Value) (w' : World), v = .int .i64 (m : Int) → Sp w0 (rest) w' → K (A.put (some 155) v) w') := Lib.hid hK0
            clear hK0 hN hS
            have c0 : wx.cell? ⟨s, 0, none⟩ = some (.int .i64 (m : Int)) := hE (fun w => w.cell? ⟨s, 0, none⟩ = some (.int .i64 (m : Int))) (fun _ _ H => H.cell 0 rfl 0) _ _ H
            refine ⟨some false, by rw [pg]; rfl, ?_⟩
            rw [if_pos rfl]
            change Oper.wp _ _ A wx K _
            go_step
            exact hK.out _ _ rfl (H)
          · intro x wx A rest hN hS hE H K hK0
            have e13 : A.tmps[13]?.getD undef = .pointer (some ⟨s, 0, none⟩) := hN (13, .pointer (some ⟨s, 0, none⟩)) (by simp)
            have pg := (hS 4 (by decide)).1
            replace H : Sp w0 (rest) wx := H
            have hK : Hid (∀ (v : Value) (w' : World), v = .pointer (some ⟨s, 1, none⟩) → Sp w0 (rest) w' → K (A.put (some 156) v) w') := Lib.hid hK0
            clear hK0 hN hS hE
            refine ⟨some false, by rw [pg]; rfl, ?_⟩
            rw [if_pos rfl]
            change Oper.wp _ _ A wx K _
            go_step
            exact hK.out _ _ rfl (H)
          · intro x wx A rest hN hS hE H K hK0
            have e156 : A.tmps[156]?.getD undef = .pointer (some ⟨s, 1, none⟩) := ((hS 29 (by decide)).2 156 rfl).trans (hS 29 (by decide)).1
            have pg := (hS 4 (by decide)).1
            replace H : Sp w0 (rest) wx := H
            have hK : Hid (∀ (v : Value) (w' : World), v = .int .i64 (far : Int) → Sp w0 (rest) w' → K (A.put (some 157) v) w') := Lib.hid hK0
            clear hK0 hN hS
            have c1 : wx.cell? ⟨s, 1, none⟩ = some (.int .i64 (far : Int)) := hE (fun w => w.cell? ⟨s, 1, none⟩ = some (.int .i64 (far : Int))) (fun _ _ H => H.cell 0 rfl 1) _ _ H
            refine ⟨some false, by rw [pg]; rfl, ?_⟩
            rw [if_pos rfl]
            change Oper.wp _ _ A wx K _
            go_step
            exact hK.out _ _ rfl (H)
          · intro x wx A rest hN hS hE H K hK0
            have e155 : A.tmps[155]?.getD undef = .int .i64 (m : Int) := ((hS 28 (by decide)).2 155 rfl).trans (hS 28 (by decide)).1
            have e157 : A.tmps[157]?.getD undef = .int .i64 (far : Int) := ((hS 30 (by decide)).2 157 rfl).trans (hS 30 (by decide)).1
            have pg := (hS 4 (by decide)).1
            replace H : Sp w0 (rest) wx := H
            have hK : Hid (∀ (v : Value) (w' : World), v = .int .i64 (k : Int) → Sp w0 (rest) w' → K (A.put (some 158) v) w') := Lib.hid hK0
            clear hK0 hN hS hE
            refine ⟨some false, by rw [pg]; rfl, ?_⟩
            rw [if_pos rfl]
            change Oper.wp _ _ A wx K _
            go_step
            exact hK.out _ _ rfl (H)
          · intro x wx A rest hN hS hE H K hK0
            have e153 : A.tmps[153]?.getD undef = .int .i64 (q : Int) := ((hS 26 (by decide)).2 153 rfl).trans (hS 26 (by decide)).1
            have e158 : A.tmps[158]?.getD undef = .int .i64 (k : Int) := ((hS 31 (by decide)).2 158 rfl).trans (hS 31 (by decide)).1
            have pg := (hS 4 (by decide)).1
            replace H : Sp w0 (rest) wx := H
            have hK : Hid (∀ (v : Value) (w' : World), v = .int .i64 (qk : Int) → Sp w0 (rest) w' → K (A.put (some 159) v) w') := Lib.hid hK0
            clear hK0 hN hS hE
            refine ⟨some false, by rw [pg]; rfl, ?_⟩
            rw [if_pos rfl]
            change Oper.wp _ _ A wx K _
            go_step
            exact hK.out _ _ rfl (H)
          · intro x wx A rest hN hS hE H K hK0
            have e151 : A.tmps[151]?.getD undef = .slice (some ad) n ca := ((hS 24 (by decide)).2 151 rfl).trans (hS 24 (by decide)).1
            have e152 : A.tmps[152]?.getD undef = .int .i64 (q : Int) := ((hS 25 (by decide)).2 152 rfl).trans (hS 25 (by decide)).1
            have e159 : A.tmps[159]?.getD undef = .int .i64 (qk : Int) := ((hS 32 (by decide)).2 159 rfl).trans (hS 32 (by decide)).1
            have pg := (hS 4 (by decide)).1
            replace H : Sp w0 (rest) wx := H
            have hK : Hid (∀ (v : Value) (w' : World), v = .slice (some (ad.add q)) k (ca - q) → Sp w0 (rest) w' → K (A.put (some 160) v) w') := Lib.hid hK0
            clear hK0 hN hS hE
            refine ⟨some false, by rw [pg]; rfl, ?_⟩
            rw [if_pos rfl]
            change Oper.wp _ _ A wx K _
            go_step
            exact hK.out _ _ rfl (H)
          · intro x wx A rest hN hS hE H K hK0
            have e150 : A.tmps[150]?.getD undef = .slice (some (ad.add p)) k (ca - p) := ((hS 23 (by decide)).2 150 rfl).trans (hS 23 (by decide)).1
            have e160 : A.tmps[160]?.getD undef = .slice (some (ad.add q)) k (ca - q) := ((hS 33 (by decide)).2 160 rfl).trans (hS 33 (by decide)).1
            have pg := (hS 4 (by decide)).1
            replace H : Sp w0 (rest) wx := H
            have hK : Hid (∀ (v : Value) (w' : World), v = .bool true → Sp w0 (rest) w' → K (A.put (some 161) v) w') := Lib.hid hK0
            clear hK0 hN hS
            have hq9 := hE _ (Ent.pick 2 [] HEQ.out) _ _ H 0
            refine ⟨some false, by rw [pg]; rfl, ?_⟩
            rw [if_pos rfl]
            change Oper.wp _ _ A wx K _
            go_wp2_with fail
            refine hq9.mono ?_
            rintro _ _ ⟨rfl, rfl⟩
            exact hK.out _ _ rfl (H.drewN 0)
          · intro x wx A rest hN hS hE H K hK0
            have e161 : A.tmps[161]?.getD undef = .bool true := ((hS 34 (by decide)).2 161 rfl).trans (hS 34 (by decide)).1
            have pg := (hS 4 (by decide)).1
            replace H : Sp w0 (rest) wx := H
            have hK : Hid (∀ (v : Value) (w' : World), v = .bool false → Sp w0 (rest) w' → K (A.put (some 162) v) w') := Lib.hid hK0
            clear hK0 hN hS hE
            refine ⟨some false, by rw [pg]; rfl, ?_⟩
            rw [if_pos rfl]
            change Oper.wp _ _ A wx K _
            go_step
            exact hK.out _ _ rfl (H)
          · intro x wx A rest hN hS hE H K hK0
            have e131 : A.tmps[131]?.getD undef = .bool false := ((hS 4 (by decide)).2 131 rfl).trans (hS 4 (by decide)).1
            have e162 : A.tmps[162]?.getD undef = .bool false := ((hS 35 (by decide)).2 162 rfl).trans (hS 35 (by decide)).1
            replace H : Sp w0 (rest) wx := H
            have hK : Hid (∀ (v : Value) (w' : World), v = .bool false → Sp w0 (rest) w' → K (A.put (some 163) v) w') := Lib.hid hK0
            clear hK0 hN hS hE
            change Oper.wp _ _ A wx K _
            go_step
            exact hK.out _ _ rfl (H)
        case hend =>
          intro x wx A hA hS H
          replace H : Sp w0 (Bk s 25 [.int .i64 (m : Int), .int .i64 (far : Int), .int .u8 0] :: Row 25 3 (.slice (some a1) X.length c1) X.length (stsV X) :: L) wx := H
          have y36 : x 36 = .bool false := hS 36 (by decide)
          clear hS
          simp only [putAll, Act.put, List.setIfInBounds_toArray, List.set_cons_succ, List.set_cons_zero, Nat.reduceAdd] at hA
          subst hA
          rw [y36]
          clear y36
          have u0 : wx.cell? ⟨s, 0, none⟩ = some (.int .i64 (m : Int)) := H.cell 0 rfl 0
          by_cases hn3 : n ≤ 300
          · have k10 : (n : Int) ≤ 300 := by omega
            have hbs := Best_ok n (q : Int) ((many : Int) + 1) (some ad) ca B H HL.out (Ent.pick 2 [] HB.out) (by omega)
            have hbq : bestL B (q : Int) ((many : Int) + 1) = (m, far) := by
              rw [bestL_ref B q _ hqB, show ((many : Int) + 1).toNat = many + 1 by omega]
              exact HBST.out
            rw [hbq] at hbs
            unfold stV at hbs
            rw [show decide (0 < ((m, far) : Nat × Nat).1) = true from decide_eq_true (by show 0 < m; omega)] at hbs
            clear hbq
            go_wp2_with fail
            refine hbs.mono ?_
            rintro _ w7 ⟨rfl, H7⟩
            have v0 : ∀ o, (w7.alloc o).cell? ⟨s, 0, none⟩ = some (.int .i64 (m : Int)) := fun o => (H7.alloc o).cell 0 rfl 0
            have v1 : ∀ o, (w7.alloc o).cell? ⟨s, 1, none⟩ = some (.int .i64 (far : Int)) := fun o => (H7.alloc o).cell 0 rfl 1
            have v2 : ∀ o, (w7.alloc o).cell? ⟨s, 2, none⟩ = some (.int .u8 0) := fun o => (H7.alloc o).cell 0 rfl 2
            clear hbs u0
            go_wp2_with fail
            go_roundw
            case rel => exact ⟨i + 1, q + m, by go_num, by go_num, by omega, by omega, HD2.out, (H7.alloc _).tail⟩
            case measure => first | (simp [intOf]; omega) | simp [intOf]
          · have k10 : ¬ (n : Int) ≤ 300 := by omega
            go_wp2_with fail
            go_roundw
            case rel => exact ⟨i + 1, q + m, by go_num, by go_num, by omega, by omega, HD2.out, H.tail⟩
            case measure => first | (simp [intOf]; omega) | simp [intOf]
end Go.Proofs.Ytdlbhoedmaifpaa
