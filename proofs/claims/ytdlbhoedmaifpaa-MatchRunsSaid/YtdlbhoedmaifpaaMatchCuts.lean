/- MatchCuts: the walk of the law. -/
import Derived.Test.YtdlbhoedmaifpaaMatchD
namespace Go.Proofs.Ytdlbhoedmaifpaa
open Go.RowKit Go.MapKept
theorem bestL_ref (B : List UInt8) (q : Nat) (d : Int) (hq : q < B.length) : bestL B (q : Int) d = PM.best B q d.toNat := by
  unfold bestL
  by_cases hd : 1 ≤ d
  · rw [if_pos ⟨by omega, by omega, hd⟩]; rfl
  · rw [if_neg (fun h => hd h.2.2), show d.toNat = 0 by omega]
    unfold PM.best
    split
    · rw [PM.go_zero]
    · rfl
theorem cutL_length (B : List UInt8) (d : Int) : (cutL B d).length ≤ B.length := by
  unfold cutL
  split
  · exact PM.cut_length B d.toNat 0
  · exact Nat.zero_le _
set_option maxRecDepth 100000 in
set_option maxHeartbeats 4000000 in
theorem cuts_any (A0 : Option Addr) (ca : Nat) (b0 : List UInt8) (d at_ : Int) {w0 w : World} {L : List Pr} (H : Sp w0 L w) (hE : Ent L fun w' => Byt w' (.slice A0 b0.length ca) b0) :
    Calls Try.prog 4 #[.slice A0 b0.length ca, .int .i64 d, .int .i64 at_] w fun e w' => e = .returned (.bool true) ∧ Sp w0 L w' := by
  obtain ⟨hb1, hb2⟩ : b0.length ≤ ca ∧ ca ≤ maxLen := by
    obtain ⟨_, _, e, _, h1, h2⟩ := hE _ _ H
    injection e with _ _ e
    subst e
    exact ⟨h1, h2⟩
  unfold maxLen at hb2
  obtain ⟨n, hn⟩ : ∃ n : Nat, n = min b0.length 400 := ⟨_, rfl⟩
  have hmn : ∀ W : World, (Builtin.min_ #[3, 3] 3 #[.int .i64 (b0.length : Int), .int .i64 400]).run Try.prog W = .ok (.int .i64 (n : Int)) W := fun W => by
    simp [Builtin.min_, Builtin.min2]
    split <;> omega
  have hna : n ≤ b0.length := by omega
  have hnk : n ≤ 400 := by omega
  have hnc : (n : Int) ≤ ca := by omega
  clear hn
  obtain ⟨B, hl⟩ : ∃ B, b0.take n = B := ⟨_, rfl⟩
  have hll : n = B.length := by rw [← hl]; simp; omega
  have hB : Ent L fun w' => Byt w' (.slice A0 n ca) B := hE.mono fun w' h => by rw [← hl]; exact h.take n hna
  have HL := Lib.hid hll
  have HB := Lib.hid hB
  clear hl hll hE hB
  go_enter Try.func4, Try.ntmps4
  go_wp2_with fail
  refine (clone_ok H (HB.out _ _ H) (by rw [← HL.out]; omega)).mono ?_
  rintro _ w1 ⟨v1, rfl, H1⟩
  clear hmn
  rw [← HL.out] at H1
  obtain ⟨V1, c1, rfl, _, _⟩ := Row.form H1 0 rfl
  have hO : Ent (Row 5 1 (.slice V1 n c1) n (cells8 B) :: L) fun w' => Byt w' (.slice V1 n c1) B := fun _ _ H' => H'.row_byt 0 (by rw [← HL.out]; rfl)
  have HO := Lib.hid hO
  clear hO
  obtain ⟨X, hX⟩ : ∃ X, cutL B d = X := ⟨_, rfl⟩
  obtain ⟨ce, hce⟩ : ∃ ce, cutE d = ce := ⟨_, rfl⟩
  have hc1 := Cut_ok n d V1 c1 B H1 HL.out HO.out (by omega)
  rw [hX, hce] at hc1
  go_wp2_with fail
  refine hc1.mono ?_
  rintro _ w2 ⟨v2, rfl, H2⟩
  have hc2 := rcut_ok n d A0 ca B H2 HL.out (Ent.pick 2 [] HB.out) (by omega)
  rw [hX, hce] at hc2
  go_wp2_with fail
  refine hc2.mono ?_
  rintro _ w3 ⟨v3, rfl, H3⟩
  have hXl : X.length ≤ 400 := by
    rw [← hX]
    exact Nat.le_trans (cutL_length B d) (by rw [← HL.out]; exact hnk)
  clear hc1 hc2 hX hce
  obtain ⟨V2, c2, rfl, _, _⟩ := Row.form H3 1 rfl
  obtain ⟨V3, c3, rfl, _, _⟩ := Row.form H3 0 rfl
  obtain ⟨x1, hx1⟩ : ∃ x1, (bestL B at_ d).1 = x1 := ⟨_, rfl⟩
  obtain ⟨x2, hx2⟩ : ∃ x2, (bestL B at_ d).2 = x2 := ⟨_, rfl⟩
  have hb3 := Best_ok n at_ d V1 c1 B H3 HL.out (Ent.pick 2 [] HO.out) (by omega)
  rw [hx1, hx2] at hb3
  go_wp2_with fail
  refine hb3.mono ?_
  rintro _ w4 ⟨rfl, H4⟩
  unfold stV
  clear hb3
  have HX1 := Lib.hid hx1
  have HX2 := Lib.hid hx2
  clear hx1 hx2
  by_cases hat : 0 ≤ at_ ∧ at_ < (n : Int)
  · obtain ⟨q, rfl⟩ := Int.eq_ofNat_of_zero_le hat.1
    have k1 : (0 : Int) ≤ (q : Int) := by omega
    have k2 : (q : Int) < (n : Int) := hat.2
    have href : PM.best B q d.toNat = bestL B (q : Int) d := (bestL_ref B q d (by rw [← HL.out]; omega)).symm
    have HREF := Lib.hid href
    clear href hat
    go_wp2_with fail
    have H5 := (H4.newBk [.int .i64 (x1 : Int), .int .i64 (x2 : Int), .int .u8 0] 25).newBk [.int .i64 0, .int .i64 0, .int .u8 0] 38
    have es : (w4.alloc (.cells #[.int .i64 (x1 : Int), .int .i64 (x2 : Int), .int .u8 0] 25)).heap.size = w4.heap.size + 1 := Array.size_push _
    rw [es] at H5
    clear es
    generalize w4.heap.size + 1 = s6 at H5 ⊢
    generalize w4.heap.size = s5 at H5 ⊢
    generalize (w4.alloc _).alloc _ = w5 at H5 ⊢
    have hb5 := rbest_ok n q d A0 ca B H5 HL.out (Ent.pick 5 [] HB.out) (by omega) (by omega)
    rw [HREF.out, HX1.out, HX2.out] at hb5
    refine hb5.mono ?_
    rintro _ w7 ⟨rfl, H7⟩
    unfold stV
    clear hb5
    have y0 := H7.cell 0 rfl 0
    have y1 := H7.cell 0 rfl 1
    have y2 := H7.cell 0 rfl 2
    have z0 := H7.frozen 0 rfl 0
    have z1 := H7.frozen 0 rfl 1
    have z2 := H7.frozen 0 rfl 2
    simp only [List.getElem?_cons_zero, List.getElem?_cons_succ] at y0 y1 y2
    have H8 := ((H7.set 0 (.int .i64 (x1 : Int))).set 1 (.int .i64 (x2 : Int))).set 2 (.int .u8 0)
    go_wp2_with fail
    clear y0 y1 y2 z0 z1 z2
    generalize ((w7.setCell _ _).setCell _ _).setCell _ _ = w8 at H8 ⊢
    refine (same_ok V2 V3 X.length c2 c3 X H8 rfl (by omega) (fun _ _ H => H.stAt 3 rfl) (fun _ _ H => H.stAt 2 rfl)).mono ?_
    rintro _ w9 ⟨rfl, H9⟩
    have t0 : w9.cell? ⟨s5, 0, none⟩ = some (.int .i64 (x1 : Int)) := H9.cell 1 rfl 0
    have t1 : w9.cell? ⟨s5, 1, none⟩ = some (.int .i64 (x2 : Int)) := H9.cell 1 rfl 1
    have t2 : w9.cell? ⟨s5, 2, none⟩ = some (.int .u8 0) := H9.cell 1 rfl 2
    have t3 : w9.cell? ⟨s6, 0, none⟩ = some (.int .i64 (x1 : Int)) := H9.cell 0 rfl 0
    have t4 : w9.cell? ⟨s6, 1, none⟩ = some (.int .i64 (x2 : Int)) := H9.cell 0 rfl 1
    have t5 : w9.cell? ⟨s6, 2, none⟩ = some (.int .u8 0) := H9.cell 0 rfl 2
    have he := equal_ok (HO.out _ _ (H9.pick 4 [])) (HB.out _ _ (H9.pick 5 []))
    rw [beq_self_eq_true] at he
    go_wp2_with fail
    refine he.mono ?_
    rintro _ _ ⟨rfl, rfl⟩
    go_wp2_with fail
    refine (wakes_ok H9).mono ?_
    rintro _ w10 ⟨rfl, H10⟩
    go_wp2_with fail
    go_ret
    exact ⟨rfl, H10.pick 5 []⟩
  · have hz : bestL B at_ d = (0, 0) := if_neg (fun h => hat ⟨h.1, by rw [HL.out]; exact h.2.1⟩)
    have e1 : x1 = 0 := by rw [← HX1.out, hz]
    have e2 : x2 = 0 := by rw [← HX2.out, hz]
    subst e1 e2
    clear hz
    by_cases hneg : 0 ≤ at_
    · have k2 : ¬ at_ < (n : Int) := fun h => hat ⟨hneg, h⟩
      clear hat
      go_wp2_with fail
      have H5 := (H4.newBk [.int .i64 ((0 : Nat) : Int), .int .i64 ((0 : Nat) : Int), .int .u8 0] 25).newBk [.int .i64 0, .int .i64 0, .int .u8 0] 38
      have es : (w4.alloc (.cells #[.int .i64 ((0 : Nat) : Int), .int .i64 ((0 : Nat) : Int), .int .u8 0] 25)).heap.size = w4.heap.size + 1 := Array.size_push _
      rw [es] at H5
      clear es
      generalize w4.heap.size + 1 = s6 at H5 ⊢
      generalize w4.heap.size = s5 at H5 ⊢
      generalize (w4.alloc _).alloc _ = w5 at H5 ⊢
      refine (same_ok V2 V3 X.length c2 c3 X H5 rfl (by omega) (fun _ _ H => H.stAt 3 rfl) (fun _ _ H => H.stAt 2 rfl)).mono ?_
      rintro _ w9 ⟨rfl, H9⟩
      have t0 : w9.cell? ⟨s5, 0, none⟩ = some (.int .i64 0) := H9.cell 1 rfl 0
      have t1 : w9.cell? ⟨s5, 1, none⟩ = some (.int .i64 0) := H9.cell 1 rfl 1
      have t2 : w9.cell? ⟨s5, 2, none⟩ = some (.int .u8 0) := H9.cell 1 rfl 2
      have t3 : w9.cell? ⟨s6, 0, none⟩ = some (.int .i64 0) := H9.cell 0 rfl 0
      have t4 : w9.cell? ⟨s6, 1, none⟩ = some (.int .i64 0) := H9.cell 0 rfl 1
      have t5 : w9.cell? ⟨s6, 2, none⟩ = some (.int .u8 0) := H9.cell 0 rfl 2
      have he := equal_ok (HO.out _ _ (H9.pick 4 [])) (HB.out _ _ (H9.pick 5 []))
      rw [beq_self_eq_true] at he
      go_wp2_with fail
      refine he.mono ?_
      rintro _ _ ⟨rfl, rfl⟩
      go_wp2_with fail
      refine (wakes_ok H9).mono ?_
      rintro _ w10 ⟨rfl, H10⟩
      go_wp2_with fail
      go_ret
      exact ⟨rfl, H10.pick 5 []⟩
    · clear hat
      go_wp2_with fail
      have H5 := (H4.newBk [.int .i64 ((0 : Nat) : Int), .int .i64 ((0 : Nat) : Int), .int .u8 0] 25).newBk [.int .i64 0, .int .i64 0, .int .u8 0] 38
      have es : (w4.alloc (.cells #[.int .i64 ((0 : Nat) : Int), .int .i64 ((0 : Nat) : Int), .int .u8 0] 25)).heap.size = w4.heap.size + 1 := Array.size_push _
      rw [es] at H5
      clear es
      generalize w4.heap.size + 1 = s6 at H5 ⊢
      generalize w4.heap.size = s5 at H5 ⊢
      generalize (w4.alloc _).alloc _ = w5 at H5 ⊢
      refine (same_ok V2 V3 X.length c2 c3 X H5 rfl (by omega) (fun _ _ H => H.stAt 3 rfl) (fun _ _ H => H.stAt 2 rfl)).mono ?_
      rintro _ w9 ⟨rfl, H9⟩
      have t0 : w9.cell? ⟨s5, 0, none⟩ = some (.int .i64 0) := H9.cell 1 rfl 0
      have t1 : w9.cell? ⟨s5, 1, none⟩ = some (.int .i64 0) := H9.cell 1 rfl 1
      have t2 : w9.cell? ⟨s5, 2, none⟩ = some (.int .u8 0) := H9.cell 1 rfl 2
      have t3 : w9.cell? ⟨s6, 0, none⟩ = some (.int .i64 0) := H9.cell 0 rfl 0
      have t4 : w9.cell? ⟨s6, 1, none⟩ = some (.int .i64 0) := H9.cell 0 rfl 1
      have t5 : w9.cell? ⟨s6, 2, none⟩ = some (.int .u8 0) := H9.cell 0 rfl 2
      have he := equal_ok (HO.out _ _ (H9.pick 4 [])) (HB.out _ _ (H9.pick 5 []))
      rw [beq_self_eq_true] at he
      go_wp2_with fail
      refine he.mono ?_
      rintro _ _ ⟨rfl, rfl⟩
      go_wp2_with fail
      refine (wakes_ok H9).mono ?_
      rintro _ w10 ⟨rfl, H10⟩
      go_wp2_with fail
      go_ret
      exact ⟨rfl, H10.pick 5 []⟩
end Go.Proofs.Ytdlbhoedmaifpaa
