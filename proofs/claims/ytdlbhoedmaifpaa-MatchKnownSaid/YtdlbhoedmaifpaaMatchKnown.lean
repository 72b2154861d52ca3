/- MatchKnown: the walk of the closed statement. -/
import Derived.Test.YtdlbhoedmaifpaaMatchY
import Derived.Test.YtdlbhoedmaifpaaBytesRep
namespace Go.Proofs.Ytdlbhoedmaifpaa
open Go.RowKit Go.MapKept
def stIC (s : StI) : List Value := [.int .i64 s.1, .int .i64 s.2.1, .int .u8 (s.2.2.toNat : Int)]
/-- A block of steps. -/
theorem sti_blk {w : World} {g : Nat} {t : TypeId} (X : List StI) (h : Blk w g t (X.flatMap stIC)) : StI_ w (some ⟨g, 0, none⟩) X := fun i hi => by
  have key : ∀ (X : List StI) (i : Nat) (h : i < X.length), (X.flatMap stIC)[i * 3]? = some (.int .i64 X[i].1) ∧ (X.flatMap stIC)[i * 3 + 1]? = some (.int .i64 X[i].2.1) ∧ (X.flatMap stIC)[i * 3 + 2]? = some (.int .u8 (X[i].2.2.toNat : Int)) := by
    intro X
    induction X with
    | nil => intro i h; exact absurd h (Nat.not_lt_zero _)
    | cons x X ih =>
      intro i h
      have e : (x :: X).flatMap stIC = stIC x ++ X.flatMap stIC := rfl
      rw [e]
      cases i with
      | zero => exact ⟨rfl, rfl, rfl⟩
      | succ i =>
        have h3 : (stIC x).length = 3 := rfl
        have := ih i (by simpa using h)
        rw [List.getElem?_append_right (by rw [h3]; omega), List.getElem?_append_right (by rw [h3]; omega), List.getElem?_append_right (by rw [h3]; omega), h3, show (i + 1) * 3 - 3 = i * 3 by omega, show (i + 1) * 3 + 1 - 3 = i * 3 + 1 by omega, show (i + 1) * 3 + 2 - 3 = i * 3 + 2 by omega]
        simpa using this
  obtain ⟨k1, k2, k3⟩ := key X i hi
  have ea : ∀ j, (⟨g, 0, none⟩ : Addr).add j = ⟨g, j, none⟩ := fun j => by
    unfold Addr.add; split
    · rename_i h0; subst h0; rfl
    · simp
  refine ⟨_, rfl, ?_, ?_, ?_⟩
  · rw [ea, h.cell]; exact k1
  · rw [ea]; show w.cell? ⟨g, i * 3 + 1, none⟩ = _; rw [h.cell]; exact k2
  · rw [ea]; show w.cell? ⟨g, i * 3 + 2, none⟩ = _; rw [h.cell]; exact k3
set_option maxRecDepth 100000 in
set_option maxHeartbeats 4000000 in
theorem known_any {w0 w : World} {L : List Pr} (H : Sp w0 L w) :
    Calls Try.prog 7 #[] w fun e w' => e = .returned (.bool true) ∧ Sp w0 L w' := by
  have H1 := H.newBk [.int .i64 0, .int .i64 0, .int .u8 120] 25
  go_enter Try.func7, Try.ntmps7
  go_wp2_with fail
  generalize w.heap.size = s1 at H1 ⊢
  generalize w.alloc _ = w1 at H1 ⊢
  go_loopw [36] (fun iv wr => ∃ i : Nat, iv = .int .i64 (i : Int) ∧ i ≤ 8 ∧ Sp w0 (Bk s1 25 [.int .i64 0, .int .i64 0, .int .u8 120] :: L) wr) (fun iv _ => 8 - (intOf iv).toNat)
  case atStart => exact ⟨0, rfl, by omega, H1⟩
  case round =>
    obtain ⟨i, rfl, hi, H2⟩ := hrel
    have t0 : ∀ o, (wr.alloc o).cell? ⟨s1, 0, none⟩ = some (.int .i64 0) := fun o => (H2.alloc o).cell 0 rfl 0
    have t1 : ∀ o, (wr.alloc o).cell? ⟨s1, 1, none⟩ = some (.int .i64 0) := fun o => (H2.alloc o).cell 0 rfl 1
    have t2 : ∀ o, (wr.alloc o).cell? ⟨s1, 2, none⟩ = some (.int .u8 120) := fun o => (H2.alloc o).cell 0 rfl 2
    have y0 : wr.cell? ⟨s1, 0, none⟩ = some (.int .i64 0) := H2.cell 0 rfl 0
    have y1 : wr.cell? ⟨s1, 1, none⟩ = some (.int .i64 0) := H2.cell 0 rfl 1
    have y2 : wr.cell? ⟨s1, 2, none⟩ = some (.int .u8 120) := H2.cell 0 rfl 2
    have hcase : i = 0 ∨ i = 1 ∨ i = 2 ∨ i = 3 ∨ i = 4 ∨ i = 5 ∨ i = 6 ∨ i = 7 ∨ i = 8 := by omega
    rcases hcase with rfl | rfl | rfl | rfl | rfl | rfl | rfl | rfl | rfl
    · clear y0 y1 y2
      have hix : ∀ W : World, (Instr.index 51 (.agg #[.int .i64 2, .int .i64 1, .int .u8 0, .int .i64 259, .int .i64 1, .int .u8 0, .int .i64 3, .int .i64 0, .int .u8 0, .int .i64 3, .int .i64 2, .int .u8 0, .int .i64 0, .int .i64 1, .int .u8 0, .int .i64 3, .int .i64 1, .int .u8 1, .int .i64 (-1), .int .i64 0, .int .u8 0, .int .i64 3, .int .i64 (-1), .int .u8 0]) (.int .i64 0)).run Try.prog W = .ok (.agg #[.int .i64 2, .int .i64 1, .int .u8 0]) W := fun W => by
        simp [Instr.index, run_underlying Try.underlying51, asIntOf, part, Result.andThen, Try.isAgg25, Try.sizeOf25]
      have es : (wr.alloc (.cells #[.int .i64 2, .int .i64 1, .int .u8 0] 25)).heap.size = wr.heap.size + 1 := Array.size_push _
      have H3 := (H2.newBk [.int .i64 2, .int .i64 1, .int .u8 0] 25).newBk [.int .i64 0, .int .i64 0, .int .u8 120, .int .i64 2, .int .i64 1, .int .u8 0] 25
      rw [es] at H3
      go_wp2_with fail
      generalize wr.heap.size + 1 = g3 at H3 ⊢
      generalize wr.heap.size = s3 at H3 ⊢
      generalize (wr.alloc _).alloc _ = w3 at H3 ⊢
      clear es t0 t1 t2
      refine (expand_bad (some ⟨g3, 0, none⟩) 2 2 [(0, 0, 120), (2, 1, 0)] 1000 H3 rfl (by omega) (fun _ _ H => sti_blk [(0, 0, 120), (2, 1, 0)] (H.blk 0 rfl)) (.inr (by decide +kernel))).mono ?_
      rintro _ w4 ⟨rfl, H4⟩
      have t0 : w4.cell? ⟨s1, 0, none⟩ = some (.int .i64 0) := H4.cell 2 rfl 0
      have t1 : w4.cell? ⟨s1, 1, none⟩ = some (.int .i64 0) := H4.cell 2 rfl 1
      have t2 : w4.cell? ⟨s1, 2, none⟩ = some (.int .u8 120) := H4.cell 2 rfl 2
      have y0 : w4.cell? ⟨s3, 0, none⟩ = some (.int .i64 2) := H4.cell 1 rfl 0
      have y1 : w4.cell? ⟨s3, 1, none⟩ = some (.int .i64 1) := H4.cell 1 rfl 1
      have y2 : w4.cell? ⟨s3, 2, none⟩ = some (.int .u8 0) := H4.cell 1 rfl 2
      have H5 := H4.newBk [.int .i64 0, .int .i64 0, .int .u8 120, .int .i64 2, .int .i64 1, .int .u8 0] 25
      go_wp2_with fail
      generalize w4.heap.size = g4 at H5 ⊢
      generalize w4.alloc _ = w5 at H5 ⊢
      have hmy := may_ok (some ⟨g4, 0, none⟩) 2 2 [(0, 0, 120), (2, 1, 0)] H5 rfl (by omega) (fun _ _ H => sti_blk [(0, 0, 120), (2, 1, 0)] (H.blk 0 rfl))
      rw [show mayI [(0, 0, 120), (2, 1, 0)] 0 = false by decide +kernel] at hmy
      refine hmy.mono ?_
      rintro _ w6 ⟨rfl, H6⟩
      go_wp2_with fail
      go_roundw
      case rel => exact ⟨1, by first | rfl | go_num, by omega, H6.pick 4 [3]⟩
      case measure => first | (simp [intOf]; omega) | simp [intOf]
    · clear y0 y1 y2
      have hix : ∀ W : World, (Instr.index 51 (.agg #[.int .i64 2, .int .i64 1, .int .u8 0, .int .i64 259, .int .i64 1, .int .u8 0, .int .i64 3, .int .i64 0, .int .u8 0, .int .i64 3, .int .i64 2, .int .u8 0, .int .i64 0, .int .i64 1, .int .u8 0, .int .i64 3, .int .i64 1, .int .u8 1, .int .i64 (-1), .int .i64 0, .int .u8 0, .int .i64 3, .int .i64 (-1), .int .u8 0]) (.int .i64 1)).run Try.prog W = .ok (.agg #[.int .i64 259, .int .i64 1, .int .u8 0]) W := fun W => by
        simp [Instr.index, run_underlying Try.underlying51, asIntOf, part, Result.andThen, Try.isAgg25, Try.sizeOf25]
      have es : (wr.alloc (.cells #[.int .i64 259, .int .i64 1, .int .u8 0] 25)).heap.size = wr.heap.size + 1 := Array.size_push _
      have H3 := (H2.newBk [.int .i64 259, .int .i64 1, .int .u8 0] 25).newBk [.int .i64 0, .int .i64 0, .int .u8 120, .int .i64 259, .int .i64 1, .int .u8 0] 25
      rw [es] at H3
      go_wp2_with fail
      generalize wr.heap.size + 1 = g3 at H3 ⊢
      generalize wr.heap.size = s3 at H3 ⊢
      generalize (wr.alloc _).alloc _ = w3 at H3 ⊢
      clear es t0 t1 t2
      refine (expand_bad (some ⟨g3, 0, none⟩) 2 2 [(0, 0, 120), (259, 1, 0)] 1000 H3 rfl (by omega) (fun _ _ H => sti_blk [(0, 0, 120), (259, 1, 0)] (H.blk 0 rfl)) (.inr (by decide +kernel))).mono ?_
      rintro _ w4 ⟨rfl, H4⟩
      have t0 : w4.cell? ⟨s1, 0, none⟩ = some (.int .i64 0) := H4.cell 2 rfl 0
      have t1 : w4.cell? ⟨s1, 1, none⟩ = some (.int .i64 0) := H4.cell 2 rfl 1
      have t2 : w4.cell? ⟨s1, 2, none⟩ = some (.int .u8 120) := H4.cell 2 rfl 2
      have y0 : w4.cell? ⟨s3, 0, none⟩ = some (.int .i64 259) := H4.cell 1 rfl 0
      have y1 : w4.cell? ⟨s3, 1, none⟩ = some (.int .i64 1) := H4.cell 1 rfl 1
      have y2 : w4.cell? ⟨s3, 2, none⟩ = some (.int .u8 0) := H4.cell 1 rfl 2
      have H5 := H4.newBk [.int .i64 0, .int .i64 0, .int .u8 120, .int .i64 259, .int .i64 1, .int .u8 0] 25
      go_wp2_with fail
      generalize w4.heap.size = g4 at H5 ⊢
      generalize w4.alloc _ = w5 at H5 ⊢
      have hmy := may_ok (some ⟨g4, 0, none⟩) 2 2 [(0, 0, 120), (259, 1, 0)] H5 rfl (by omega) (fun _ _ H => sti_blk [(0, 0, 120), (259, 1, 0)] (H.blk 0 rfl))
      rw [show mayI [(0, 0, 120), (259, 1, 0)] 0 = false by decide +kernel] at hmy
      refine hmy.mono ?_
      rintro _ w6 ⟨rfl, H6⟩
      go_wp2_with fail
      go_roundw
      case rel => exact ⟨2, by first | rfl | go_num, by omega, H6.pick 4 [3]⟩
      case measure => first | (simp [intOf]; omega) | simp [intOf]
    · clear y0 y1 y2
      have hix : ∀ W : World, (Instr.index 51 (.agg #[.int .i64 2, .int .i64 1, .int .u8 0, .int .i64 259, .int .i64 1, .int .u8 0, .int .i64 3, .int .i64 0, .int .u8 0, .int .i64 3, .int .i64 2, .int .u8 0, .int .i64 0, .int .i64 1, .int .u8 0, .int .i64 3, .int .i64 1, .int .u8 1, .int .i64 (-1), .int .i64 0, .int .u8 0, .int .i64 3, .int .i64 (-1), .int .u8 0]) (.int .i64 2)).run Try.prog W = .ok (.agg #[.int .i64 3, .int .i64 0, .int .u8 0]) W := fun W => by
        simp [Instr.index, run_underlying Try.underlying51, asIntOf, part, Result.andThen, Try.isAgg25, Try.sizeOf25]
      have es : (wr.alloc (.cells #[.int .i64 3, .int .i64 0, .int .u8 0] 25)).heap.size = wr.heap.size + 1 := Array.size_push _
      have H3 := (H2.newBk [.int .i64 3, .int .i64 0, .int .u8 0] 25).newBk [.int .i64 0, .int .i64 0, .int .u8 120, .int .i64 3, .int .i64 0, .int .u8 0] 25
      rw [es] at H3
      go_wp2_with fail
      generalize wr.heap.size + 1 = g3 at H3 ⊢
      generalize wr.heap.size = s3 at H3 ⊢
      generalize (wr.alloc _).alloc _ = w3 at H3 ⊢
      clear es t0 t1 t2
      refine (expand_bad (some ⟨g3, 0, none⟩) 2 2 [(0, 0, 120), (3, 0, 0)] 1000 H3 rfl (by omega) (fun _ _ H => sti_blk [(0, 0, 120), (3, 0, 0)] (H.blk 0 rfl)) (.inr (by decide +kernel))).mono ?_
      rintro _ w4 ⟨rfl, H4⟩
      have t0 : w4.cell? ⟨s1, 0, none⟩ = some (.int .i64 0) := H4.cell 2 rfl 0
      have t1 : w4.cell? ⟨s1, 1, none⟩ = some (.int .i64 0) := H4.cell 2 rfl 1
      have t2 : w4.cell? ⟨s1, 2, none⟩ = some (.int .u8 120) := H4.cell 2 rfl 2
      have y0 : w4.cell? ⟨s3, 0, none⟩ = some (.int .i64 3) := H4.cell 1 rfl 0
      have y1 : w4.cell? ⟨s3, 1, none⟩ = some (.int .i64 0) := H4.cell 1 rfl 1
      have y2 : w4.cell? ⟨s3, 2, none⟩ = some (.int .u8 0) := H4.cell 1 rfl 2
      have H5 := H4.newBk [.int .i64 0, .int .i64 0, .int .u8 120, .int .i64 3, .int .i64 0, .int .u8 0] 25
      go_wp2_with fail
      generalize w4.heap.size = g4 at H5 ⊢
      generalize w4.alloc _ = w5 at H5 ⊢
      have hmy := may_ok (some ⟨g4, 0, none⟩) 2 2 [(0, 0, 120), (3, 0, 0)] H5 rfl (by omega) (fun _ _ H => sti_blk [(0, 0, 120), (3, 0, 0)] (H.blk 0 rfl))
      rw [show mayI [(0, 0, 120), (3, 0, 0)] 0 = false by decide +kernel] at hmy
      refine hmy.mono ?_
      rintro _ w6 ⟨rfl, H6⟩
      go_wp2_with fail
      go_roundw
      case rel => exact ⟨3, by first | rfl | go_num, by omega, H6.pick 4 [3]⟩
      case measure => first | (simp [intOf]; omega) | simp [intOf]
    · clear y0 y1 y2
      have hix : ∀ W : World, (Instr.index 51 (.agg #[.int .i64 2, .int .i64 1, .int .u8 0, .int .i64 259, .int .i64 1, .int .u8 0, .int .i64 3, .int .i64 0, .int .u8 0, .int .i64 3, .int .i64 2, .int .u8 0, .int .i64 0, .int .i64 1, .int .u8 0, .int .i64 3, .int .i64 1, .int .u8 1, .int .i64 (-1), .int .i64 0, .int .u8 0, .int .i64 3, .int .i64 (-1), .int .u8 0]) (.int .i64 3)).run Try.prog W = .ok (.agg #[.int .i64 3, .int .i64 2, .int .u8 0]) W := fun W => by
        simp [Instr.index, run_underlying Try.underlying51, asIntOf, part, Result.andThen, Try.isAgg25, Try.sizeOf25]
      have es : (wr.alloc (.cells #[.int .i64 3, .int .i64 2, .int .u8 0] 25)).heap.size = wr.heap.size + 1 := Array.size_push _
      have H3 := (H2.newBk [.int .i64 3, .int .i64 2, .int .u8 0] 25).newBk [.int .i64 0, .int .i64 0, .int .u8 120, .int .i64 3, .int .i64 2, .int .u8 0] 25
      rw [es] at H3
      go_wp2_with fail
      generalize wr.heap.size + 1 = g3 at H3 ⊢
      generalize wr.heap.size = s3 at H3 ⊢
      generalize (wr.alloc _).alloc _ = w3 at H3 ⊢
      clear es t0 t1 t2
      refine (expand_bad (some ⟨g3, 0, none⟩) 2 2 [(0, 0, 120), (3, 2, 0)] 1000 H3 rfl (by omega) (fun _ _ H => sti_blk [(0, 0, 120), (3, 2, 0)] (H.blk 0 rfl)) (.inr (by decide +kernel))).mono ?_
      rintro _ w4 ⟨rfl, H4⟩
      have t0 : w4.cell? ⟨s1, 0, none⟩ = some (.int .i64 0) := H4.cell 2 rfl 0
      have t1 : w4.cell? ⟨s1, 1, none⟩ = some (.int .i64 0) := H4.cell 2 rfl 1
      have t2 : w4.cell? ⟨s1, 2, none⟩ = some (.int .u8 120) := H4.cell 2 rfl 2
      have y0 : w4.cell? ⟨s3, 0, none⟩ = some (.int .i64 3) := H4.cell 1 rfl 0
      have y1 : w4.cell? ⟨s3, 1, none⟩ = some (.int .i64 2) := H4.cell 1 rfl 1
      have y2 : w4.cell? ⟨s3, 2, none⟩ = some (.int .u8 0) := H4.cell 1 rfl 2
      have H5 := H4.newBk [.int .i64 0, .int .i64 0, .int .u8 120, .int .i64 3, .int .i64 2, .int .u8 0] 25
      go_wp2_with fail
      generalize w4.heap.size = g4 at H5 ⊢
      generalize w4.alloc _ = w5 at H5 ⊢
      have hmy := may_ok (some ⟨g4, 0, none⟩) 2 2 [(0, 0, 120), (3, 2, 0)] H5 rfl (by omega) (fun _ _ H => sti_blk [(0, 0, 120), (3, 2, 0)] (H.blk 0 rfl))
      rw [show mayI [(0, 0, 120), (3, 2, 0)] 0 = false by decide +kernel] at hmy
      refine hmy.mono ?_
      rintro _ w6 ⟨rfl, H6⟩
      go_wp2_with fail
      go_roundw
      case rel => exact ⟨4, by first | rfl | go_num, by omega, H6.pick 4 [3]⟩
      case measure => first | (simp [intOf]; omega) | simp [intOf]
    · clear y0 y1 y2
      have hix : ∀ W : World, (Instr.index 51 (.agg #[.int .i64 2, .int .i64 1, .int .u8 0, .int .i64 259, .int .i64 1, .int .u8 0, .int .i64 3, .int .i64 0, .int .u8 0, .int .i64 3, .int .i64 2, .int .u8 0, .int .i64 0, .int .i64 1, .int .u8 0, .int .i64 3, .int .i64 1, .int .u8 1, .int .i64 (-1), .int .i64 0, .int .u8 0, .int .i64 3, .int .i64 (-1), .int .u8 0]) (.int .i64 4)).run Try.prog W = .ok (.agg #[.int .i64 0, .int .i64 1, .int .u8 0]) W := fun W => by
        simp [Instr.index, run_underlying Try.underlying51, asIntOf, part, Result.andThen, Try.isAgg25, Try.sizeOf25]
      have es : (wr.alloc (.cells #[.int .i64 0, .int .i64 1, .int .u8 0] 25)).heap.size = wr.heap.size + 1 := Array.size_push _
      have H3 := (H2.newBk [.int .i64 0, .int .i64 1, .int .u8 0] 25).newBk [.int .i64 0, .int .i64 0, .int .u8 120, .int .i64 0, .int .i64 1, .int .u8 0] 25
      rw [es] at H3
      go_wp2_with fail
      generalize wr.heap.size + 1 = g3 at H3 ⊢
      generalize wr.heap.size = s3 at H3 ⊢
      generalize (wr.alloc _).alloc _ = w3 at H3 ⊢
      clear es t0 t1 t2
      refine (expand_bad (some ⟨g3, 0, none⟩) 2 2 [(0, 0, 120), (0, 1, 0)] 1000 H3 rfl (by omega) (fun _ _ H => sti_blk [(0, 0, 120), (0, 1, 0)] (H.blk 0 rfl)) (.inr (by decide +kernel))).mono ?_
      rintro _ w4 ⟨rfl, H4⟩
      have t0 : w4.cell? ⟨s1, 0, none⟩ = some (.int .i64 0) := H4.cell 2 rfl 0
      have t1 : w4.cell? ⟨s1, 1, none⟩ = some (.int .i64 0) := H4.cell 2 rfl 1
      have t2 : w4.cell? ⟨s1, 2, none⟩ = some (.int .u8 120) := H4.cell 2 rfl 2
      have y0 : w4.cell? ⟨s3, 0, none⟩ = some (.int .i64 0) := H4.cell 1 rfl 0
      have y1 : w4.cell? ⟨s3, 1, none⟩ = some (.int .i64 1) := H4.cell 1 rfl 1
      have y2 : w4.cell? ⟨s3, 2, none⟩ = some (.int .u8 0) := H4.cell 1 rfl 2
      have H5 := H4.newBk [.int .i64 0, .int .i64 0, .int .u8 120, .int .i64 0, .int .i64 1, .int .u8 0] 25
      go_wp2_with fail
      generalize w4.heap.size = g4 at H5 ⊢
      generalize w4.alloc _ = w5 at H5 ⊢
      have hmy := may_ok (some ⟨g4, 0, none⟩) 2 2 [(0, 0, 120), (0, 1, 0)] H5 rfl (by omega) (fun _ _ H => sti_blk [(0, 0, 120), (0, 1, 0)] (H.blk 0 rfl))
      rw [show mayI [(0, 0, 120), (0, 1, 0)] 0 = false by decide +kernel] at hmy
      refine hmy.mono ?_
      rintro _ w6 ⟨rfl, H6⟩
      go_wp2_with fail
      go_roundw
      case rel => exact ⟨5, by first | rfl | go_num, by omega, H6.pick 4 [3]⟩
      case measure => first | (simp [intOf]; omega) | simp [intOf]
    · clear y0 y1 y2
      have hix : ∀ W : World, (Instr.index 51 (.agg #[.int .i64 2, .int .i64 1, .int .u8 0, .int .i64 259, .int .i64 1, .int .u8 0, .int .i64 3, .int .i64 0, .int .u8 0, .int .i64 3, .int .i64 2, .int .u8 0, .int .i64 0, .int .i64 1, .int .u8 0, .int .i64 3, .int .i64 1, .int .u8 1, .int .i64 (-1), .int .i64 0, .int .u8 0, .int .i64 3, .int .i64 (-1), .int .u8 0]) (.int .i64 5)).run Try.prog W = .ok (.agg #[.int .i64 3, .int .i64 1, .int .u8 1]) W := fun W => by
        simp [Instr.index, run_underlying Try.underlying51, asIntOf, part, Result.andThen, Try.isAgg25, Try.sizeOf25]
      have es : (wr.alloc (.cells #[.int .i64 3, .int .i64 1, .int .u8 1] 25)).heap.size = wr.heap.size + 1 := Array.size_push _
      have H3 := (H2.newBk [.int .i64 3, .int .i64 1, .int .u8 1] 25).newBk [.int .i64 0, .int .i64 0, .int .u8 120, .int .i64 3, .int .i64 1, .int .u8 1] 25
      rw [es] at H3
      go_wp2_with fail
      generalize wr.heap.size + 1 = g3 at H3 ⊢
      generalize wr.heap.size = s3 at H3 ⊢
      generalize (wr.alloc _).alloc _ = w3 at H3 ⊢
      clear es t0 t1 t2
      refine (expand_bad (some ⟨g3, 0, none⟩) 2 2 [(0, 0, 120), (3, 1, 1)] 1000 H3 rfl (by omega) (fun _ _ H => sti_blk [(0, 0, 120), (3, 1, 1)] (H.blk 0 rfl)) (.inr (by decide +kernel))).mono ?_
      rintro _ w4 ⟨rfl, H4⟩
      have t0 : w4.cell? ⟨s1, 0, none⟩ = some (.int .i64 0) := H4.cell 2 rfl 0
      have t1 : w4.cell? ⟨s1, 1, none⟩ = some (.int .i64 0) := H4.cell 2 rfl 1
      have t2 : w4.cell? ⟨s1, 2, none⟩ = some (.int .u8 120) := H4.cell 2 rfl 2
      have y0 : w4.cell? ⟨s3, 0, none⟩ = some (.int .i64 3) := H4.cell 1 rfl 0
      have y1 : w4.cell? ⟨s3, 1, none⟩ = some (.int .i64 1) := H4.cell 1 rfl 1
      have y2 : w4.cell? ⟨s3, 2, none⟩ = some (.int .u8 1) := H4.cell 1 rfl 2
      have H5 := H4.newBk [.int .i64 0, .int .i64 0, .int .u8 120, .int .i64 3, .int .i64 1, .int .u8 1] 25
      go_wp2_with fail
      generalize w4.heap.size = g4 at H5 ⊢
      generalize w4.alloc _ = w5 at H5 ⊢
      have hmy := may_ok (some ⟨g4, 0, none⟩) 2 2 [(0, 0, 120), (3, 1, 1)] H5 rfl (by omega) (fun _ _ H => sti_blk [(0, 0, 120), (3, 1, 1)] (H.blk 0 rfl))
      rw [show mayI [(0, 0, 120), (3, 1, 1)] 0 = false by decide +kernel] at hmy
      refine hmy.mono ?_
      rintro _ w6 ⟨rfl, H6⟩
      go_wp2_with fail
      go_roundw
      case rel => exact ⟨6, by first | rfl | go_num, by omega, H6.pick 4 [3]⟩
      case measure => first | (simp [intOf]; omega) | simp [intOf]
    · clear y0 y1 y2
      have hix : ∀ W : World, (Instr.index 51 (.agg #[.int .i64 2, .int .i64 1, .int .u8 0, .int .i64 259, .int .i64 1, .int .u8 0, .int .i64 3, .int .i64 0, .int .u8 0, .int .i64 3, .int .i64 2, .int .u8 0, .int .i64 0, .int .i64 1, .int .u8 0, .int .i64 3, .int .i64 1, .int .u8 1, .int .i64 (-1), .int .i64 0, .int .u8 0, .int .i64 3, .int .i64 (-1), .int .u8 0]) (.int .i64 6)).run Try.prog W = .ok (.agg #[.int .i64 (-1), .int .i64 0, .int .u8 0]) W := fun W => by
        simp [Instr.index, run_underlying Try.underlying51, asIntOf, part, Result.andThen, Try.isAgg25, Try.sizeOf25]
      have es : (wr.alloc (.cells #[.int .i64 (-1), .int .i64 0, .int .u8 0] 25)).heap.size = wr.heap.size + 1 := Array.size_push _
      have H3 := (H2.newBk [.int .i64 (-1), .int .i64 0, .int .u8 0] 25).newBk [.int .i64 0, .int .i64 0, .int .u8 120, .int .i64 (-1), .int .i64 0, .int .u8 0] 25
      rw [es] at H3
      go_wp2_with fail
      generalize wr.heap.size + 1 = g3 at H3 ⊢
      generalize wr.heap.size = s3 at H3 ⊢
      generalize (wr.alloc _).alloc _ = w3 at H3 ⊢
      clear es t0 t1 t2
      refine (expand_bad (some ⟨g3, 0, none⟩) 2 2 [(0, 0, 120), (-1, 0, 0)] 1000 H3 rfl (by omega) (fun _ _ H => sti_blk [(0, 0, 120), (-1, 0, 0)] (H.blk 0 rfl)) (.inr (by decide +kernel))).mono ?_
      rintro _ w4 ⟨rfl, H4⟩
      have t0 : w4.cell? ⟨s1, 0, none⟩ = some (.int .i64 0) := H4.cell 2 rfl 0
      have t1 : w4.cell? ⟨s1, 1, none⟩ = some (.int .i64 0) := H4.cell 2 rfl 1
      have t2 : w4.cell? ⟨s1, 2, none⟩ = some (.int .u8 120) := H4.cell 2 rfl 2
      have y0 : w4.cell? ⟨s3, 0, none⟩ = some (.int .i64 (-1)) := H4.cell 1 rfl 0
      have y1 : w4.cell? ⟨s3, 1, none⟩ = some (.int .i64 0) := H4.cell 1 rfl 1
      have y2 : w4.cell? ⟨s3, 2, none⟩ = some (.int .u8 0) := H4.cell 1 rfl 2
      have H5 := H4.newBk [.int .i64 0, .int .i64 0, .int .u8 120, .int .i64 (-1), .int .i64 0, .int .u8 0] 25
      go_wp2_with fail
      generalize w4.heap.size = g4 at H5 ⊢
      generalize w4.alloc _ = w5 at H5 ⊢
      have hmy := may_ok (some ⟨g4, 0, none⟩) 2 2 [(0, 0, 120), (-1, 0, 0)] H5 rfl (by omega) (fun _ _ H => sti_blk [(0, 0, 120), (-1, 0, 0)] (H.blk 0 rfl))
      rw [show mayI [(0, 0, 120), (-1, 0, 0)] 0 = false by decide +kernel] at hmy
      refine hmy.mono ?_
      rintro _ w6 ⟨rfl, H6⟩
      go_wp2_with fail
      go_roundw
      case rel => exact ⟨7, by first | rfl | go_num, by omega, H6.pick 4 [3]⟩
      case measure => first | (simp [intOf]; omega) | simp [intOf]
    · clear y0 y1 y2
      have hix : ∀ W : World, (Instr.index 51 (.agg #[.int .i64 2, .int .i64 1, .int .u8 0, .int .i64 259, .int .i64 1, .int .u8 0, .int .i64 3, .int .i64 0, .int .u8 0, .int .i64 3, .int .i64 2, .int .u8 0, .int .i64 0, .int .i64 1, .int .u8 0, .int .i64 3, .int .i64 1, .int .u8 1, .int .i64 (-1), .int .i64 0, .int .u8 0, .int .i64 3, .int .i64 (-1), .int .u8 0]) (.int .i64 7)).run Try.prog W = .ok (.agg #[.int .i64 3, .int .i64 (-1), .int .u8 0]) W := fun W => by
        simp [Instr.index, run_underlying Try.underlying51, asIntOf, part, Result.andThen, Try.isAgg25, Try.sizeOf25]
      have es : (wr.alloc (.cells #[.int .i64 3, .int .i64 (-1), .int .u8 0] 25)).heap.size = wr.heap.size + 1 := Array.size_push _
      have H3 := (H2.newBk [.int .i64 3, .int .i64 (-1), .int .u8 0] 25).newBk [.int .i64 0, .int .i64 0, .int .u8 120, .int .i64 3, .int .i64 (-1), .int .u8 0] 25
      rw [es] at H3
      go_wp2_with fail
      generalize wr.heap.size + 1 = g3 at H3 ⊢
      generalize wr.heap.size = s3 at H3 ⊢
      generalize (wr.alloc _).alloc _ = w3 at H3 ⊢
      clear es t0 t1 t2
      refine (expand_bad (some ⟨g3, 0, none⟩) 2 2 [(0, 0, 120), (3, -1, 0)] 1000 H3 rfl (by omega) (fun _ _ H => sti_blk [(0, 0, 120), (3, -1, 0)] (H.blk 0 rfl)) (.inr (by decide +kernel))).mono ?_
      rintro _ w4 ⟨rfl, H4⟩
      have t0 : w4.cell? ⟨s1, 0, none⟩ = some (.int .i64 0) := H4.cell 2 rfl 0
      have t1 : w4.cell? ⟨s1, 1, none⟩ = some (.int .i64 0) := H4.cell 2 rfl 1
      have t2 : w4.cell? ⟨s1, 2, none⟩ = some (.int .u8 120) := H4.cell 2 rfl 2
      have y0 : w4.cell? ⟨s3, 0, none⟩ = some (.int .i64 3) := H4.cell 1 rfl 0
      have y1 : w4.cell? ⟨s3, 1, none⟩ = some (.int .i64 (-1)) := H4.cell 1 rfl 1
      have y2 : w4.cell? ⟨s3, 2, none⟩ = some (.int .u8 0) := H4.cell 1 rfl 2
      have H5 := H4.newBk [.int .i64 0, .int .i64 0, .int .u8 120, .int .i64 3, .int .i64 (-1), .int .u8 0] 25
      go_wp2_with fail
      generalize w4.heap.size = g4 at H5 ⊢
      generalize w4.alloc _ = w5 at H5 ⊢
      have hmy := may_ok (some ⟨g4, 0, none⟩) 2 2 [(0, 0, 120), (3, -1, 0)] H5 rfl (by omega) (fun _ _ H => sti_blk [(0, 0, 120), (3, -1, 0)] (H.blk 0 rfl))
      rw [show mayI [(0, 0, 120), (3, -1, 0)] 0 = false by decide +kernel] at hmy
      refine hmy.mono ?_
      rintro _ w6 ⟨rfl, H6⟩
      go_wp2_with fail
      go_roundw
      case rel => exact ⟨8, by first | rfl | go_num, by omega, H6.pick 4 [3]⟩
      case measure => first | (simp [intOf]; omega) | simp [intOf]
    · clear t0 t1 t2
      have H3 := H2.newBk [.int .i64 0, .int .i64 0, .int .u8 120, .int .i64 258, .int .i64 1, .int .u8 0] 25
      go_wp2_with fail
      generalize wr.heap.size = g3 at H3 ⊢
      generalize wr.alloc _ = w3 at H3 ⊢
      clear y0 y1 y2
      have hex := expand_ok (some ⟨g3, 0, none⟩) 2 2 [(0, 0, 120), (258, 1, 0)] 259 H3 rfl (by omega) (fun _ _ H => StAt.of_rd (Rd.of_blk (cs := stsV [(0, 0, 120), (258, 1, 0)]) (H.blk 0 rfl))) ⟨.inl ⟨rfl, rfl⟩, .inr ⟨by decide, by decide, by decide, by decide, by decide, rfl⟩, trivial⟩ (by decide) (by decide)
      rw [show PM.expand [(0, 0, 120), (258, 1, 0)] [] = List.replicate 259 120 by decide +kernel] at hex
      refine hex.mono ?_
      rintro _ w4 ⟨va, rfl, H4⟩
      clear hex H3
      rw [List.length_replicate] at H4
      obtain ⟨Va, ca, rfl, _, _⟩ := Row.form H4 0 rfl
      have t0 : w4.cell? ⟨s1, 0, none⟩ = some (.int .i64 0) := H4.cell 2 rfl 0
      have t1 : w4.cell? ⟨s1, 1, none⟩ = some (.int .i64 0) := H4.cell 2 rfl 1
      have t2 : w4.cell? ⟨s1, 2, none⟩ = some (.int .u8 120) := H4.cell 2 rfl 2
      have H5 := (H4.pick 3 [0]).newBk [.int .i64 0, .int .i64 0, .int .u8 120, .int .i64 258, .int .i64 1, .int .u8 0] 25
      go_wp2_with fail
      generalize w4.heap.size = g4 at H5 ⊢
      generalize w4.alloc _ = w5 at H5 ⊢
      clear t0 t1 t2 H4
      refine (expand_cap (some ⟨g4, 0, none⟩) 2 2 [(0, 0, 120), (258, 1, 0)] 258 H5 rfl (by omega) (fun _ _ H => sti_blk [(0, 0, 120), (258, 1, 0)] (H.blk 0 rfl)) (by omega) (by decide +kernel) (by decide) (by decide)).mono ?_
      rintro _ w6 ⟨rfl, H6⟩
      replace H6 := H6.tail
      go_wp2_with fail
      refine (expand_bad none 0 0 [] (-1) H6 rfl (by omega) (fun _ _ _ => fun i hi => absurd hi (Nat.not_lt_zero _)) (.inl (by omega))).mono ?_
      rintro _ w7 ⟨rfl, H7⟩
      go_wp2_with fail
      refine (expand_ok none 0 0 [] 0 H7 rfl (by omega) (fun _ _ _ => fun i hi => absurd hi (Nat.not_lt_zero _)) trivial (by decide) (by decide)).mono ?_
      rintro _ w8 ⟨vb, rfl, H8⟩
      obtain ⟨Vb, cb, rfl, _, _⟩ := Row.form H8 0 rfl
      replace H8 := H8.tail
      have hnil : ∀ {L' : List Pr}, Ent L' fun w => Byt w (.slice none 0 0) [] := fun w0 w _ => Byt.nil w
      have c1 := Cut_ok 0 0 none 0 [] H8 rfl hnil (by omega)
      rw [show cutE 0 = 1 from rfl] at c1
      go_wp2_with fail
      refine c1.mono ?_
      rintro _ w9 ⟨vc, rfl, H9⟩
      replace H9 := H9.tail
      have c2 := Cut_ok 0 32769 none 0 [] H9 rfl hnil (by omega)
      rw [show cutE 32769 = 1 from rfl] at c2
      go_wp2_with fail
      refine c2.mono ?_
      rintro _ w10 ⟨vd, rfl, H10⟩
      replace H10 := H10.tail
      have c3 := Cut_ok 0 1 none 0 [] H10 rfl hnil (by omega)
      rw [show cutE 1 = 0 from rfl, show cutL [] 1 = [] from rfl] at c3
      go_wp2_with fail
      refine c3.mono ?_
      rintro _ w11 ⟨ve, rfl, H11⟩
      obtain ⟨Ve, ce, rfl, _, _⟩ := Row.form H11 0 rfl
      replace H11 := H11.tail
      clear c1 c2 c3
      have hb0 : bestL [97, 97, 97, 97] 4 1 = (0, 0) := by decide +kernel
      have hb1 : bestL [97, 97, 97, 97] 1 0 = (0, 0) := by decide +kernel
      have hb2 : bestL [97, 97, 97, 97] 1 1 = (3, 1) := by decide +kernel
      have HB0 := Lib.hid hb0
      have HB1 := Lib.hid hb1
      have HB2 := Lib.hid hb2
      clear hb0 hb1 hb2
      obtain ⟨u12, hc, G⟩ := lit_ok (H11) [97, 97, 97, 97]
      have hv : Sem.run Try.prog (convert 22 22 (.slice (some ⟨w11.heap.size, 0, none⟩) 4 4)) ((w11).alloc (.cells #[.int .u8 97, .int .u8 97, .int .u8 97, .int .u8 97] 5)) = .ok (.slice (some ⟨w11.heap.size, 0, none⟩) 4 4) u12 := hc 4 rfl
      clear hc
      go_wp2_with fail
      clear hv
      generalize w11.heap.size = g12 at G ⊢
      have hbs := Best_ok 4 4 1 (some ⟨g12, 0, none⟩) 4 [97, 97, 97, 97] G rfl (fun _ _ H => H.lit 0 rfl (by decide)) (by omega)
      rw [HB0.out] at hbs
      refine hbs.mono ?_
      rintro _ w12 ⟨rfl, H12⟩
      unfold stV
      clear hbs
      have es : (w12.alloc (.cells #[.int .i64 0, .int .i64 0, .int .u8 0] 25)).heap.size = w12.heap.size + 1 := Array.size_push _
      obtain ⟨u13, hc, G⟩ := lit_ok (H12.newBk [.int .i64 0, .int .i64 0, .int .u8 0] 25) [97, 97, 97, 97]
      rw [es] at hc G
      have hv : Sem.run Try.prog (convert 22 22 (.slice (some ⟨w12.heap.size + 1, 0, none⟩) 4 4)) ((w12.alloc (.cells #[.int .i64 0, .int .i64 0, .int .u8 0] 25)).alloc (.cells #[.int .u8 97, .int .u8 97, .int .u8 97, .int .u8 97] 5)) = .ok (.slice (some ⟨w12.heap.size + 1, 0, none⟩) 4 4) u13 := hc 4 rfl
      clear hc
      go_wp2_with fail
      clear hv es
      generalize w12.heap.size + 1 = g13 at G ⊢
      have hbs := Best_ok 4 1 0 (some ⟨g13, 0, none⟩) 4 [97, 97, 97, 97] G rfl (fun _ _ H => H.lit 0 rfl (by decide)) (by omega)
      rw [HB1.out] at hbs
      refine hbs.mono ?_
      rintro _ w13 ⟨rfl, H13⟩
      unfold stV
      clear hbs
      have es : (w13.alloc (.cells #[.int .i64 0, .int .i64 0, .int .u8 0] 25)).heap.size = w13.heap.size + 1 := Array.size_push _
      obtain ⟨u14, hc, G⟩ := lit_ok (H13.newBk [.int .i64 0, .int .i64 0, .int .u8 0] 25) [97, 97, 97, 97]
      rw [es] at hc G
      have hv : Sem.run Try.prog (convert 22 22 (.slice (some ⟨w13.heap.size + 1, 0, none⟩) 4 4)) ((w13.alloc (.cells #[.int .i64 0, .int .i64 0, .int .u8 0] 25)).alloc (.cells #[.int .u8 97, .int .u8 97, .int .u8 97, .int .u8 97] 5)) = .ok (.slice (some ⟨w13.heap.size + 1, 0, none⟩) 4 4) u14 := hc 4 rfl
      clear hc
      go_wp2_with fail
      clear hv es
      generalize w13.heap.size + 1 = g14 at G ⊢
      have hbs := Best_ok 4 1 1 (some ⟨g14, 0, none⟩) 4 [97, 97, 97, 97] G rfl (fun _ _ H => H.lit 0 rfl (by decide)) (by omega)
      rw [HB2.out] at hbs
      refine hbs.mono ?_
      rintro _ w14 ⟨rfl, H14⟩
      unfold stV
      clear hbs
      have es : (w14.alloc (.cells #[.int .i64 3, .int .i64 1, .int .u8 0] 25)).heap.size = w14.heap.size + 1 := Array.size_push _
      obtain ⟨u15, hc, G⟩ := lit_ok (H14.newBk [.int .i64 3, .int .i64 1, .int .u8 0] 25) [120]
      rw [es] at hc G
      have hv : Sem.run Try.prog (convert 22 22 (.slice (some ⟨w14.heap.size + 1, 0, none⟩) 1 1)) ((w14.alloc (.cells #[.int .i64 3, .int .i64 1, .int .u8 0] 25)).alloc (.cells #[.int .u8 120] 5)) = .ok (.slice (some ⟨w14.heap.size + 1, 0, none⟩) 1 1) u15 := hc 1 rfl
      clear hc
      go_wp2_with fail
      clear hv es
      generalize w14.heap.size + 1 = g15 at G ⊢
      generalize w14.heap.size = s24 at G ⊢
      refine (repeat_ok (some ⟨g15, 0, none⟩) 1 120 259 G (fun _ _ H => H.lit 0 rfl (by decide)) (by omega) (by omega)).mono ?_
      rintro _ w16 ⟨g16, rfl, H16⟩
      have heq := equal_ok (H16.row_byt 8 (e := 5) (v := .slice Va 259 ca) (l := List.replicate 259 120) rfl) (RB.byt H16 (by decide))
      rw [beq_self_eq_true] at heq
      have q0 : w16.cell? ⟨s24, 0, none⟩ = some (.int .i64 3) := H16.cell 2 rfl 0
      have q1 : w16.cell? ⟨s24, 1, none⟩ = some (.int .i64 1) := H16.cell 2 rfl 1
      have q2 : w16.cell? ⟨s24, 2, none⟩ = some (.int .u8 0) := H16.cell 2 rfl 2
      go_wp2_with fail
      refine heq.mono ?_
      rintro _ _ ⟨rfl, rfl⟩
      clear heq
      have H17 := H16.newBk [.int .i64 (-5), .int .i64 0, .int .u8 0, .int .i64 7, .int .i64 0, .int .u8 0, .int .i64 0, .int .i64 0, .int .u8 0] 25
      go_wp2_with fail
      generalize w16.heap.size = g17 at H17 ⊢
      generalize w16.alloc _ = w17 at H17 ⊢
      have hsz := size_ok (some ⟨g17, 0, none⟩) 3 3 [(-5, 0, 0), (7, 0, 0), (0, 0, 0)] H17 rfl (by omega) (by decide) (fun _ _ H => sti_blk [(-5, 0, 0), (7, 0, 0), (0, 0, 0)] (H.blk 0 rfl))
      rw [show sizeI [(-5, 0, 0), (7, 0, 0), (0, 0, 0)] = 9 by decide +kernel] at hsz
      refine hsz.mono ?_
      rintro _ w18 ⟨rfl, H18⟩
      clear hsz
      go_wp2_with fail
      refine (wakes_ok H18).mono ?_
      rintro _ w19 ⟨rfl, H19⟩
      go_wp2_with fail
      go_ret
      exact ⟨rfl, H19.pick 10 []⟩
end Go.Proofs.Ytdlbhoedmaifpaa
