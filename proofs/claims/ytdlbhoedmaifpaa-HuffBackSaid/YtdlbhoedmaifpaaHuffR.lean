/- HuffR: the chapter's rows: tells. -/
import Derived.Test.YtdlbhoedmaifpaaHuffQ
import Derived.Test.YtdlbhoedmaifpaaHuffG
namespace Go.Proofs.Ytdlbhoedmaifpaa
open Go.RowKit
/-- A block of numbers, as a slice reads it. -/
theorem rd_ints {w : World} {g : Nat} {t : TypeId} {cs : List Value} (l : List Int) (h : Blk w g t cs) (e : cs = cells64 l) : Rd w (some ⟨g, 0, none⟩) (cells64 l) := by
  rw [← e]; exact Rd.of_blk h
/-- A row of numbers that is owned, read. -/
theorem rowN_rd {M : List Pr} {V : Option Addr} {n kk : Nat} {l : List Nat} (j : Nat) (hj : M[j]? = some (Row 3 1 (.slice V n kk) n (cellsN l))) : Ent M fun w => Rd w V (cells64 (castN l)) := fun _ _ H => by
  obtain ⟨A9, c9, e9, hr9, _, _⟩ := H.row_rd j hj
  injection e9 with e9
  have e : cells64 (castN l) = cellsN l := by unfold cells64 castN cellsN; rw [List.map_map]; rfl
  rw [e9, e]; exact hr9
set_option maxRecDepth 100000 in
set_option maxHeartbeats 8000000 in
theorem tells_ok {w0 w : World} {L : List Pr} (H : Sp w0 L w) :
    Calls Try.prog 31 #[] w fun e w' => e = .returned (.bool true) ∧ Sp w0 L w' := by
  have e15 : PL.lens [1, 1, 2, 4] 15 = [3, 3, 2, 1] := by decide +kernel
  have e2 : PL.lens [1, 1, 2, 4] 2 = [2, 2, 2, 2] := by decide +kernel
  have ec : rowU (PH.codeAt [2, 1, 3, 3]) 4 = [.int .u32 2, .int .u32 0, .int .u32 6, .int .u32 7] := by rfl
  have H1 := H.newBk [.int .i64 1, .int .i64 1, .int .i64 2, .int .i64 4] 3
  have c1 := lengths_ok (some ⟨w.heap.size, 0, none⟩) 4 4 [1, 1, 2, 4] 15 H1 rfl (fun _ _ H => rd_ints (castN [1, 1, 2, 4]) (H.blk 0 rfl) rfl) (by omega) (by omega) (by omega) (by decide) (by decide)
  rw [e15] at c1
  have C1 := Lib.hid c1
  have E2 := Lib.hid e2
  have EC := Lib.hid ec
  clear c1 e15 e2 ec
  go_enter Try.func31, Try.ntmps31
  go_wp2_with fail
  refine C1.out.mono ?_
  rintro _ w2 ⟨v1, rfl, H2⟩
  clear C1 H1
  replace H2 : Sp w0 (Row 3 1 v1 4 (cellsN [3, 3, 2, 1]) :: L) w2 := H2.pick 2 [0]
  have H3 := H2.newBk [.int .i64 1, .int .i64 1, .int .i64 2, .int .i64 4] 3
  have c1 := lengths_ok (some ⟨w2.heap.size, 0, none⟩) 4 4 [1, 1, 2, 4] 2 H3 rfl (fun _ _ H => rd_ints (castN [1, 1, 2, 4]) (H.blk 0 rfl) rfl) (by omega) (by omega) (by omega) (by decide) (by decide)
  rw [E2.out] at c1
  have C1 := Lib.hid c1
  clear c1 E2
  go_wp2_with fail
  refine C1.out.mono ?_
  rintro _ w4 ⟨v2, rfl, H4⟩
  clear C1 H3
  replace H4 : Sp w0 (Row 3 1 v2 4 (cellsN [2, 2, 2, 2]) :: Row 3 1 v1 4 (cellsN [3, 3, 2, 1]) :: L) w4 := H4.pick 2 [0]
  have H5 := H4.newBk [.int .i64 2, .int .i64 1, .int .i64 3, .int .i64 3] 3
  have c1 := codes_ok (some ⟨w4.heap.size, 0, none⟩) 4 4 [2, 1, 3, 3] H5 rfl (fun _ _ H => rd_ints (castI [2, 1, 3, 3]) (H.blk 0 rfl) rfl) (by omega) (by decide) (by decide)
  rw [EC.out] at c1
  have C1 := Lib.hid c1
  clear c1 EC
  go_wp2_with fail
  refine C1.out.mono ?_
  rintro _ w6 ⟨v3, rfl, H6⟩
  clear C1 H5
  replace H6 : Sp w0 (Row 70 1 v3 4 [.int .u32 2, .int .u32 0, .int .u32 6, .int .u32 7] :: Row 3 1 v2 4 (cellsN [2, 2, 2, 2]) :: Row 3 1 v1 4 (cellsN [3, 3, 2, 1]) :: L) w6 := H6.pick 2 [0]
  obtain ⟨A1, k1, hv1, _, _⟩ := Row.form H6 2 rfl
  obtain ⟨A2, k2, hv2, _, _⟩ := Row.form H6 1 rfl
  obtain ⟨A3, k3, hv3, hr3, _, _⟩ := H6.row_rd 0 rfl
  subst hv1 hv2 hv3
  obtain ⟨a3, ha3, _⟩ := hr3 (by simp)
  subst ha3
  clear hr3
  have H7 := H6.newBk [.int .i64 3, .int .i64 3, .int .i64 2, .int .i64 1] 3
  have c1 := ints_ok A1 (some ⟨w6.heap.size, 0, none⟩) 4 k1 4 4 (castN [3, 3, 2, 1]) [3, 3, 2, 1] H7 rfl rfl (rowN_rd 3 rfl) (fun _ _ H => rd_ints [3, 3, 2, 1] (H.blk 0 rfl) rfl) (by omega)
  rw [show decide (castN [3, 3, 2, 1] = [3, 3, 2, 1]) = true by decide] at c1
  have C1 := Lib.hid c1
  clear c1 H4 H2
  go_wp2_with fail
  refine C1.out.mono ?_
  rintro _ w8 ⟨rfl, H8⟩
  clear C1 H7
  replace H8 : Sp w0 (Row 70 1 (.slice (some a3) 4 k3) 4 [.int .u32 2, .int .u32 0, .int .u32 6, .int .u32 7] :: Row 3 1 (.slice A2 4 k2) 4 (cellsN [2, 2, 2, 2]) :: L) w8 := H8.pick 4 [1, 2]
  have H9 := H8.newBk [.int .i64 2, .int .i64 2, .int .i64 2, .int .i64 2] 3
  have c1 := ints_ok A2 (some ⟨w8.heap.size, 0, none⟩) 4 k2 4 4 (castN [2, 2, 2, 2]) [2, 2, 2, 2] H9 rfl rfl (rowN_rd 2 rfl) (fun _ _ H => rd_ints [2, 2, 2, 2] (H.blk 0 rfl) rfl) (by omega)
  rw [show decide (castN [2, 2, 2, 2] = [2, 2, 2, 2]) = true by decide] at c1
  have C1 := Lib.hid c1
  clear c1
  go_wp2_with fail
  refine C1.out.mono ?_
  rintro _ w10 ⟨rfl, H10⟩
  clear C1 H9
  obtain ⟨A9, c9, e9, hr9, _, _⟩ := H10.row_rd 1 rfl
  injection e9 with e9 e10 e11
  obtain ⟨a9, ha9, hc9⟩ := hr9 (by simp)
  rw [← e9] at ha9
  injection ha9 with ha9
  subst ha9
  have d0 : w10.cell? a3 = some (.int .u32 2) := hc9 0 _ rfl
  have d1 : w10.cell? ⟨a3.block, a3.off + 1, none⟩ = some (.int .u32 0) := hc9 1 _ rfl
  have d2 : w10.cell? ⟨a3.block, a3.off + 2, none⟩ = some (.int .u32 6) := hc9 2 _ rfl
  have d3 : w10.cell? ⟨a3.block, a3.off + 3, none⟩ = some (.int .u32 7) := hc9 3 _ rfl
  clear hr9 hc9 e9 e10 e11 H8 H6
  go_wp2_with fail
  go_ret
  exact ⟨rfl, H10.pick 3 []⟩
end Go.Proofs.Ytdlbhoedmaifpaa
