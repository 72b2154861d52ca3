/- Lib1: bytes.Clone, bytes.Equal. -/
import Derived.Test.YtdlbhoedmaifpaaProg
import Derived.Test.YtdlbhoedmaifpaaSepOps
import Derived.Test.YtdlbhoedmaifpaaBytes
import Derived.StillTailTactics
namespace Go.Proofs.Ytdlbhoedmaifpaa
open Go.RowKit
theorem info8 : (Try.prog.info? 5).map (fun i => (i.zero, i.size, i.bytes)) = some (some (.int .u8 0), 1, 1) := by kernel_rfl
set_option maxRecDepth 100000 in
theorem clone_ok {w0 w : World} {L : List Pr} {v : Value} {l : List UInt8} (H : Sp w0 L w) (hb : Byt w v l) (hl : l.length ≤ 1000000000) :
    Calls Try.prog 16 #[v] w (Ret fun v' w' => Sp w0 (Row 5 1 v' l.length (cells8 l) :: L) w') := by
  obtain ⟨A, c, rfl, hr, h1, h2⟩ := hb
  unfold maxLen at h2
  have e0 := fun (W : World) => Lib.run_eql_slice_nil (P := Try.prog) W 22 5 A l.length c 0 0 Try.underlying22
  have hr' := Lib.hid hr
  cases A with
  | none =>
    have hl0 : l = [] := by
      rcases l with _ | ⟨x, l⟩
      · rfl
      · obtain ⟨ad, h, _⟩ := hr (by simp [cells8]); cases h
    clear hr
    have HL := Lib.hid hl0
    clear hl0
    go_enter Try.func16, Try.ntmps16
    go_wp2
    go_ret
    obtain rfl := HL.out
    exact ⟨_, rfl, H.rowNil _ _⟩
  | some a =>
    clear hr
    go_enter Try.func16, Try.ntmps16
    obtain ⟨i0, hi, hz0, hz1, hz2⟩ := info_parts info8
    go_wp2_with (at_builtin; refine wpList_append_sp rfl _ _ 22 rfl 5 i0 (.int .u8 0) 1 1 Try.underlying22 hi hz0 hz1 hz2 rfl (by decide) (.slice (some ⟨w.heap.size, 0, none⟩) 0 0) 0 [] rfl ((H.newBk [] _).bkRow 1 0 rfl (by decide)) (some a) l.length c (cells8 l) rfl (by simp [cells8]) (hr'.out.alloc _) (cells8_one l) (by unfold maxLen; omega) (by omega) ?_)
    intro v' w' H2 _
    clear e0
    go_wp2
    go_ret
    exact ⟨_, rfl, H2⟩
set_option maxRecDepth 100000 in
theorem equal_ok {w : World} {v u : Value} {l m : List UInt8} (hv : Byt w v l) (hu : Byt w u m) :
    Calls Try.prog 21 #[v, u] w fun e w' => e = .returned (.bool (l == m)) ∧ w = w' := by
  have s1 := run_str (P := Try.prog) w 22 9 5 v l Try.underlying22 Try.underlying5 Try.underlying9 hv
  have s2 := run_str (P := Try.prog) w 22 9 5 u m Try.underlying22 Try.underlying5 Try.underlying9 hu
  go_enter Try.func21, Try.ntmps21
  go_wp2
  go_ret
  have e : ((strOf l).toList == (strOf m).toList) = (l == m) := by
    unfold strOf
    rw [ByteArray.toList_mk, ByteArray.toList_mk]
  exact ⟨by rw [← e]; rfl, rfl⟩
end Go.Proofs.Ytdlbhoedmaifpaa
