/- MatchC: a finder made; Best; the size of a step. -/
import Derived.Test.YtdlbhoedmaifpaaMatchB
import Derived.Carry
namespace Go.Proofs.Ytdlbhoedmaifpaa
open Go.RowKit Go.MapKept
theorem Sp.emp {w0 w : World} {L : List Pr} (H : Sp w0 L w) : Sp w0 (Emp :: L) w := by
  obtain ⟨h1, h2, h3, own, h⟩ := H
  refine ⟨h1, h2, h3, fun b => own b + 1, fun i A hi => ?_⟩
  match i with
  | 0 =>
    obtain rfl : Emp = A := by simpa using hi
    trivial
  | i + 1 => exact cast (congrArg A (cut_iff fun b => by omega)) (h i A (by simpa using hi))
set_option maxRecDepth 100000 in
theorem finds_ok (A0 : Option Addr) (l c : Nat) (d : Int) (B : List UInt8) {w0 w : World} {L : List Pr} (H : Sp w0 L w) :
    Calls Try.prog 44 #[.slice A0 l c, .int .i64 d] w fun e w' => ∃ g, e = .returned (.pointer (some ⟨g, 0, none⟩)) ∧ Sp w0 (Fd g (.slice A0 l c) B d 0 :: L) w' := by
  have H1 := (H.emp.new (.map #[] 0)).newBk [.slice A0 l c, .int .i64 d, .map (some w.heap.size), .int .i64 0] 124
  have e : (w.alloc (.map #[] 0)).heap.size = w.heap.size + 1 := Array.size_push _
  rw [e] at H1
  clear e
  have H2 : ∀ w', Sp w0 (Bk (w.heap.size + 1) 124 [.slice A0 l c, .int .i64 d, .map (some w.heap.size), .int .i64 0] :: Is w.heap.size (.map #[] 0) :: Emp :: L) w' → Sp w0 (Fd (w.heap.size + 1) (.slice A0 l c) B d 0 :: L) w' := by
    generalize w.heap.size + 1 = g
    generalize w.heap.size = mb
    intro w' HH
    exact fd_shut (mb := mb) (es := #[]) (clock := 0) ⟨MapOk.empty, fun i h => absurd h (Nat.not_lt_zero _)⟩ HH
  have HH := Lib.hid (H2 _ H1)
  clear H2 H1 H
  go_enter Try.func44, Try.ntmps44
  have hmk := run_makeMap (P := Try.prog) 122 w
  go_wp2
  go_ret
  exact ⟨_, rfl, HH.out⟩
theorem made_ok (s : PM.St) (w : World) :
    Calls Try.prog 49 #[stV s] w fun e w' => e = .returned (.int .i64 (PM.made s : Int)) ∧ Keep w w' := by
  obtain ⟨a, b, c⟩ := s
  obtain ⟨m, hm⟩ : ∃ m : Int, max (a : Int) 1 = m := ⟨_, rfl⟩
  have e : ((PM.made (a, b, c) : Nat) : Int) = m := by
    unfold PM.made
    rw [← hm]
    show ((max a 1 : Nat) : Int) = _
    omega
  unfold stV
  rw [e]
  clear e
  go_enter Try.func49, Try.ntmps49
  go_wp2
  · go_ret
    exact ⟨ret_i64 (by omega), Keep.alloc _ _⟩
  · go_ret
    exact ⟨ret_i64 (by omega), Keep.alloc _ _⟩
end Go.Proofs.Ytdlbhoedmaifpaa
