/- InfEnd: what All and Blocks answer, where it is known. -/
import Derived.Test.YtiogaejfcenooaaDoorPkS
namespace Go.Proofs.YtiogaejfcenooaaDoor
set_option linter.unusedVariables false
set_option linter.unusedSimpArgs false
open Go.RowKit
theorem AEnd.got {w0 : World} {L : List Pr} {T : Except Nat (Nat × List UInt8 × List PI.Blk)} {r : Nat × List UInt8 × List PI.Blk} (h : T = .ok r) {e : Ending} {w' : World} (k : AEnd w0 L T e w') :
  ∃ A c, e = .returned (.tuple #[.slice A r.2.1.length c, .int .i64 (((r.1 + 7) / 8 : Nat) : Int), .int .i64 0]) ∧ Sp w0 (Row 5 1 (.slice A r.2.1.length c) r.2.1.length (cells8 r.2.1) :: L) w' := by
 subst h
 obtain ⟨vo, rfl, H⟩ := k
 obtain ⟨A, c, rfl, _, _⟩ := Row.form H 0 rfl
 exact ⟨A, c, rfl, H⟩
theorem AEnd.bad {w0 : World} {L : List Pr} {T : Except Nat (Nat × List UInt8 × List PI.Blk)} {c : Nat} (h : T = .error c) {e : Ending} {w' : World} (k : AEnd w0 L T e w') :
  e = .returned (.tuple #[.slice none 0 0, .int .i64 0, .int .i64 (c : Int)]) ∧ Sp w0 L w' := by
 subst h; exact k
theorem byt_row {w0 w : World} {M : List Pr} {A : Option Addr} {n c : Nat} {e : TypeId} {l : List UInt8} (H : Sp w0 M w) (k : Nat) (hk : M[k]? = some (Row e 1 (.slice A n c) n (cells8 l))) (hn : n = l.length) : Byt w (.slice A n c) l := by
 subst hn
 exact H.row_byt k hk
theorem parts_same {W : World} {A : Option Addr} {ps : List PartV} (h : Rd W A (ps.flatMap PartV.cells)) (hok : ∀ x ∈ ps, x.Ok W) : Ent [Same W] fun w => Rd w A (ps.flatMap PartV.cells) ∧ ∀ x ∈ ps, x.Ok w :=
 Ent.of_same 0 rfl fun _ hs => ⟨h.keep fun p _ _ hp => World.cell?_of_block (hs p.block (cell_lt hp)), fun x hx => (hok x hx).keep hs⟩
theorem tabs_same {W : World} {TL TA : Option Addr} {cl ca : Nat} (h : Tabs TL TA cl ca W) : Ent [Same W] (Tabs TL TA cl ca) := Ent.of_same 0 rfl fun _ hs => h.heap hs
end Go.Proofs.YtiogaejfcenooaaDoor
