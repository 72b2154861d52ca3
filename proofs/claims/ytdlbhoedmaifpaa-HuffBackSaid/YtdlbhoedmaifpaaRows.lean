/-
  No cell of these rows narrows 'for every input' (looked for: loops, veiled, ifaces, maps, wideKeys, modest, calm, conditions, laid).
  DERIVED. THE GIVEN ROWS OF THIS SEAT. 11 by the template 'for every input the law returns true; each argument reads behind the call as it read before'; 0 by the template 'total and deterministic' (their statements: YtdlbhoedmaifpaaTotals.lean).
  GIVEN WITH THE SEED: the statements are not yours to turn. If you find one false, say at which input.
  Laid BY PROGRAM, IN A SANDBOX (cutbox-rows.mjs): the forced cells as the released guide's own fill.sh prints them over the translation 163c6b8abbda5988… (all of the seat's roots in one cut). By AI agents, Wed Nov 11 2026. No macro, syntax, notation, axiom, sorry.
-/
import Derived.Test.YtdlbhoedmaifpaaChecked
import GoSem.Claim
import GoSem.ClaimJoined
import GoSem.ClaimMapViews
import Derived.JoinedTies
import Derived.KernelRfl
namespace Go.Proofs.Ytdlbhoedmaifpaa
/- THE CELL 'sum', in the pinned program and in every row, IS THE sha256 OF THE DUMP (.gsa) THAT YtdlbhoedmaifpaaProg.lean LOADS. Nothing in Lean hashes anything: it is a label: what it is worth is what the hold of that sum in a sandbox is worth. -/
noncomputable def Try.pinned : Pinned := { name := "ytdlbhoedmaifpaa", sum := "163c6b8abbda59887e0334e6c1ea9ca82d71a03bfe89d1f37f011fac5aa2a8cb", checked := Try.checked }
namespace Rows
def none {H : Type} : Left H := { results := [], args := [] }

/-- 'portolanlaw05.MatchMore': WHATEVER THE INPUT: true; the input reads as it did. -/
def matchMoreSpec : ChangeSpec := { name := "matchMore", fn := fun _ => fun
  | [d1, d2, d3] => { results := [.lit (.bool true)], args := [d1, d2, d3] }
  | _ => none }
def matchMoreRow : OpenClaim := { program := "ytdlbhoedmaifpaa", sum := "163c6b8abbda59887e0334e6c1ea9ca82d71a03bfe89d1f37f011fac5aa2a8cb", func := "portolan/portolanlaw05.MatchMore", spec := "matchMore", unfollowed := true, recurses := true, plainKeys := false, apart := false }
def MatchMoreSaid : Prop := matchMoreRow.holds Try.pinned (OpenSpec.ofChange matchMoreSpec)

/-- ITS FALSE NEIGHBOUR: 'it returns false'. Refute it at one input. -/
def matchMoreWrong : ChangeSpec := { name := "matchMore", fn := fun _ => fun
  | [d1, d2, d3] => { results := [.lit (.bool false)], args := [d1, d2, d3] }
  | _ => none }
def MatchMoreWrongFalsely : Prop := matchMoreRow.holds Try.pinned (OpenSpec.ofChange matchMoreWrong)

/-- 'portolanlaw05.MatchCuts': WHATEVER THE INPUT: true; the input reads as it did. -/
def matchCutsSpec : ChangeSpec := { name := "matchCuts", fn := fun _ => fun
  | [d1, d2, d3] => { results := [.lit (.bool true)], args := [d1, d2, d3] }
  | _ => none }
def matchCutsRow : OpenClaim := { program := "ytdlbhoedmaifpaa", sum := "163c6b8abbda59887e0334e6c1ea9ca82d71a03bfe89d1f37f011fac5aa2a8cb", func := "portolan/portolanlaw05.MatchCuts", spec := "matchCuts", unfollowed := true, recurses := true, plainKeys := false, apart := false }
def MatchCutsSaid : Prop := matchCutsRow.holds Try.pinned (OpenSpec.ofChange matchCutsSpec)

/-- ITS FALSE NEIGHBOUR: 'it returns false'. Refute it at one input. -/
def matchCutsWrong : ChangeSpec := { name := "matchCuts", fn := fun _ => fun
  | [d1, d2, d3] => { results := [.lit (.bool false)], args := [d1, d2, d3] }
  | _ => none }
def MatchCutsWrongFalsely : Prop := matchCutsRow.holds Try.pinned (OpenSpec.ofChange matchCutsWrong)

/-- 'portolanlaw05.MatchBack': WHATEVER THE INPUT: true; the input reads as it did. -/
def matchBackSpec : ChangeSpec := { name := "matchBack", fn := fun _ => fun
  | [d1, d2] => { results := [.lit (.bool true)], args := [d1, d2] }
  | _ => none }
def matchBackRow : OpenClaim := { program := "ytdlbhoedmaifpaa", sum := "163c6b8abbda59887e0334e6c1ea9ca82d71a03bfe89d1f37f011fac5aa2a8cb", func := "portolan/portolanlaw05.MatchBack", spec := "matchBack", unfollowed := true, recurses := true, plainKeys := false, apart := false }
def MatchBackSaid : Prop := matchBackRow.holds Try.pinned (OpenSpec.ofChange matchBackSpec)

/-- ITS FALSE NEIGHBOUR: 'it returns false'. Refute it at one input. -/
def matchBackWrong : ChangeSpec := { name := "matchBack", fn := fun _ => fun
  | [d1, d2] => { results := [.lit (.bool false)], args := [d1, d2] }
  | _ => none }
def MatchBackWrongFalsely : Prop := matchBackRow.holds Try.pinned (OpenSpec.ofChange matchBackWrong)

/-- 'portolanlaw05.MatchRuns': WHATEVER THE INPUT: true; the input reads as it did. -/
def matchRunsSpec : ChangeSpec := { name := "matchRuns", fn := fun _ => fun
  | [d1, d2, d3] => { results := [.lit (.bool true)], args := [d1, d2, d3] }
  | _ => none }
def matchRunsRow : OpenClaim := { program := "ytdlbhoedmaifpaa", sum := "163c6b8abbda59887e0334e6c1ea9ca82d71a03bfe89d1f37f011fac5aa2a8cb", func := "portolan/portolanlaw05.MatchRuns", spec := "matchRuns", inPlace := ["internal/bytealg.MakeNoZero"], unfollowed := true, recurses := true, plainKeys := false, apart := false }
def MatchRunsSaid : Prop := matchRunsRow.holds Try.pinned (OpenSpec.ofChange matchRunsSpec)

/-- ITS FALSE NEIGHBOUR: 'it returns false'. Refute it at one input. -/
def matchRunsWrong : ChangeSpec := { name := "matchRuns", fn := fun _ => fun
  | [d1, d2, d3] => { results := [.lit (.bool false)], args := [d1, d2, d3] }
  | _ => none }
def MatchRunsWrongFalsely : Prop := matchRunsRow.holds Try.pinned (OpenSpec.ofChange matchRunsWrong)

/-- 'portolanlaw05.MatchKnown': WHATEVER THE INPUT: true; the input reads as it did. -/
def matchKnownSpec : ChangeSpec := { name := "matchKnown", fn := fun _ => fun
  | [] => { results := [.lit (.bool true)], args := [] }
  | _ => none }
def matchKnownRow : OpenClaim := { program := "ytdlbhoedmaifpaa", sum := "163c6b8abbda59887e0334e6c1ea9ca82d71a03bfe89d1f37f011fac5aa2a8cb", func := "portolan/portolanlaw05.MatchKnown", spec := "matchKnown", inPlace := ["internal/bytealg.MakeNoZero"], unfollowed := true, recurses := true, plainKeys := false, apart := false }
def MatchKnownSaid : Prop := matchKnownRow.holds Try.pinned (OpenSpec.ofChange matchKnownSpec)

/-- ITS FALSE NEIGHBOUR: 'it returns false'. Refute it at one input. -/
def matchKnownWrong : ChangeSpec := { name := "matchKnown", fn := fun _ => fun
  | [] => { results := [.lit (.bool false)], args := [] }
  | _ => none }
def MatchKnownWrongFalsely : Prop := matchKnownRow.holds Try.pinned (OpenSpec.ofChange matchKnownWrong)

/-- 'portolanlaw04.HuffLengths': WHATEVER THE INPUT: true; the input reads as it did. -/
def huffLengthsSpec : ChangeSpec := { name := "huffLengths", fn := fun _ => fun
  | [d1, d2] => { results := [.lit (.bool true)], args := [d1, d2] }
  | _ => none }
def huffLengthsRow : OpenClaim := { program := "ytdlbhoedmaifpaa", sum := "163c6b8abbda59887e0334e6c1ea9ca82d71a03bfe89d1f37f011fac5aa2a8cb", func := "portolan/portolanlaw04.HuffLengths", spec := "huffLengths", unfollowed := true, recurses := true, plainKeys := false, apart := false }
def HuffLengthsSaid : Prop := huffLengthsRow.holds Try.pinned (OpenSpec.ofChange huffLengthsSpec)

/-- ITS FALSE NEIGHBOUR: 'it returns false'. Refute it at one input. -/
def huffLengthsWrong : ChangeSpec := { name := "huffLengths", fn := fun _ => fun
  | [d1, d2] => { results := [.lit (.bool false)], args := [d1, d2] }
  | _ => none }
def HuffLengthsWrongFalsely : Prop := huffLengthsRow.holds Try.pinned (OpenSpec.ofChange huffLengthsWrong)

/-- 'portolanlaw04.HuffLeast': WHATEVER THE INPUT: true; the input reads as it did. -/
def huffLeastSpec : ChangeSpec := { name := "huffLeast", fn := fun _ => fun
  | [d1, d2, d3] => { results := [.lit (.bool true)], args := [d1, d2, d3] }
  | _ => none }
def huffLeastRow : OpenClaim := { program := "ytdlbhoedmaifpaa", sum := "163c6b8abbda59887e0334e6c1ea9ca82d71a03bfe89d1f37f011fac5aa2a8cb", func := "portolan/portolanlaw04.HuffLeast", spec := "huffLeast", unfollowed := true, recurses := true, plainKeys := false, apart := false }
def HuffLeastSaid : Prop := huffLeastRow.holds Try.pinned (OpenSpec.ofChange huffLeastSpec)

/-- ITS FALSE NEIGHBOUR: 'it returns false'. Refute it at one input. -/
def huffLeastWrong : ChangeSpec := { name := "huffLeast", fn := fun _ => fun
  | [d1, d2, d3] => { results := [.lit (.bool false)], args := [d1, d2, d3] }
  | _ => none }
def HuffLeastWrongFalsely : Prop := huffLeastRow.holds Try.pinned (OpenSpec.ofChange huffLeastWrong)

/-- 'portolanlaw04.HuffFull': WHATEVER THE INPUT: true; the input reads as it did. -/
def huffFullSpec : ChangeSpec := { name := "huffFull", fn := fun _ => fun
  | [d1, d2] => { results := [.lit (.bool true)], args := [d1, d2] }
  | _ => none }
def huffFullRow : OpenClaim := { program := "ytdlbhoedmaifpaa", sum := "163c6b8abbda59887e0334e6c1ea9ca82d71a03bfe89d1f37f011fac5aa2a8cb", func := "portolan/portolanlaw04.HuffFull", spec := "huffFull", unfollowed := true, recurses := true, plainKeys := false, apart := false }
def HuffFullSaid : Prop := huffFullRow.holds Try.pinned (OpenSpec.ofChange huffFullSpec)

/-- ITS FALSE NEIGHBOUR: 'it returns false'. Refute it at one input. -/
def huffFullWrong : ChangeSpec := { name := "huffFull", fn := fun _ => fun
  | [d1, d2] => { results := [.lit (.bool false)], args := [d1, d2] }
  | _ => none }
def HuffFullWrongFalsely : Prop := huffFullRow.holds Try.pinned (OpenSpec.ofChange huffFullWrong)

/-- 'portolanlaw04.HuffReads': WHATEVER THE INPUT: true; the input reads as it did. -/
def huffReadsSpec : ChangeSpec := { name := "huffReads", fn := fun _ => fun
  | [d1, d2, d3, d4] => { results := [.lit (.bool true)], args := [d1, d2, d3, d4] }
  | _ => none }
def huffReadsRow : OpenClaim := { program := "ytdlbhoedmaifpaa", sum := "163c6b8abbda59887e0334e6c1ea9ca82d71a03bfe89d1f37f011fac5aa2a8cb", func := "portolan/portolanlaw04.HuffReads", spec := "huffReads", unfollowed := true, recurses := true, plainKeys := false, apart := false }
def HuffReadsSaid : Prop := huffReadsRow.holds Try.pinned (OpenSpec.ofChange huffReadsSpec)

/-- ITS FALSE NEIGHBOUR: 'it returns false'. Refute it at one input. -/
def huffReadsWrong : ChangeSpec := { name := "huffReads", fn := fun _ => fun
  | [d1, d2, d3, d4] => { results := [.lit (.bool false)], args := [d1, d2, d3, d4] }
  | _ => none }
def HuffReadsWrongFalsely : Prop := huffReadsRow.holds Try.pinned (OpenSpec.ofChange huffReadsWrong)

/-- 'portolanlaw04.HuffBack': WHATEVER THE INPUT: true; the input reads as it did. -/
def huffBackSpec : ChangeSpec := { name := "huffBack", fn := fun _ => fun
  | [d1, d2] => { results := [.lit (.bool true)], args := [d1, d2] }
  | _ => none }
def huffBackRow : OpenClaim := { program := "ytdlbhoedmaifpaa", sum := "163c6b8abbda59887e0334e6c1ea9ca82d71a03bfe89d1f37f011fac5aa2a8cb", func := "portolan/portolanlaw04.HuffBack", spec := "huffBack", unfollowed := true, recurses := true, plainKeys := false, apart := false }
def HuffBackSaid : Prop := huffBackRow.holds Try.pinned (OpenSpec.ofChange huffBackSpec)

/-- ITS FALSE NEIGHBOUR: 'it returns false'. Refute it at one input. -/
def huffBackWrong : ChangeSpec := { name := "huffBack", fn := fun _ => fun
  | [d1, d2] => { results := [.lit (.bool false)], args := [d1, d2] }
  | _ => none }
def HuffBackWrongFalsely : Prop := huffBackRow.holds Try.pinned (OpenSpec.ofChange huffBackWrong)

/-- 'portolanlaw04.HuffKnown': WHATEVER THE INPUT: true; the input reads as it did. -/
def huffKnownSpec : ChangeSpec := { name := "huffKnown", fn := fun _ => fun
  | [] => { results := [.lit (.bool true)], args := [] }
  | _ => none }
def huffKnownRow : OpenClaim := { program := "ytdlbhoedmaifpaa", sum := "163c6b8abbda59887e0334e6c1ea9ca82d71a03bfe89d1f37f011fac5aa2a8cb", func := "portolan/portolanlaw04.HuffKnown", spec := "huffKnown", unfollowed := true, recurses := true, plainKeys := false, apart := false }
def HuffKnownSaid : Prop := huffKnownRow.holds Try.pinned (OpenSpec.ofChange huffKnownSpec)

/-- ITS FALSE NEIGHBOUR: 'it returns false'. Refute it at one input. -/
def huffKnownWrong : ChangeSpec := { name := "huffKnown", fn := fun _ => fun
  | [] => { results := [.lit (.bool false)], args := [] }
  | _ => none }
def HuffKnownWrongFalsely : Prop := huffKnownRow.holds Try.pinned (OpenSpec.ofChange huffKnownWrong)

/- THE SECOND FORM. 'bulk': how many values and letters a reading holds, each counted each time it is reached (what is shared counts as often as it is met; a slice's spare places count too). A statement '..UptoSaid' is the law's where the arguments, and the package variables that the reading takes, are together of bulk at most 1048576: NARROWER than '..Said'. Prove '..Said' where nothing that the law and all that it calls make is longer than what came in: it says more and counts as full. Else prove '..UptoSaid'. A law counts once. -/
mutual
def uptoBulk {H : Type} : DataW H → Nat
  | .lit (.string bytes) => bytes.length + 1
  | .lit _ => 1
  | .nil => 1
  | .ptr d => uptoBulk d + 1
  | .slice elems spare => uptoBulkAll elems + uptoBulkAll spare + 1
  | .agg parts => uptoBulkAll parts + 1
  | .iface _ d => uptoBulk d + 1
  | .map entries => uptoBulkEntries entries + 1
  | .held _ => 1
def uptoBulkAll {H : Type} : List (DataW H) → Nat
  | [] => 0
  | d :: r => uptoBulk d + uptoBulkAll r
def uptoBulkEntries {H : Type} : List (Lit × DataW H) → Nat
  | [] => 0
  | x :: r => uptoBulkEntry x + uptoBulkEntries r
def uptoBulkEntry {H : Type} : Lit × DataW H → Nat
  | (.string bytes, d) => bytes.length + uptoBulk d + 1
  | (_, d) => uptoBulk d + 1
 end
def uptoSmall : (H : Type) → List (DataW H) → Bool := fun _ ds => decide (uptoBulkAll ds ≤ 1048576)
def OpenSpec.upto (s : _root_.Go.ChangeSpec) : _root_.Go.OpenSpec := { _root_.Go.OpenSpec.ofChange s with cond := some uptoSmall }

/-- 'portolanlaw05.MatchMore', WHERE WHAT IT READS IS OF BULK AT MOST 1048576: true; the input reads as it did. -/
def matchMoreUptoRow : OpenClaim := { program := "ytdlbhoedmaifpaa", sum := "163c6b8abbda59887e0334e6c1ea9ca82d71a03bfe89d1f37f011fac5aa2a8cb", func := "portolan/portolanlaw05.MatchMore", spec := "matchMore", unfollowed := true, recurses := true, plainKeys := false, apart := false, narrowed := true }
def MatchMoreUptoSaid : Prop := matchMoreUptoRow.holds Try.pinned (OpenSpec.upto matchMoreSpec)

/-- 'portolanlaw05.MatchCuts', WHERE WHAT IT READS IS OF BULK AT MOST 1048576: true; the input reads as it did. -/
def matchCutsUptoRow : OpenClaim := { program := "ytdlbhoedmaifpaa", sum := "163c6b8abbda59887e0334e6c1ea9ca82d71a03bfe89d1f37f011fac5aa2a8cb", func := "portolan/portolanlaw05.MatchCuts", spec := "matchCuts", unfollowed := true, recurses := true, plainKeys := false, apart := false, narrowed := true }
def MatchCutsUptoSaid : Prop := matchCutsUptoRow.holds Try.pinned (OpenSpec.upto matchCutsSpec)

/-- 'portolanlaw05.MatchBack', WHERE WHAT IT READS IS OF BULK AT MOST 1048576: true; the input reads as it did. -/
def matchBackUptoRow : OpenClaim := { program := "ytdlbhoedmaifpaa", sum := "163c6b8abbda59887e0334e6c1ea9ca82d71a03bfe89d1f37f011fac5aa2a8cb", func := "portolan/portolanlaw05.MatchBack", spec := "matchBack", unfollowed := true, recurses := true, plainKeys := false, apart := false, narrowed := true }
def MatchBackUptoSaid : Prop := matchBackUptoRow.holds Try.pinned (OpenSpec.upto matchBackSpec)

/-- 'portolanlaw05.MatchRuns', WHERE WHAT IT READS IS OF BULK AT MOST 1048576: true; the input reads as it did. -/
def matchRunsUptoRow : OpenClaim := { program := "ytdlbhoedmaifpaa", sum := "163c6b8abbda59887e0334e6c1ea9ca82d71a03bfe89d1f37f011fac5aa2a8cb", func := "portolan/portolanlaw05.MatchRuns", spec := "matchRuns", inPlace := ["internal/bytealg.MakeNoZero"], unfollowed := true, recurses := true, plainKeys := false, apart := false, narrowed := true }
def MatchRunsUptoSaid : Prop := matchRunsUptoRow.holds Try.pinned (OpenSpec.upto matchRunsSpec)

/-- 'portolanlaw05.MatchKnown', WHERE WHAT IT READS IS OF BULK AT MOST 1048576: true; the input reads as it did. -/
def matchKnownUptoRow : OpenClaim := { program := "ytdlbhoedmaifpaa", sum := "163c6b8abbda59887e0334e6c1ea9ca82d71a03bfe89d1f37f011fac5aa2a8cb", func := "portolan/portolanlaw05.MatchKnown", spec := "matchKnown", inPlace := ["internal/bytealg.MakeNoZero"], unfollowed := true, recurses := true, plainKeys := false, apart := false, narrowed := true }
def MatchKnownUptoSaid : Prop := matchKnownUptoRow.holds Try.pinned (OpenSpec.upto matchKnownSpec)

/-- 'portolanlaw04.HuffLengths', WHERE WHAT IT READS IS OF BULK AT MOST 1048576: true; the input reads as it did. -/
def huffLengthsUptoRow : OpenClaim := { program := "ytdlbhoedmaifpaa", sum := "163c6b8abbda59887e0334e6c1ea9ca82d71a03bfe89d1f37f011fac5aa2a8cb", func := "portolan/portolanlaw04.HuffLengths", spec := "huffLengths", unfollowed := true, recurses := true, plainKeys := false, apart := false, narrowed := true }
def HuffLengthsUptoSaid : Prop := huffLengthsUptoRow.holds Try.pinned (OpenSpec.upto huffLengthsSpec)

/-- 'portolanlaw04.HuffLeast', WHERE WHAT IT READS IS OF BULK AT MOST 1048576: true; the input reads as it did. -/
def huffLeastUptoRow : OpenClaim := { program := "ytdlbhoedmaifpaa", sum := "163c6b8abbda59887e0334e6c1ea9ca82d71a03bfe89d1f37f011fac5aa2a8cb", func := "portolan/portolanlaw04.HuffLeast", spec := "huffLeast", unfollowed := true, recurses := true, plainKeys := false, apart := false, narrowed := true }
def HuffLeastUptoSaid : Prop := huffLeastUptoRow.holds Try.pinned (OpenSpec.upto huffLeastSpec)

/-- 'portolanlaw04.HuffFull', WHERE WHAT IT READS IS OF BULK AT MOST 1048576: true; the input reads as it did. -/
def huffFullUptoRow : OpenClaim := { program := "ytdlbhoedmaifpaa", sum := "163c6b8abbda59887e0334e6c1ea9ca82d71a03bfe89d1f37f011fac5aa2a8cb", func := "portolan/portolanlaw04.HuffFull", spec := "huffFull", unfollowed := true, recurses := true, plainKeys := false, apart := false, narrowed := true }
def HuffFullUptoSaid : Prop := huffFullUptoRow.holds Try.pinned (OpenSpec.upto huffFullSpec)

/-- 'portolanlaw04.HuffReads', WHERE WHAT IT READS IS OF BULK AT MOST 1048576: true; the input reads as it did. -/
def huffReadsUptoRow : OpenClaim := { program := "ytdlbhoedmaifpaa", sum := "163c6b8abbda59887e0334e6c1ea9ca82d71a03bfe89d1f37f011fac5aa2a8cb", func := "portolan/portolanlaw04.HuffReads", spec := "huffReads", unfollowed := true, recurses := true, plainKeys := false, apart := false, narrowed := true }
def HuffReadsUptoSaid : Prop := huffReadsUptoRow.holds Try.pinned (OpenSpec.upto huffReadsSpec)

/-- 'portolanlaw04.HuffBack', WHERE WHAT IT READS IS OF BULK AT MOST 1048576: true; the input reads as it did. -/
def huffBackUptoRow : OpenClaim := { program := "ytdlbhoedmaifpaa", sum := "163c6b8abbda59887e0334e6c1ea9ca82d71a03bfe89d1f37f011fac5aa2a8cb", func := "portolan/portolanlaw04.HuffBack", spec := "huffBack", unfollowed := true, recurses := true, plainKeys := false, apart := false, narrowed := true }
def HuffBackUptoSaid : Prop := huffBackUptoRow.holds Try.pinned (OpenSpec.upto huffBackSpec)

/-- 'portolanlaw04.HuffKnown', WHERE WHAT IT READS IS OF BULK AT MOST 1048576: true; the input reads as it did. -/
def huffKnownUptoRow : OpenClaim := { program := "ytdlbhoedmaifpaa", sum := "163c6b8abbda59887e0334e6c1ea9ca82d71a03bfe89d1f37f011fac5aa2a8cb", func := "portolan/portolanlaw04.HuffKnown", spec := "huffKnown", unfollowed := true, recurses := true, plainKeys := false, apart := false, narrowed := true }
def HuffKnownUptoSaid : Prop := huffKnownUptoRow.holds Try.pinned (OpenSpec.upto huffKnownSpec)

end Rows
end Go.Proofs.Ytdlbhoedmaifpaa
