/-
  No cell of these rows narrows 'for every input' (looked for: loops, veiled, ifaces, maps, wideKeys, modest, calm, conditions, laid).
  DERIVED. THE GIVEN ROWS OF THIS SEAT. 17 by the template 'for every input the law returns true; each argument reads behind the call as it read before'; 0 by the template 'total and deterministic' (their statements: YtkgnihpcldgedaaTotals.lean).
  GIVEN WITH THE SEED: the statements are not yours to turn. If you find one false, say at which input.
  Laid BY PROGRAM, IN A SANDBOX (cutbox-rows.mjs): the forced cells as the released guide's own fill.sh prints them over the translation 0b788eb70def43f3… (all of the seat's roots in one cut). By AI agents, Wed Nov 11 2026. No macro, syntax, notation, axiom, sorry.
-/
import Derived.Test.YtkgnihpcldgedaaChecked
import GoSem.Claim
import GoSem.ClaimJoined
import GoSem.ClaimMapViews
import Derived.JoinedTies
import Derived.KernelRfl
namespace Go.Proofs.Ytkgnihpcldgedaa
/- THE CELL 'sum', in the pinned program and in every row, IS THE sha256 OF THE DUMP (.gsa) THAT YtkgnihpcldgedaaProg.lean LOADS. Nothing in Lean hashes anything: it is a label: what it is worth is what the hold of that sum in a sandbox is worth. -/
noncomputable def Try.pinned : Pinned := { name := "ytkgnihpcldgedaa", sum := "0b788eb70def43f34e1bc5b87a065f9c44f0139a8765d29c0baaf2803ebfa86e", checked := Try.checked }
namespace Rows
def none {H : Type} : Left H := { results := [], args := [] }

/-- 'portolanlaw05.MatchMore': WHATEVER THE INPUT: true; the input reads as it did. -/
def matchMoreSpec : ChangeSpec := { name := "matchMore", fn := fun _ => fun
  | [d1, d2, d3] => { results := [.lit (.bool true)], args := [d1, d2, d3] }
  | _ => none }
def matchMoreRow : OpenClaim := { program := "ytkgnihpcldgedaa", sum := "0b788eb70def43f34e1bc5b87a065f9c44f0139a8765d29c0baaf2803ebfa86e", func := "portolan/portolanlaw05.MatchMore", spec := "matchMore", unfollowed := true, recurses := true, plainKeys := false, apart := false }
def MatchMoreSaid : Prop := matchMoreRow.holds Try.pinned (OpenSpec.ofChange matchMoreSpec)

/-- ITS FALSE NEIGHBOUR: 'it returns false'. Refute it at one input. -/
def matchMoreWrong : ChangeSpec := { name := "matchMore", fn := fun _ => fun
  | [d1, d2, d3] => { results := [.lit (.bool false)], args := [d1, d2, d3] }
  | _ => none }
def MatchMoreWrongFalsely : Prop := matchMoreRow.holds Try.pinned (OpenSpec.ofChange matchMoreWrong)

/-- 'portolanlaw05.MatchCuts': WHATEVER THE INPUT: true; the input reads as it did. -/
def matchCutsSpec : ChangeSpec := { name := "matchCuts", fn := fun _ => fun
  | [d1, d2, d3] => { results := [.lit (.bool true)], args := [d1, d2, d3] }
  | _ => none }
def matchCutsRow : OpenClaim := { program := "ytkgnihpcldgedaa", sum := "0b788eb70def43f34e1bc5b87a065f9c44f0139a8765d29c0baaf2803ebfa86e", func := "portolan/portolanlaw05.MatchCuts", spec := "matchCuts", unfollowed := true, recurses := true, plainKeys := false, apart := false }
def MatchCutsSaid : Prop := matchCutsRow.holds Try.pinned (OpenSpec.ofChange matchCutsSpec)

/-- ITS FALSE NEIGHBOUR: 'it returns false'. Refute it at one input. -/
def matchCutsWrong : ChangeSpec := { name := "matchCuts", fn := fun _ => fun
  | [d1, d2, d3] => { results := [.lit (.bool false)], args := [d1, d2, d3] }
  | _ => none }
def MatchCutsWrongFalsely : Prop := matchCutsRow.holds Try.pinned (OpenSpec.ofChange matchCutsWrong)

/-- 'portolanlaw05.MatchBack': WHATEVER THE INPUT: true; the input reads as it did. -/
def matchBackSpec : ChangeSpec := { name := "matchBack", fn := fun _ => fun
  | [d1, d2] => { results := [.lit (.bool true)], args := [d1, d2] }
  | _ => none }
def matchBackRow : OpenClaim := { program := "ytkgnihpcldgedaa", sum := "0b788eb70def43f34e1bc5b87a065f9c44f0139a8765d29c0baaf2803ebfa86e", func := "portolan/portolanlaw05.MatchBack", spec := "matchBack", unfollowed := true, recurses := true, plainKeys := false, apart := false }
def MatchBackSaid : Prop := matchBackRow.holds Try.pinned (OpenSpec.ofChange matchBackSpec)

/-- ITS FALSE NEIGHBOUR: 'it returns false'. Refute it at one input. -/
def matchBackWrong : ChangeSpec := { name := "matchBack", fn := fun _ => fun
  | [d1, d2] => { results := [.lit (.bool false)], args := [d1, d2] }
  | _ => none }
def MatchBackWrongFalsely : Prop := matchBackRow.holds Try.pinned (OpenSpec.ofChange matchBackWrong)

/-- 'portolanlaw03.BitsTurned': WHATEVER THE INPUT: true; the input reads as it did. -/
def bitsTurnedSpec : ChangeSpec := { name := "bitsTurned", fn := fun _ => fun
  | [d1, d2] => { results := [.lit (.bool true)], args := [d1, d2] }
  | _ => none }
def bitsTurnedRow : OpenClaim := { program := "ytkgnihpcldgedaa", sum := "0b788eb70def43f34e1bc5b87a065f9c44f0139a8765d29c0baaf2803ebfa86e", func := "portolan/portolanlaw03.BitsTurned", spec := "bitsTurned", unfollowed := true, recurses := true, plainKeys := false, apart := false }
def BitsTurnedSaid : Prop := bitsTurnedRow.holds Try.pinned (OpenSpec.ofChange bitsTurnedSpec)

/-- ITS FALSE NEIGHBOUR: 'it returns false'. Refute it at one input. -/
def bitsTurnedWrong : ChangeSpec := { name := "bitsTurned", fn := fun _ => fun
  | [d1, d2] => { results := [.lit (.bool false)], args := [d1, d2] }
  | _ => none }
def BitsTurnedWrongFalsely : Prop := bitsTurnedRow.holds Try.pinned (OpenSpec.ofChange bitsTurnedWrong)

/-- 'portolanlaw03.BitsShort': WHATEVER THE INPUT: true; the input reads as it did. -/
def bitsShortSpec : ChangeSpec := { name := "bitsShort", fn := fun _ => fun
  | [d1, d2, d3] => { results := [.lit (.bool true)], args := [d1, d2, d3] }
  | _ => none }
def bitsShortRow : OpenClaim := { program := "ytkgnihpcldgedaa", sum := "0b788eb70def43f34e1bc5b87a065f9c44f0139a8765d29c0baaf2803ebfa86e", func := "portolan/portolanlaw03.BitsShort", spec := "bitsShort", unfollowed := true, recurses := true, plainKeys := false, apart := false }
def BitsShortSaid : Prop := bitsShortRow.holds Try.pinned (OpenSpec.ofChange bitsShortSpec)

/-- ITS FALSE NEIGHBOUR: 'it returns false'. Refute it at one input. -/
def bitsShortWrong : ChangeSpec := { name := "bitsShort", fn := fun _ => fun
  | [d1, d2, d3] => { results := [.lit (.bool false)], args := [d1, d2, d3] }
  | _ => none }
def BitsShortWrongFalsely : Prop := bitsShortRow.holds Try.pinned (OpenSpec.ofChange bitsShortWrong)

/-- 'portolanlaw03.BitsWrites': WHATEVER THE INPUT: true; the input reads as it did. -/
def bitsWritesSpec : ChangeSpec := { name := "bitsWrites", fn := fun _ => fun
  | [d] => { results := [.lit (.bool true)], args := [d] }
  | _ => none }
def bitsWritesRow : OpenClaim := { program := "ytkgnihpcldgedaa", sum := "0b788eb70def43f34e1bc5b87a065f9c44f0139a8765d29c0baaf2803ebfa86e", func := "portolan/portolanlaw03.BitsWrites", spec := "bitsWrites", unfollowed := true, recurses := true, plainKeys := false, apart := false }
def BitsWritesSaid : Prop := bitsWritesRow.holds Try.pinned (OpenSpec.ofChange bitsWritesSpec)

/-- ITS FALSE NEIGHBOUR: 'it returns false'. Refute it at one input. -/
def bitsWritesWrong : ChangeSpec := { name := "bitsWrites", fn := fun _ => fun
  | [d] => { results := [.lit (.bool false)], args := [d] }
  | _ => none }
def BitsWritesWrongFalsely : Prop := bitsWritesRow.holds Try.pinned (OpenSpec.ofChange bitsWritesWrong)

/-- 'portolanlaw03.BitsReads': WHATEVER THE INPUT: true; the input reads as it did. -/
def bitsReadsSpec : ChangeSpec := { name := "bitsReads", fn := fun _ => fun
  | [d1, d2] => { results := [.lit (.bool true)], args := [d1, d2] }
  | _ => none }
def bitsReadsRow : OpenClaim := { program := "ytkgnihpcldgedaa", sum := "0b788eb70def43f34e1bc5b87a065f9c44f0139a8765d29c0baaf2803ebfa86e", func := "portolan/portolanlaw03.BitsReads", spec := "bitsReads", unfollowed := true, recurses := true, plainKeys := false, apart := false }
def BitsReadsSaid : Prop := bitsReadsRow.holds Try.pinned (OpenSpec.ofChange bitsReadsSpec)

/-- ITS FALSE NEIGHBOUR: 'it returns false'. Refute it at one input. -/
def bitsReadsWrong : ChangeSpec := { name := "bitsReads", fn := fun _ => fun
  | [d1, d2] => { results := [.lit (.bool false)], args := [d1, d2] }
  | _ => none }
def BitsReadsWrongFalsely : Prop := bitsReadsRow.holds Try.pinned (OpenSpec.ofChange bitsReadsWrong)

/-- 'portolanlaw03.BitsBack': WHATEVER THE INPUT: true; the input reads as it did. -/
def bitsBackSpec : ChangeSpec := { name := "bitsBack", fn := fun _ => fun
  | [d] => { results := [.lit (.bool true)], args := [d] }
  | _ => none }
def bitsBackRow : OpenClaim := { program := "ytkgnihpcldgedaa", sum := "0b788eb70def43f34e1bc5b87a065f9c44f0139a8765d29c0baaf2803ebfa86e", func := "portolan/portolanlaw03.BitsBack", spec := "bitsBack", unfollowed := true, recurses := true, plainKeys := false, apart := false }
def BitsBackSaid : Prop := bitsBackRow.holds Try.pinned (OpenSpec.ofChange bitsBackSpec)

/-- ITS FALSE NEIGHBOUR: 'it returns false'. Refute it at one input. -/
def bitsBackWrong : ChangeSpec := { name := "bitsBack", fn := fun _ => fun
  | [d] => { results := [.lit (.bool false)], args := [d] }
  | _ => none }
def BitsBackWrongFalsely : Prop := bitsBackRow.holds Try.pinned (OpenSpec.ofChange bitsBackWrong)

/-- 'portolanlaw03.BitsKnown': WHATEVER THE INPUT: true; the input reads as it did. -/
def bitsKnownSpec : ChangeSpec := { name := "bitsKnown", fn := fun _ => fun
  | [] => { results := [.lit (.bool true)], args := [] }
  | _ => none }
def bitsKnownRow : OpenClaim := { program := "ytkgnihpcldgedaa", sum := "0b788eb70def43f34e1bc5b87a065f9c44f0139a8765d29c0baaf2803ebfa86e", func := "portolan/portolanlaw03.BitsKnown", spec := "bitsKnown", unfollowed := true, recurses := true, plainKeys := false, apart := false }
def BitsKnownSaid : Prop := bitsKnownRow.holds Try.pinned (OpenSpec.ofChange bitsKnownSpec)

/-- ITS FALSE NEIGHBOUR: 'it returns false'. Refute it at one input. -/
def bitsKnownWrong : ChangeSpec := { name := "bitsKnown", fn := fun _ => fun
  | [] => { results := [.lit (.bool false)], args := [] }
  | _ => none }
def BitsKnownWrongFalsely : Prop := bitsKnownRow.holds Try.pinned (OpenSpec.ofChange bitsKnownWrong)

/-- 'portolanlaw05.MatchRuns': WHATEVER THE INPUT: true; the input reads as it did. -/
def matchRunsSpec : ChangeSpec := { name := "matchRuns", fn := fun _ => fun
  | [d1, d2, d3] => { results := [.lit (.bool true)], args := [d1, d2, d3] }
  | _ => none }
def matchRunsRow : OpenClaim := { program := "ytkgnihpcldgedaa", sum := "0b788eb70def43f34e1bc5b87a065f9c44f0139a8765d29c0baaf2803ebfa86e", func := "portolan/portolanlaw05.MatchRuns", spec := "matchRuns", inPlace := ["internal/bytealg.MakeNoZero"], unfollowed := true, recurses := true, plainKeys := false, apart := false }
def MatchRunsSaid : Prop := matchRunsRow.holds Try.pinned (OpenSpec.ofChange matchRunsSpec)

/-- ITS FALSE NEIGHBOUR: 'it returns false'. Refute it at one input. -/
def matchRunsWrong : ChangeSpec := { name := "matchRuns", fn := fun _ => fun
  | [d1, d2, d3] => { results := [.lit (.bool false)], args := [d1, d2, d3] }
  | _ => none }
def MatchRunsWrongFalsely : Prop := matchRunsRow.holds Try.pinned (OpenSpec.ofChange matchRunsWrong)

/-- 'portolanlaw05.MatchKnown': WHATEVER THE INPUT: true; the input reads as it did. -/
def matchKnownSpec : ChangeSpec := { name := "matchKnown", fn := fun _ => fun
  | [] => { results := [.lit (.bool true)], args := [] }
  | _ => none }
def matchKnownRow : OpenClaim := { program := "ytkgnihpcldgedaa", sum := "0b788eb70def43f34e1bc5b87a065f9c44f0139a8765d29c0baaf2803ebfa86e", func := "portolan/portolanlaw05.MatchKnown", spec := "matchKnown", inPlace := ["internal/bytealg.MakeNoZero"], unfollowed := true, recurses := true, plainKeys := false, apart := false }
def MatchKnownSaid : Prop := matchKnownRow.holds Try.pinned (OpenSpec.ofChange matchKnownSpec)

/-- ITS FALSE NEIGHBOUR: 'it returns false'. Refute it at one input. -/
def matchKnownWrong : ChangeSpec := { name := "matchKnown", fn := fun _ => fun
  | [] => { results := [.lit (.bool false)], args := [] }
  | _ => none }
def MatchKnownWrongFalsely : Prop := matchKnownRow.holds Try.pinned (OpenSpec.ofChange matchKnownWrong)

/-- 'portolanlaw04.HuffLengths': WHATEVER THE INPUT: true; the input reads as it did. -/
def huffLengthsSpec : ChangeSpec := { name := "huffLengths", fn := fun _ => fun
  | [d1, d2] => { results := [.lit (.bool true)], args := [d1, d2] }
  | _ => none }
def huffLengthsRow : OpenClaim := { program := "ytkgnihpcldgedaa", sum := "0b788eb70def43f34e1bc5b87a065f9c44f0139a8765d29c0baaf2803ebfa86e", func := "portolan/portolanlaw04.HuffLengths", spec := "huffLengths", unfollowed := true, recurses := true, plainKeys := false, apart := false }
def HuffLengthsSaid : Prop := huffLengthsRow.holds Try.pinned (OpenSpec.ofChange huffLengthsSpec)

/-- ITS FALSE NEIGHBOUR: 'it returns false'. Refute it at one input. -/
def huffLengthsWrong : ChangeSpec := { name := "huffLengths", fn := fun _ => fun
  | [d1, d2] => { results := [.lit (.bool false)], args := [d1, d2] }
  | _ => none }
def HuffLengthsWrongFalsely : Prop := huffLengthsRow.holds Try.pinned (OpenSpec.ofChange huffLengthsWrong)

/-- 'portolanlaw04.HuffLeast': WHATEVER THE INPUT: true; the input reads as it did. -/
def huffLeastSpec : ChangeSpec := { name := "huffLeast", fn := fun _ => fun
  | [d1, d2, d3] => { results := [.lit (.bool true)], args := [d1, d2, d3] }
  | _ => none }
def huffLeastRow : OpenClaim := { program := "ytkgnihpcldgedaa", sum := "0b788eb70def43f34e1bc5b87a065f9c44f0139a8765d29c0baaf2803ebfa86e", func := "portolan/portolanlaw04.HuffLeast", spec := "huffLeast", unfollowed := true, recurses := true, plainKeys := false, apart := false }
def HuffLeastSaid : Prop := huffLeastRow.holds Try.pinned (OpenSpec.ofChange huffLeastSpec)

/-- ITS FALSE NEIGHBOUR: 'it returns false'. Refute it at one input. -/
def huffLeastWrong : ChangeSpec := { name := "huffLeast", fn := fun _ => fun
  | [d1, d2, d3] => { results := [.lit (.bool false)], args := [d1, d2, d3] }
  | _ => none }
def HuffLeastWrongFalsely : Prop := huffLeastRow.holds Try.pinned (OpenSpec.ofChange huffLeastWrong)

/-- 'portolanlaw04.HuffFull': WHATEVER THE INPUT: true; the input reads as it did. -/
def huffFullSpec : ChangeSpec := { name := "huffFull", fn := fun _ => fun
  | [d1, d2] => { results := [.lit (.bool true)], args := [d1, d2] }
  | _ => none }
def huffFullRow : OpenClaim := { program := "ytkgnihpcldgedaa", sum := "0b788eb70def43f34e1bc5b87a065f9c44f0139a8765d29c0baaf2803ebfa86e", func := "portolan/portolanlaw04.HuffFull", spec := "huffFull", unfollowed := true, recurses := true, plainKeys := false, apart := false }
def HuffFullSaid : Prop := huffFullRow.holds Try.pinned (OpenSpec.ofChange huffFullSpec)

/-- ITS FALSE NEIGHBOUR: 'it returns false'. Refute it at one input. -/
def huffFullWrong : ChangeSpec := { name := "huffFull", fn := fun _ => fun
  | [d1, d2] => { results := [.lit (.bool false)], args := [d1, d2] }
  | _ => none }
def HuffFullWrongFalsely : Prop := huffFullRow.holds Try.pinned (OpenSpec.ofChange huffFullWrong)

/-- 'portolanlaw04.HuffReads': WHATEVER THE INPUT: true; the input reads as it did. -/
def huffReadsSpec : ChangeSpec := { name := "huffReads", fn := fun _ => fun
  | [d1, d2, d3, d4] => { results := [.lit (.bool true)], args := [d1, d2, d3, d4] }
  | _ => none }
def huffReadsRow : OpenClaim := { program := "ytkgnihpcldgedaa", sum := "0b788eb70def43f34e1bc5b87a065f9c44f0139a8765d29c0baaf2803ebfa86e", func := "portolan/portolanlaw04.HuffReads", spec := "huffReads", unfollowed := true, recurses := true, plainKeys := false, apart := false }
def HuffReadsSaid : Prop := huffReadsRow.holds Try.pinned (OpenSpec.ofChange huffReadsSpec)

/-- ITS FALSE NEIGHBOUR: 'it returns false'. Refute it at one input. -/
def huffReadsWrong : ChangeSpec := { name := "huffReads", fn := fun _ => fun
  | [d1, d2, d3, d4] => { results := [.lit (.bool false)], args := [d1, d2, d3, d4] }
  | _ => none }
def HuffReadsWrongFalsely : Prop := huffReadsRow.holds Try.pinned (OpenSpec.ofChange huffReadsWrong)

/-- 'portolanlaw04.HuffBack': WHATEVER THE INPUT: true; the input reads as it did. -/
def huffBackSpec : ChangeSpec := { name := "huffBack", fn := fun _ => fun
  | [d1, d2] => { results := [.lit (.bool true)], args := [d1, d2] }
  | _ => none }
def huffBackRow : OpenClaim := { program := "ytkgnihpcldgedaa", sum := "0b788eb70def43f34e1bc5b87a065f9c44f0139a8765d29c0baaf2803ebfa86e", func := "portolan/portolanlaw04.HuffBack", spec := "huffBack", unfollowed := true, recurses := true, plainKeys := false, apart := false }
def HuffBackSaid : Prop := huffBackRow.holds Try.pinned (OpenSpec.ofChange huffBackSpec)

/-- ITS FALSE NEIGHBOUR: 'it returns false'. Refute it at one input. -/
def huffBackWrong : ChangeSpec := { name := "huffBack", fn := fun _ => fun
  | [d1, d2] => { results := [.lit (.bool false)], args := [d1, d2] }
  | _ => none }
def HuffBackWrongFalsely : Prop := huffBackRow.holds Try.pinned (OpenSpec.ofChange huffBackWrong)

/-- 'portolanlaw04.HuffKnown': WHATEVER THE INPUT: true; the input reads as it did. -/
def huffKnownSpec : ChangeSpec := { name := "huffKnown", fn := fun _ => fun
  | [] => { results := [.lit (.bool true)], args := [] }
  | _ => none }
def huffKnownRow : OpenClaim := { program := "ytkgnihpcldgedaa", sum := "0b788eb70def43f34e1bc5b87a065f9c44f0139a8765d29c0baaf2803ebfa86e", func := "portolan/portolanlaw04.HuffKnown", spec := "huffKnown", unfollowed := true, recurses := true, plainKeys := false, apart := false }
def HuffKnownSaid : Prop := huffKnownRow.holds Try.pinned (OpenSpec.ofChange huffKnownSpec)

/-- ITS FALSE NEIGHBOUR: 'it returns false'. Refute it at one input. -/
def huffKnownWrong : ChangeSpec := { name := "huffKnown", fn := fun _ => fun
  | [] => { results := [.lit (.bool false)], args := [] }
  | _ => none }
def HuffKnownWrongFalsely : Prop := huffKnownRow.holds Try.pinned (OpenSpec.ofChange huffKnownWrong)

/- THE SECOND FORM. 'bulk': how many values and letters a reading holds, each counted each time it is reached (what is shared counts as often as it is met; a slice's spare places count too). A statement '..UptoSaid' is the law's where the arguments, and the package variables that the reading takes, are together of bulk at most 1048576: NARROWER than '..Said'. Prove '..Said' where nothing that the law and all that it calls make is longer than what came in: it says more and counts as full. Else prove '..UptoSaid'. A law counts once. -/
mutual
def uptoBulk {H : Type} : DataW H → Nat
  | .lit (.string bytes) => bytes.length + 1
  | .lit _ => 1
  | .nil => 1
  | .ptr d => uptoBulk d + 1
  | .slice elems spare => uptoBulkAll elems + uptoBulkAll spare + 1
  | .agg parts => uptoBulkAll parts + 1
  | .iface _ d => uptoBulk d + 1
  | .map entries => uptoBulkEntries entries + 1
  | .held _ => 1
def uptoBulkAll {H : Type} : List (DataW H) → Nat
  | [] => 0
  | d :: r => uptoBulk d + uptoBulkAll r
def uptoBulkEntries {H : Type} : List (Lit × DataW H) → Nat
  | [] => 0
  | x :: r => uptoBulkEntry x + uptoBulkEntries r
def uptoBulkEntry {H : Type} : Lit × DataW H → Nat
  | (.string bytes, d) => bytes.length + uptoBulk d + 1
  | (_, d) => uptoBulk d + 1
 end
def uptoSmall : (H : Type) → List (DataW H) → Bool := fun _ ds => decide (uptoBulkAll ds ≤ 1048576)
def OpenSpec.upto (s : _root_.Go.ChangeSpec) : _root_.Go.OpenSpec := { _root_.Go.OpenSpec.ofChange s with cond := some uptoSmall }

/-- 'portolanlaw05.MatchMore', WHERE WHAT IT READS IS OF BULK AT MOST 1048576: true; the input reads as it did. -/
def matchMoreUptoRow : OpenClaim := { program := "ytkgnihpcldgedaa", sum := "0b788eb70def43f34e1bc5b87a065f9c44f0139a8765d29c0baaf2803ebfa86e", func := "portolan/portolanlaw05.MatchMore", spec := "matchMore", unfollowed := true, recurses := true, plainKeys := false, apart := false, narrowed := true }
def MatchMoreUptoSaid : Prop := matchMoreUptoRow.holds Try.pinned (OpenSpec.upto matchMoreSpec)

/-- 'portolanlaw05.MatchCuts', WHERE WHAT IT READS IS OF BULK AT MOST 1048576: true; the input reads as it did. -/
def matchCutsUptoRow : OpenClaim := { program := "ytkgnihpcldgedaa", sum := "0b788eb70def43f34e1bc5b87a065f9c44f0139a8765d29c0baaf2803ebfa86e", func := "portolan/portolanlaw05.MatchCuts", spec := "matchCuts", unfollowed := true, recurses := true, plainKeys := false, apart := false, narrowed := true }
def MatchCutsUptoSaid : Prop := matchCutsUptoRow.holds Try.pinned (OpenSpec.upto matchCutsSpec)

/-- 'portolanlaw05.MatchBack', WHERE WHAT IT READS IS OF BULK AT MOST 1048576: true; the input reads as it did. -/
def matchBackUptoRow : OpenClaim := { program := "ytkgnihpcldgedaa", sum := "0b788eb70def43f34e1bc5b87a065f9c44f0139a8765d29c0baaf2803ebfa86e", func := "portolan/portolanlaw05.MatchBack", spec := "matchBack", unfollowed := true, recurses := true, plainKeys := false, apart := false, narrowed := true }
def MatchBackUptoSaid : Prop := matchBackUptoRow.holds Try.pinned (OpenSpec.upto matchBackSpec)

/-- 'portolanlaw03.BitsTurned', WHERE WHAT IT READS IS OF BULK AT MOST 1048576: true; the input reads as it did. -/
def bitsTurnedUptoRow : OpenClaim := { program := "ytkgnihpcldgedaa", sum := "0b788eb70def43f34e1bc5b87a065f9c44f0139a8765d29c0baaf2803ebfa86e", func := "portolan/portolanlaw03.BitsTurned", spec := "bitsTurned", unfollowed := true, recurses := true, plainKeys := false, apart := false, narrowed := true }
def BitsTurnedUptoSaid : Prop := bitsTurnedUptoRow.holds Try.pinned (OpenSpec.upto bitsTurnedSpec)

/-- 'portolanlaw03.BitsShort', WHERE WHAT IT READS IS OF BULK AT MOST 1048576: true; the input reads as it did. -/
def bitsShortUptoRow : OpenClaim := { program := "ytkgnihpcldgedaa", sum := "0b788eb70def43f34e1bc5b87a065f9c44f0139a8765d29c0baaf2803ebfa86e", func := "portolan/portolanlaw03.BitsShort", spec := "bitsShort", unfollowed := true, recurses := true, plainKeys := false, apart := false, narrowed := true }
def BitsShortUptoSaid : Prop := bitsShortUptoRow.holds Try.pinned (OpenSpec.upto bitsShortSpec)

/-- 'portolanlaw03.BitsWrites', WHERE WHAT IT READS IS OF BULK AT MOST 1048576: true; the input reads as it did. -/
def bitsWritesUptoRow : OpenClaim := { program := "ytkgnihpcldgedaa", sum := "0b788eb70def43f34e1bc5b87a065f9c44f0139a8765d29c0baaf2803ebfa86e", func := "portolan/portolanlaw03.BitsWrites", spec := "bitsWrites", unfollowed := true, recurses := true, plainKeys := false, apart := false, narrowed := true }
def BitsWritesUptoSaid : Prop := bitsWritesUptoRow.holds Try.pinned (OpenSpec.upto bitsWritesSpec)

/-- 'portolanlaw03.BitsReads', WHERE WHAT IT READS IS OF BULK AT MOST 1048576: true; the input reads as it did. -/
def bitsReadsUptoRow : OpenClaim := { program := "ytkgnihpcldgedaa", sum := "0b788eb70def43f34e1bc5b87a065f9c44f0139a8765d29c0baaf2803ebfa86e", func := "portolan/portolanlaw03.BitsReads", spec := "bitsReads", unfollowed := true, recurses := true, plainKeys := false, apart := false, narrowed := true }
def BitsReadsUptoSaid : Prop := bitsReadsUptoRow.holds Try.pinned (OpenSpec.upto bitsReadsSpec)

/-- 'portolanlaw03.BitsBack', WHERE WHAT IT READS IS OF BULK AT MOST 1048576: true; the input reads as it did. -/
def bitsBackUptoRow : OpenClaim := { program := "ytkgnihpcldgedaa", sum := "0b788eb70def43f34e1bc5b87a065f9c44f0139a8765d29c0baaf2803ebfa86e", func := "portolan/portolanlaw03.BitsBack", spec := "bitsBack", unfollowed := true, recurses := true, plainKeys := false, apart := false, narrowed := true }
def BitsBackUptoSaid : Prop := bitsBackUptoRow.holds Try.pinned (OpenSpec.upto bitsBackSpec)

/-- 'portolanlaw03.BitsKnown', WHERE WHAT IT READS IS OF BULK AT MOST 1048576: true; the input reads as it did. -/
def bitsKnownUptoRow : OpenClaim := { program := "ytkgnihpcldgedaa", sum := "0b788eb70def43f34e1bc5b87a065f9c44f0139a8765d29c0baaf2803ebfa86e", func := "portolan/portolanlaw03.BitsKnown", spec := "bitsKnown", unfollowed := true, recurses := true, plainKeys := false, apart := false, narrowed := true }
def BitsKnownUptoSaid : Prop := bitsKnownUptoRow.holds Try.pinned (OpenSpec.upto bitsKnownSpec)

/-- 'portolanlaw05.MatchRuns', WHERE WHAT IT READS IS OF BULK AT MOST 1048576: true; the input reads as it did. -/
def matchRunsUptoRow : OpenClaim := { program := "ytkgnihpcldgedaa", sum := "0b788eb70def43f34e1bc5b87a065f9c44f0139a8765d29c0baaf2803ebfa86e", func := "portolan/portolanlaw05.MatchRuns", spec := "matchRuns", inPlace := ["internal/bytealg.MakeNoZero"], unfollowed := true, recurses := true, plainKeys := false, apart := false, narrowed := true }
def MatchRunsUptoSaid : Prop := matchRunsUptoRow.holds Try.pinned (OpenSpec.upto matchRunsSpec)

/-- 'portolanlaw05.MatchKnown', WHERE WHAT IT READS IS OF BULK AT MOST 1048576: true; the input reads as it did. -/
def matchKnownUptoRow : OpenClaim := { program := "ytkgnihpcldgedaa", sum := "0b788eb70def43f34e1bc5b87a065f9c44f0139a8765d29c0baaf2803ebfa86e", func := "portolan/portolanlaw05.MatchKnown", spec := "matchKnown", inPlace := ["internal/bytealg.MakeNoZero"], unfollowed := true, recurses := true, plainKeys := false, apart := false, narrowed := true }
def MatchKnownUptoSaid : Prop := matchKnownUptoRow.holds Try.pinned (OpenSpec.upto matchKnownSpec)

/-- 'portolanlaw04.HuffLengths', WHERE WHAT IT READS IS OF BULK AT MOST 1048576: true; the input reads as it did. -/
def huffLengthsUptoRow : OpenClaim := { program := "ytkgnihpcldgedaa", sum := "0b788eb70def43f34e1bc5b87a065f9c44f0139a8765d29c0baaf2803ebfa86e", func := "portolan/portolanlaw04.HuffLengths", spec := "huffLengths", unfollowed := true, recurses := true, plainKeys := false, apart := false, narrowed := true }
def HuffLengthsUptoSaid : Prop := huffLengthsUptoRow.holds Try.pinned (OpenSpec.upto huffLengthsSpec)

/-- 'portolanlaw04.HuffLeast', WHERE WHAT IT READS IS OF BULK AT MOST 1048576: true; the input reads as it did. -/
def huffLeastUptoRow : OpenClaim := { program := "ytkgnihpcldgedaa", sum := "0b788eb70def43f34e1bc5b87a065f9c44f0139a8765d29c0baaf2803ebfa86e", func := "portolan/portolanlaw04.HuffLeast", spec := "huffLeast", unfollowed := true, recurses := true, plainKeys := false, apart := false, narrowed := true }
def HuffLeastUptoSaid : Prop := huffLeastUptoRow.holds Try.pinned (OpenSpec.upto huffLeastSpec)

/-- 'portolanlaw04.HuffFull', WHERE WHAT IT READS IS OF BULK AT MOST 1048576: true; the input reads as it did. -/
def huffFullUptoRow : OpenClaim := { program := "ytkgnihpcldgedaa", sum := "0b788eb70def43f34e1bc5b87a065f9c44f0139a8765d29c0baaf2803ebfa86e", func := "portolan/portolanlaw04.HuffFull", spec := "huffFull", unfollowed := true, recurses := true, plainKeys := false, apart := false, narrowed := true }
def HuffFullUptoSaid : Prop := huffFullUptoRow.holds Try.pinned (OpenSpec.upto huffFullSpec)

/-- 'portolanlaw04.HuffReads', WHERE WHAT IT READS IS OF BULK AT MOST 1048576: true; the input reads as it did. -/
def huffReadsUptoRow : OpenClaim := { program := "ytkgnihpcldgedaa", sum := "0b788eb70def43f34e1bc5b87a065f9c44f0139a8765d29c0baaf2803ebfa86e", func := "portolan/portolanlaw04.HuffReads", spec := "huffReads", unfollowed := true, recurses := true, plainKeys := false, apart := false, narrowed := true }
def HuffReadsUptoSaid : Prop := huffReadsUptoRow.holds Try.pinned (OpenSpec.upto huffReadsSpec)

/-- 'portolanlaw04.HuffBack', WHERE WHAT IT READS IS OF BULK AT MOST 1048576: true; the input reads as it did. -/
def huffBackUptoRow : OpenClaim := { program := "ytkgnihpcldgedaa", sum := "0b788eb70def43f34e1bc5b87a065f9c44f0139a8765d29c0baaf2803ebfa86e", func := "portolan/portolanlaw04.HuffBack", spec := "huffBack", unfollowed := true, recurses := true, plainKeys := false, apart := false, narrowed := true }
def HuffBackUptoSaid : Prop := huffBackUptoRow.holds Try.pinned (OpenSpec.upto huffBackSpec)

/-- 'portolanlaw04.HuffKnown', WHERE WHAT IT READS IS OF BULK AT MOST 1048576: true; the input reads as it did. -/
def huffKnownUptoRow : OpenClaim := { program := "ytkgnihpcldgedaa", sum := "0b788eb70def43f34e1bc5b87a065f9c44f0139a8765d29c0baaf2803ebfa86e", func := "portolan/portolanlaw04.HuffKnown", spec := "huffKnown", unfollowed := true, recurses := true, plainKeys := false, apart := false, narrowed := true }
def HuffKnownUptoSaid : Prop := huffKnownUptoRow.holds Try.pinned (OpenSpec.upto huffKnownSpec)

end Rows
end Go.Proofs.Ytkgnihpcldgedaa
