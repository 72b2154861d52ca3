/- A law's walk by pieces, as its statement asks it. -/
import Derived.Test.YtdlbhoedmaifpaaSep
namespace Go.Proofs.Ytdlbhoedmaifpaa
open Go.RowKit
theorem law_end {P : Program} {f : FuncId} {args : Array Value} {w : World} (h : Calls P f args w fun e w' => e = .returned (.bool true) ∧ Sp w [Same w] w') :
    Calls P f args w fun e w' => e = .returned (.bool true) ∧ Below w.heap.size w w' := h.mono fun _ _ k => ⟨k.1, k.2.below 0 rfl⟩
end Go.Proofs.Ytdlbhoedmaifpaa
