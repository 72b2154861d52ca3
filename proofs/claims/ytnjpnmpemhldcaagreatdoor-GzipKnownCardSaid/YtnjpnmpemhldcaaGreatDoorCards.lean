/-
  DERIVED. GIVEN WITH THE SEED: THE CARDS: each row of YtnjpnmpemhldcaaGreatDoorRows.lean that lists a variable, with what it lists TIED to the program's text (the seventh form; the later family's looks); each row that meets fmt, with fmt's text TOLD by the authors' own Lean function (tested against real Go, not proved from fmt's source: count such statements apart). THE CARD IS WHAT COUNTS. Prove the row's statement (the work); the ties are given (YtnjpnmpemhldcaaGreatDoorTie.lean); close each card by the builder's one call (the guide's Derived/Test/ToyasCard.lean, 'card_holds'). Laid BY PROGRAM, IN A SANDBOX (cutbox-door.mjs). By AI agents, Wed Nov 11 2026. No macro, syntax, notation, axiom, sorry.
-/
import Derived.Test.YtnjpnmpemhldcaaGreatDoorRows
import GoSem.ClaimSeven
namespace Go.Proofs.YtnjpnmpemhldcaaGreatDoor
namespace Rows

/-- THE TIED CARD OF 'portolanlaw08.GzipBack'. -/
def gzipBackCard : Claim7 := { stood := { row := gzipBackRow, standIns := [], harness := (true, "9ad7281e7110ef5d2c0524746f9211e8c6f525f031413f5546ca3d79be6bd6a8"), looks := true }, kinds := [], alts := [], laidByText := true, laidKinds := [.data, .widerDeep, .widerDeep, .widerDeep, .widerDeep, .widerDeep, .widerDeep], laidTests := true, laidLooks := .later }
def GzipBackCardSaid : Prop := Claim7.holds Tryz.pinned (.plain (OpenSpec.ofChange gzipBackSpec)) gzipBackCard

/-- THE TIED CARD OF 'portolanlaw08.GzipKnown'. -/
def gzipKnownCard : Claim7 := { stood := { row := gzipKnownRow, standIns := [], harness := (true, "9ad7281e7110ef5d2c0524746f9211e8c6f525f031413f5546ca3d79be6bd6a8"), looks := true }, kinds := [], alts := [], laidByText := true, laidKinds := [.data, .widerDeep, .widerDeep, .widerDeep, .widerDeep, .widerDeep, .widerDeep], laidTests := true, laidLooks := .later }
def GzipKnownCardSaid : Prop := Claim7.holds Tryz.pinned (.plain (OpenSpec.ofChange gzipKnownSpec)) gzipKnownCard

/-- THE TIED CARD OF 'portolanlaw07.DeflateSteps'. -/
def deflateStepsCard : Claim7 := { stood := { row := deflateStepsRow, standIns := [], harness := (true, "9ad7281e7110ef5d2c0524746f9211e8c6f525f031413f5546ca3d79be6bd6a8"), looks := true }, kinds := [], alts := [], laidByText := true, laidKinds := [.widerDeep, .widerDeep, .widerDeep], laidTests := true, laidLooks := .later }
def DeflateStepsCardSaid : Prop := Claim7.holds Tryz.pinned (.plain (OpenSpec.ofChange deflateStepsSpec)) deflateStepsCard

/-- THE TIED CARD OF 'portolanlaw08.GzipPuts'. -/
def gzipPutsCard : Claim7 := { stood := { row := gzipPutsRow, standIns := [], harness := (true, "9ad7281e7110ef5d2c0524746f9211e8c6f525f031413f5546ca3d79be6bd6a8"), looks := true }, kinds := [], alts := [], laidByText := true, laidKinds := [.data, .widerDeep, .widerDeep, .widerDeep, .widerDeep, .widerDeep, .widerDeep], laidTests := true, laidLooks := .later }
def GzipPutsCardSaid : Prop := Claim7.holds Tryz.pinned (.plain (OpenSpec.ofChange gzipPutsSpec)) gzipPutsCard

/-- THE TIED CARD OF 'portolanlaw08.GzipChanged'. -/
def gzipChangedCard : Claim7 := { stood := { row := gzipChangedRow, standIns := [], harness := (true, "9ad7281e7110ef5d2c0524746f9211e8c6f525f031413f5546ca3d79be6bd6a8"), looks := true }, kinds := [], alts := [], laidByText := true, laidKinds := [.data, .widerDeep, .widerDeep, .widerDeep, .widerDeep, .widerDeep, .widerDeep], laidTests := true, laidLooks := .later }
def GzipChangedCardSaid : Prop := Claim7.holds Tryz.pinned (.plain (OpenSpec.ofChange gzipChangedSpec)) gzipChangedCard

/-- THE SECOND FORM's CARD OF 'portolanlaw08.GzipBack'. -/
def gzipBackUptoCard : Claim7 := { stood := { row := gzipBackUptoRow, standIns := [], harness := (true, "9ad7281e7110ef5d2c0524746f9211e8c6f525f031413f5546ca3d79be6bd6a8"), looks := true }, kinds := [], alts := [], laidByText := true, laidKinds := [.data, .widerDeep, .widerDeep, .widerDeep, .widerDeep, .widerDeep, .widerDeep], laidTests := true, laidLooks := .later }
def GzipBackUptoCardSaid : Prop := Claim7.holds Tryz.pinned (.plain (OpenSpec.upto gzipBackSpec)) gzipBackUptoCard

/-- THE SECOND FORM's CARD OF 'portolanlaw08.GzipKnown'. -/
def gzipKnownUptoCard : Claim7 := { stood := { row := gzipKnownUptoRow, standIns := [], harness := (true, "9ad7281e7110ef5d2c0524746f9211e8c6f525f031413f5546ca3d79be6bd6a8"), looks := true }, kinds := [], alts := [], laidByText := true, laidKinds := [.data, .widerDeep, .widerDeep, .widerDeep, .widerDeep, .widerDeep, .widerDeep], laidTests := true, laidLooks := .later }
def GzipKnownUptoCardSaid : Prop := Claim7.holds Tryz.pinned (.plain (OpenSpec.upto gzipKnownSpec)) gzipKnownUptoCard

/-- THE SECOND FORM's CARD OF 'portolanlaw07.DeflateSteps'. -/
def deflateStepsUptoCard : Claim7 := { stood := { row := deflateStepsUptoRow, standIns := [], harness := (true, "9ad7281e7110ef5d2c0524746f9211e8c6f525f031413f5546ca3d79be6bd6a8"), looks := true }, kinds := [], alts := [], laidByText := true, laidKinds := [.widerDeep, .widerDeep, .widerDeep], laidTests := true, laidLooks := .later }
def DeflateStepsUptoCardSaid : Prop := Claim7.holds Tryz.pinned (.plain (OpenSpec.upto deflateStepsSpec)) deflateStepsUptoCard

/-- THE SECOND FORM's CARD OF 'portolanlaw08.GzipPuts'. -/
def gzipPutsUptoCard : Claim7 := { stood := { row := gzipPutsUptoRow, standIns := [], harness := (true, "9ad7281e7110ef5d2c0524746f9211e8c6f525f031413f5546ca3d79be6bd6a8"), looks := true }, kinds := [], alts := [], laidByText := true, laidKinds := [.data, .widerDeep, .widerDeep, .widerDeep, .widerDeep, .widerDeep, .widerDeep], laidTests := true, laidLooks := .later }
def GzipPutsUptoCardSaid : Prop := Claim7.holds Tryz.pinned (.plain (OpenSpec.upto gzipPutsSpec)) gzipPutsUptoCard

/-- THE SECOND FORM's CARD OF 'portolanlaw08.GzipChanged'. -/
def gzipChangedUptoCard : Claim7 := { stood := { row := gzipChangedUptoRow, standIns := [], harness := (true, "9ad7281e7110ef5d2c0524746f9211e8c6f525f031413f5546ca3d79be6bd6a8"), looks := true }, kinds := [], alts := [], laidByText := true, laidKinds := [.data, .widerDeep, .widerDeep, .widerDeep, .widerDeep, .widerDeep, .widerDeep], laidTests := true, laidLooks := .later }
def GzipChangedUptoCardSaid : Prop := Claim7.holds Tryz.pinned (.plain (OpenSpec.upto gzipChangedSpec)) gzipChangedUptoCard
end Rows
end Go.Proofs.YtnjpnmpemhldcaaGreatDoor
