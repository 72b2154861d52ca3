/-
  DERIVED. GIVEN WITH THE SEED: THE CARDS: each row of YteajimobgkempaaGreatDoorRows.lean that lists a variable, with what it lists TIED to the program's text (the seventh form; the later family's looks); each row that meets fmt, with fmt's text TOLD by the authors' own Lean function (tested against real Go, not proved from fmt's source: count such statements apart). THE CARD IS WHAT COUNTS. Prove the row's statement (the work); the ties are given (YteajimobgkempaaGreatDoorTie.lean); close each card by the builder's one call (the guide's Derived/Test/ToyasCard.lean, 'card_holds'). Laid BY PROGRAM, IN A SANDBOX (cutbox-door.mjs). By AI agents, Wed Nov 11 2026. No macro, syntax, notation, axiom, sorry.
-/
import Derived.Test.YteajimobgkempaaGreatDoorRows
import GoSem.ClaimSeven
namespace Go.Proofs.YteajimobgkempaaGreatDoor
namespace Rows

/-- THE TIED CARD OF 'portolanlaw07.DeflateSteps'. -/
def deflateStepsCard : Claim7 := { stood := { row := deflateStepsRow, standIns := [], harness := (true, "27d53ff23e47aaac682ee40bd73e2114f13cbc7bd62e7df6e02bbdd7d79aa937"), looks := true }, kinds := [], alts := [], laidByText := true, laidKinds := [.widerDeep, .widerDeep, .widerDeep], laidTests := true, laidLooks := .later }
def DeflateStepsCardSaid : Prop := Claim7.holds Tryz.pinned (.plain (OpenSpec.ofChange deflateStepsSpec)) deflateStepsCard

/-- THE TIED CARD OF 'portolanlaw08.GzipPuts'. -/
def gzipPutsCard : Claim7 := { stood := { row := gzipPutsRow, standIns := [], harness := (true, "27d53ff23e47aaac682ee40bd73e2114f13cbc7bd62e7df6e02bbdd7d79aa937"), looks := true }, kinds := [], alts := [], laidByText := true, laidKinds := [.data, .widerDeep, .widerDeep, .widerDeep, .widerDeep, .widerDeep, .widerDeep], laidTests := true, laidLooks := .later }
def GzipPutsCardSaid : Prop := Claim7.holds Tryz.pinned (.plain (OpenSpec.ofChange gzipPutsSpec)) gzipPutsCard

/-- THE SECOND FORM's CARD OF 'portolanlaw07.DeflateSteps'. -/
def deflateStepsUptoCard : Claim7 := { stood := { row := deflateStepsUptoRow, standIns := [], harness := (true, "27d53ff23e47aaac682ee40bd73e2114f13cbc7bd62e7df6e02bbdd7d79aa937"), looks := true }, kinds := [], alts := [], laidByText := true, laidKinds := [.widerDeep, .widerDeep, .widerDeep], laidTests := true, laidLooks := .later }
def DeflateStepsUptoCardSaid : Prop := Claim7.holds Tryz.pinned (.plain (OpenSpec.upto deflateStepsSpec)) deflateStepsUptoCard

/-- THE SECOND FORM's CARD OF 'portolanlaw08.GzipPuts'. -/
def gzipPutsUptoCard : Claim7 := { stood := { row := gzipPutsUptoRow, standIns := [], harness := (true, "27d53ff23e47aaac682ee40bd73e2114f13cbc7bd62e7df6e02bbdd7d79aa937"), looks := true }, kinds := [], alts := [], laidByText := true, laidKinds := [.data, .widerDeep, .widerDeep, .widerDeep, .widerDeep, .widerDeep, .widerDeep], laidTests := true, laidLooks := .later }
def GzipPutsUptoCardSaid : Prop := Claim7.holds Tryz.pinned (.plain (OpenSpec.upto gzipPutsSpec)) gzipPutsUptoCard
end Rows
end Go.Proofs.YteajimobgkempaaGreatDoor
