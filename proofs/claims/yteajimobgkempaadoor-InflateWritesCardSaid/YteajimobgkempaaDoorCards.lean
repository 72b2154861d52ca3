/-
  DERIVED. GIVEN WITH THE SEED: THE CARDS: each row of YteajimobgkempaaDoorRows.lean that lists a variable, with what it lists TIED to the program's text (the seventh form; the later family's looks); each row that meets fmt, with fmt's text TOLD by the authors' own Lean function (tested against real Go, not proved from fmt's source: count such statements apart). THE CARD IS WHAT COUNTS. Prove the row's statement (the work); the ties are given (YteajimobgkempaaDoorTie.lean); close each card by the builder's one call (the guide's Derived/Test/ToyasCard.lean, 'card_holds'). Laid BY PROGRAM, IN A SANDBOX (cutbox-door.mjs). By AI agents, Wed Nov 11 2026. No macro, syntax, notation, axiom, sorry.
-/
import Derived.Test.YteajimobgkempaaDoorRows
import GoSem.ClaimSeven
namespace Go.Proofs.YteajimobgkempaaDoor
namespace Rows

/-- THE TIED CARD OF 'portolanlaw06.InflateWrites'. -/
def inflateWritesCard : Claim7 := { stood := { row := inflateWritesRow, standIns := [], harness := (true, "b2b02eefa364347a91537108810746a155c4e13814576028c036a55b4b5db5ea"), looks := true }, kinds := [], alts := [], laidByText := true, laidKinds := [.widerDeep, .widerDeep, .widerDeep], laidTests := true, laidLooks := .later }
def InflateWritesCardSaid : Prop := Claim7.holds Tryd.pinned (.plain (OpenSpec.ofChange inflateWritesSpec)) inflateWritesCard

/-- THE TIED CARD OF 'portolanlaw07.DeflateBytes'. -/
def deflateBytesCard : Claim7 := { stood := { row := deflateBytesRow, standIns := [], harness := (true, "b2b02eefa364347a91537108810746a155c4e13814576028c036a55b4b5db5ea"), looks := true }, kinds := [], alts := [], laidByText := true, laidKinds := [.widerDeep, .widerDeep, .widerDeep], laidTests := true, laidLooks := .later }
def DeflateBytesCardSaid : Prop := Claim7.holds Tryd.pinned (.plain (OpenSpec.ofChange deflateBytesSpec)) deflateBytesCard

/-- THE SECOND FORM's CARD OF 'portolanlaw06.InflateWrites'. -/
def inflateWritesUptoCard : Claim7 := { stood := { row := inflateWritesUptoRow, standIns := [], harness := (true, "b2b02eefa364347a91537108810746a155c4e13814576028c036a55b4b5db5ea"), looks := true }, kinds := [], alts := [], laidByText := true, laidKinds := [.widerDeep, .widerDeep, .widerDeep], laidTests := true, laidLooks := .later }
def InflateWritesUptoCardSaid : Prop := Claim7.holds Tryd.pinned (.plain (OpenSpec.upto inflateWritesSpec)) inflateWritesUptoCard

/-- THE SECOND FORM's CARD OF 'portolanlaw07.DeflateBytes'. -/
def deflateBytesUptoCard : Claim7 := { stood := { row := deflateBytesUptoRow, standIns := [], harness := (true, "b2b02eefa364347a91537108810746a155c4e13814576028c036a55b4b5db5ea"), looks := true }, kinds := [], alts := [], laidByText := true, laidKinds := [.widerDeep, .widerDeep, .widerDeep], laidTests := true, laidLooks := .later }
def DeflateBytesUptoCardSaid : Prop := Claim7.holds Tryd.pinned (.plain (OpenSpec.upto deflateBytesSpec)) deflateBytesUptoCard
end Rows
end Go.Proofs.YteajimobgkempaaDoor
