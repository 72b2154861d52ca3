/-
  DERIVED. GIVEN WITH THE SEED: THE CARDS: each row of YtloijdbkikccgaaDoorRows.lean that lists a variable, with what it lists TIED to the program's text (the seventh form; the later family's looks); each row that meets fmt, with fmt's text TOLD by the authors' own Lean function (tested against real Go, not proved from fmt's source: count such statements apart). THE CARD IS WHAT COUNTS. Prove the row's statement (the work); the ties are given (YtloijdbkikccgaaDoorTie.lean); close each card by the builder's one call (the guide's Derived/Test/ToyasCard.lean, 'card_holds'). Laid BY PROGRAM, IN A SANDBOX (cutbox-door.mjs). By AI agents, Wed Nov 11 2026. No macro, syntax, notation, axiom, sorry.
-/
import Derived.Test.YtloijdbkikccgaaDoorRows
import GoSem.ClaimSeven
namespace Go.Proofs.YtloijdbkikccgaaDoor
namespace Rows

/-- THE TIED CARD OF 'portolanlaw06.InflateWrites'. -/
def inflateWritesCard : Claim7 := { stood := { row := inflateWritesRow, standIns := [], harness := (true, "955181fd022f233822cdebfd449e0f4a7fccb7a58148b24261a915bcd7dd2d10"), looks := true }, kinds := [], alts := [], laidByText := true, laidKinds := [.widerDeep, .widerDeep, .widerDeep], laidTests := true, laidLooks := .later }
def InflateWritesCardSaid : Prop := Claim7.holds Tryd.pinned (.plain (OpenSpec.ofChange inflateWritesSpec)) inflateWritesCard

/-- THE TIED CARD OF 'portolanlaw07.DeflateBytes'. -/
def deflateBytesCard : Claim7 := { stood := { row := deflateBytesRow, standIns := [], harness := (true, "955181fd022f233822cdebfd449e0f4a7fccb7a58148b24261a915bcd7dd2d10"), looks := true }, kinds := [], alts := [], laidByText := true, laidKinds := [.widerDeep, .widerDeep, .widerDeep], laidTests := true, laidLooks := .later }
def DeflateBytesCardSaid : Prop := Claim7.holds Tryd.pinned (.plain (OpenSpec.ofChange deflateBytesSpec)) deflateBytesCard

/-- THE TIED CARD OF 'portolanlaw07.DeflateSigns'. -/
def deflateSignsCard : Claim7 := { stood := { row := deflateSignsRow, standIns := [], harness := (true, "955181fd022f233822cdebfd449e0f4a7fccb7a58148b24261a915bcd7dd2d10"), looks := true }, kinds := [], alts := [], laidByText := true, laidKinds := [.widerDeep, .widerDeep, .widerDeep], laidTests := true, laidLooks := .later }
def DeflateSignsCardSaid : Prop := Claim7.holds Tryd.pinned (.plain (OpenSpec.ofChange deflateSignsSpec)) deflateSignsCard

/-- THE TIED CARD OF 'portolanlaw07.DeflateBack'. -/
def deflateBackCard : Claim7 := { stood := { row := deflateBackRow, standIns := [], harness := (true, "955181fd022f233822cdebfd449e0f4a7fccb7a58148b24261a915bcd7dd2d10"), looks := true }, kinds := [], alts := [], laidByText := true, laidKinds := [.widerDeep, .widerDeep, .widerDeep, .widerDeep, .widerDeep, .widerDeep], laidTests := true, laidLooks := .later }
def DeflateBackCardSaid : Prop := Claim7.holds Tryd.pinned (.plain (OpenSpec.ofChange deflateBackSpec)) deflateBackCard

/-- THE SECOND FORM's CARD OF 'portolanlaw06.InflateWrites'. -/
def inflateWritesUptoCard : Claim7 := { stood := { row := inflateWritesUptoRow, standIns := [], harness := (true, "955181fd022f233822cdebfd449e0f4a7fccb7a58148b24261a915bcd7dd2d10"), looks := true }, kinds := [], alts := [], laidByText := true, laidKinds := [.widerDeep, .widerDeep, .widerDeep], laidTests := true, laidLooks := .later }
def InflateWritesUptoCardSaid : Prop := Claim7.holds Tryd.pinned (.plain (OpenSpec.upto inflateWritesSpec)) inflateWritesUptoCard

/-- THE SECOND FORM's CARD OF 'portolanlaw07.DeflateBytes'. -/
def deflateBytesUptoCard : Claim7 := { stood := { row := deflateBytesUptoRow, standIns := [], harness := (true, "955181fd022f233822cdebfd449e0f4a7fccb7a58148b24261a915bcd7dd2d10"), looks := true }, kinds := [], alts := [], laidByText := true, laidKinds := [.widerDeep, .widerDeep, .widerDeep], laidTests := true, laidLooks := .later }
def DeflateBytesUptoCardSaid : Prop := Claim7.holds Tryd.pinned (.plain (OpenSpec.upto deflateBytesSpec)) deflateBytesUptoCard

/-- THE SECOND FORM's CARD OF 'portolanlaw07.DeflateSigns'. -/
def deflateSignsUptoCard : Claim7 := { stood := { row := deflateSignsUptoRow, standIns := [], harness := (true, "955181fd022f233822cdebfd449e0f4a7fccb7a58148b24261a915bcd7dd2d10"), looks := true }, kinds := [], alts := [], laidByText := true, laidKinds := [.widerDeep, .widerDeep, .widerDeep], laidTests := true, laidLooks := .later }
def DeflateSignsUptoCardSaid : Prop := Claim7.holds Tryd.pinned (.plain (OpenSpec.upto deflateSignsSpec)) deflateSignsUptoCard

/-- THE SECOND FORM's CARD OF 'portolanlaw07.DeflateBack'. -/
def deflateBackUptoCard : Claim7 := { stood := { row := deflateBackUptoRow, standIns := [], harness := (true, "955181fd022f233822cdebfd449e0f4a7fccb7a58148b24261a915bcd7dd2d10"), looks := true }, kinds := [], alts := [], laidByText := true, laidKinds := [.widerDeep, .widerDeep, .widerDeep, .widerDeep, .widerDeep, .widerDeep], laidTests := true, laidLooks := .later }
def DeflateBackUptoCardSaid : Prop := Claim7.holds Tryd.pinned (.plain (OpenSpec.upto deflateBackSpec)) deflateBackUptoCard
end Rows
end Go.Proofs.YtloijdbkikccgaaDoor
