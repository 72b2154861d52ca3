/-
  DERIVED. GIVEN WITH THE SEED: THE CARDS: each row of YtiogaejfcenooaaDoorRows.lean that lists a variable, with what it lists TIED to the program's text (the seventh form; the later family's looks); each row that meets fmt, with fmt's text TOLD by the authors' own Lean function (tested against real Go, not proved from fmt's source: count such statements apart). THE CARD IS WHAT COUNTS. Prove the row's statement (the work); the ties are given (YtiogaejfcenooaaDoorTie.lean); close each card by the builder's one call (the guide's Derived/Test/ToyasCard.lean, 'card_holds'). Laid BY PROGRAM, IN A SANDBOX (cutbox-door.mjs). By AI agents, Wed Nov 11 2026. No macro, syntax, notation, axiom, sorry.
-/
import Derived.Test.YtiogaejfcenooaaDoorRows
import GoSem.ClaimSeven
namespace Go.Proofs.YtiogaejfcenooaaDoor
namespace Rows

/-- THE TIED CARD OF 'portolanlaw06.InflateCaps'. -/
def inflateCapsCard : Claim7 := { stood := { row := inflateCapsRow, standIns := [], harness := (true, "9a734f853da64e0bfdb1da0d583a740f5cda8b5ab57835af3b9eab692fdeb2de"), looks := true }, kinds := [], alts := [], laidByText := true, laidKinds := [.widerDeep, .widerDeep, .widerDeep], laidTests := true, laidLooks := .later }
def InflateCapsCardSaid : Prop := Claim7.holds Tryd.pinned (.plain (OpenSpec.ofChange inflateCapsSpec)) inflateCapsCard

/-- THE TIED CARD OF 'portolanlaw06.InflateWrites'. -/
def inflateWritesCard : Claim7 := { stood := { row := inflateWritesRow, standIns := [], harness := (true, "9a734f853da64e0bfdb1da0d583a740f5cda8b5ab57835af3b9eab692fdeb2de"), looks := true }, kinds := [], alts := [], laidByText := true, laidKinds := [.widerDeep, .widerDeep, .widerDeep], laidTests := true, laidLooks := .later }
def InflateWritesCardSaid : Prop := Claim7.holds Tryd.pinned (.plain (OpenSpec.ofChange inflateWritesSpec)) inflateWritesCard

/-- THE TIED CARD OF 'portolanlaw06.InflateBack'. -/
def inflateBackCard : Claim7 := { stood := { row := inflateBackRow, standIns := [], harness := (true, "9a734f853da64e0bfdb1da0d583a740f5cda8b5ab57835af3b9eab692fdeb2de"), looks := true }, kinds := [], alts := [], laidByText := true, laidKinds := [.widerDeep, .widerDeep, .widerDeep], laidTests := true, laidLooks := .later }
def InflateBackCardSaid : Prop := Claim7.holds Tryd.pinned (.plain (OpenSpec.ofChange inflateBackSpec)) inflateBackCard

/-- THE TIED CARD OF 'portolanlaw06.InflateKnown'. -/
def inflateKnownCard : Claim7 := { stood := { row := inflateKnownRow, standIns := [], harness := (true, "9a734f853da64e0bfdb1da0d583a740f5cda8b5ab57835af3b9eab692fdeb2de"), looks := true }, kinds := [], alts := [], laidByText := true, laidKinds := [.widerDeep, .widerDeep, .widerDeep], laidTests := true, laidLooks := .later }
def InflateKnownCardSaid : Prop := Claim7.holds Tryd.pinned (.plain (OpenSpec.ofChange inflateKnownSpec)) inflateKnownCard

/-- THE TIED CARD OF 'portolanlaw07.DeflateBytes'. -/
def deflateBytesCard : Claim7 := { stood := { row := deflateBytesRow, standIns := [], harness := (true, "9a734f853da64e0bfdb1da0d583a740f5cda8b5ab57835af3b9eab692fdeb2de"), looks := true }, kinds := [], alts := [], laidByText := true, laidKinds := [.widerDeep, .widerDeep, .widerDeep], laidTests := true, laidLooks := .later }
def DeflateBytesCardSaid : Prop := Claim7.holds Tryd.pinned (.plain (OpenSpec.ofChange deflateBytesSpec)) deflateBytesCard

/-- THE TIED CARD OF 'portolanlaw07.DeflateSigns'. -/
def deflateSignsCard : Claim7 := { stood := { row := deflateSignsRow, standIns := [], harness := (true, "9a734f853da64e0bfdb1da0d583a740f5cda8b5ab57835af3b9eab692fdeb2de"), looks := true }, kinds := [], alts := [], laidByText := true, laidKinds := [.widerDeep, .widerDeep, .widerDeep], laidTests := true, laidLooks := .later }
def DeflateSignsCardSaid : Prop := Claim7.holds Tryd.pinned (.plain (OpenSpec.ofChange deflateSignsSpec)) deflateSignsCard

/-- THE TIED CARD OF 'portolanlaw07.DeflateBack'. -/
def deflateBackCard : Claim7 := { stood := { row := deflateBackRow, standIns := [], harness := (true, "9a734f853da64e0bfdb1da0d583a740f5cda8b5ab57835af3b9eab692fdeb2de"), looks := true }, kinds := [], alts := [], laidByText := true, laidKinds := [.widerDeep, .widerDeep, .widerDeep, .widerDeep, .widerDeep, .widerDeep], laidTests := true, laidLooks := .later }
def DeflateBackCardSaid : Prop := Claim7.holds Tryd.pinned (.plain (OpenSpec.ofChange deflateBackSpec)) deflateBackCard

/-- THE SECOND FORM's CARD OF 'portolanlaw06.InflateCaps'. -/
def inflateCapsUptoCard : Claim7 := { stood := { row := inflateCapsUptoRow, standIns := [], harness := (true, "9a734f853da64e0bfdb1da0d583a740f5cda8b5ab57835af3b9eab692fdeb2de"), looks := true }, kinds := [], alts := [], laidByText := true, laidKinds := [.widerDeep, .widerDeep, .widerDeep], laidTests := true, laidLooks := .later }
def InflateCapsUptoCardSaid : Prop := Claim7.holds Tryd.pinned (.plain (OpenSpec.upto inflateCapsSpec)) inflateCapsUptoCard

/-- THE SECOND FORM's CARD OF 'portolanlaw06.InflateWrites'. -/
def inflateWritesUptoCard : Claim7 := { stood := { row := inflateWritesUptoRow, standIns := [], harness := (true, "9a734f853da64e0bfdb1da0d583a740f5cda8b5ab57835af3b9eab692fdeb2de"), looks := true }, kinds := [], alts := [], laidByText := true, laidKinds := [.widerDeep, .widerDeep, .widerDeep], laidTests := true, laidLooks := .later }
def InflateWritesUptoCardSaid : Prop := Claim7.holds Tryd.pinned (.plain (OpenSpec.upto inflateWritesSpec)) inflateWritesUptoCard

/-- THE SECOND FORM's CARD OF 'portolanlaw06.InflateBack'. -/
def inflateBackUptoCard : Claim7 := { stood := { row := inflateBackUptoRow, standIns := [], harness := (true, "9a734f853da64e0bfdb1da0d583a740f5cda8b5ab57835af3b9eab692fdeb2de"), looks := true }, kinds := [], alts := [], laidByText := true, laidKinds := [.widerDeep, .widerDeep, .widerDeep], laidTests := true, laidLooks := .later }
def InflateBackUptoCardSaid : Prop := Claim7.holds Tryd.pinned (.plain (OpenSpec.upto inflateBackSpec)) inflateBackUptoCard

/-- THE SECOND FORM's CARD OF 'portolanlaw06.InflateKnown'. -/
def inflateKnownUptoCard : Claim7 := { stood := { row := inflateKnownUptoRow, standIns := [], harness := (true, "9a734f853da64e0bfdb1da0d583a740f5cda8b5ab57835af3b9eab692fdeb2de"), looks := true }, kinds := [], alts := [], laidByText := true, laidKinds := [.widerDeep, .widerDeep, .widerDeep], laidTests := true, laidLooks := .later }
def InflateKnownUptoCardSaid : Prop := Claim7.holds Tryd.pinned (.plain (OpenSpec.upto inflateKnownSpec)) inflateKnownUptoCard

/-- THE SECOND FORM's CARD OF 'portolanlaw07.DeflateBytes'. -/
def deflateBytesUptoCard : Claim7 := { stood := { row := deflateBytesUptoRow, standIns := [], harness := (true, "9a734f853da64e0bfdb1da0d583a740f5cda8b5ab57835af3b9eab692fdeb2de"), looks := true }, kinds := [], alts := [], laidByText := true, laidKinds := [.widerDeep, .widerDeep, .widerDeep], laidTests := true, laidLooks := .later }
def DeflateBytesUptoCardSaid : Prop := Claim7.holds Tryd.pinned (.plain (OpenSpec.upto deflateBytesSpec)) deflateBytesUptoCard

/-- THE SECOND FORM's CARD OF 'portolanlaw07.DeflateSigns'. -/
def deflateSignsUptoCard : Claim7 := { stood := { row := deflateSignsUptoRow, standIns := [], harness := (true, "9a734f853da64e0bfdb1da0d583a740f5cda8b5ab57835af3b9eab692fdeb2de"), looks := true }, kinds := [], alts := [], laidByText := true, laidKinds := [.widerDeep, .widerDeep, .widerDeep], laidTests := true, laidLooks := .later }
def DeflateSignsUptoCardSaid : Prop := Claim7.holds Tryd.pinned (.plain (OpenSpec.upto deflateSignsSpec)) deflateSignsUptoCard

/-- THE SECOND FORM's CARD OF 'portolanlaw07.DeflateBack'. -/
def deflateBackUptoCard : Claim7 := { stood := { row := deflateBackUptoRow, standIns := [], harness := (true, "9a734f853da64e0bfdb1da0d583a740f5cda8b5ab57835af3b9eab692fdeb2de"), looks := true }, kinds := [], alts := [], laidByText := true, laidKinds := [.widerDeep, .widerDeep, .widerDeep, .widerDeep, .widerDeep, .widerDeep], laidTests := true, laidLooks := .later }
def DeflateBackUptoCardSaid : Prop := Claim7.holds Tryd.pinned (.plain (OpenSpec.upto deflateBackSpec)) deflateBackUptoCard
end Rows
end Go.Proofs.YtiogaejfcenooaaDoor
