/-
  DERIVED. GIVEN WITH THE SEED: THE PROGRAM's TIES (one call each: nine closed facts by the kernel) AND EACH ROW's TIE, after the 31st guide's Derived/Test/Toyas{Tie, Card}.lean. No idea stands in it: it is a product of the set-up. Laid BY PROGRAM, IN A SANDBOX (cutbox-door.mjs). By AI agents, Wed Nov 11 2026. No macro, syntax, notation, axiom, sorry.
-/
import Derived.Test.YteajimobgkempaaGreatDoorRows
import Derived.LaidByTextLater
import Derived.SevenTiedAt
import Derived.LaidSub
import Derived.LaidOnce
namespace Go.Proofs.YteajimobgkempaaGreatDoor
open Go
set_option maxRecDepth 100000
theorem seatTie1 : Tryz.prog.laidByTextLater [("portolan/crc.table", Rows.laid_portolan_crc_table), ("portolan/deflate.order", Rows.laid_portolan_deflate_order), ("portolan/deflate.longs", Rows.laid_portolan_deflate_longs), ("portolan/deflate.fars", Rows.laid_portolan_deflate_fars), ("portolan/inflate.order", Rows.laid_portolan_inflate_order), ("portolan/inflate.lengths", Rows.laid_portolan_inflate_lengths), ("portolan/inflate.away", Rows.laid_portolan_inflate_away)] [.data, .widerDeep, .widerDeep, .widerDeep, .widerDeep, .widerDeep, .widerDeep] true :=
  Program.laidByTextLater_by_one 161 8 61 (by kernel_rfl) (by kernel_rfl) (by kernel_rfl) (by kernel_rfl) (by kernel_rfl) (by kernel_rfl) (fun _ _ => by kernel_rfl)
theorem noOwnUnsafe : Tryz.pinned.checked.prog.headLifts.contains "ownunsafe" = false := by kernel_rfl
theorem tie : Tryz.prog.laidByTextLater [("portolan/deflate.order", Rows.laid_portolan_deflate_order), ("portolan/deflate.longs", Rows.laid_portolan_deflate_longs), ("portolan/deflate.fars", Rows.laid_portolan_deflate_fars)] [.widerDeep, .widerDeep, .widerDeep] true :=
  Program.laidByTextLater.sub seatTie1 ["portolan/deflate.order", "portolan/deflate.longs", "portolan/deflate.fars"] (by kernel_rfl) (by kernel_rfl)
theorem deflateSteps_row_tie : Rows.deflateStepsRow.laidByTextAt .later Tryz.pinned [.widerDeep, .widerDeep, .widerDeep] true :=
  OpenClaim.laidByTextAt_later rfl rfl tie noOwnUnsafe
theorem tie2 : Tryz.prog.laidByTextLater [("portolan/crc.table", Rows.laid_portolan_crc_table), ("portolan/deflate.order", Rows.laid_portolan_deflate_order), ("portolan/deflate.longs", Rows.laid_portolan_deflate_longs), ("portolan/deflate.fars", Rows.laid_portolan_deflate_fars), ("portolan/inflate.order", Rows.laid_portolan_inflate_order), ("portolan/inflate.lengths", Rows.laid_portolan_inflate_lengths), ("portolan/inflate.away", Rows.laid_portolan_inflate_away)] [.data, .widerDeep, .widerDeep, .widerDeep, .widerDeep, .widerDeep, .widerDeep] true :=
  Program.laidByTextLater.sub seatTie1 ["portolan/crc.table", "portolan/deflate.order", "portolan/deflate.longs", "portolan/deflate.fars", "portolan/inflate.order", "portolan/inflate.lengths", "portolan/inflate.away"] (by kernel_rfl) (by kernel_rfl)
theorem gzipPuts_row_tie : Rows.gzipPutsRow.laidByTextAt .later Tryz.pinned [.data, .widerDeep, .widerDeep, .widerDeep, .widerDeep, .widerDeep, .widerDeep] true :=
  OpenClaim.laidByTextAt_later rfl rfl tie2 noOwnUnsafe
theorem deflateStepsUpto_row_tie : Rows.deflateStepsUptoRow.laidByTextAt .later Tryz.pinned [.widerDeep, .widerDeep, .widerDeep] true :=
  OpenClaim.laidByTextAt_later rfl rfl tie noOwnUnsafe
theorem gzipPutsUpto_row_tie : Rows.gzipPutsUptoRow.laidByTextAt .later Tryz.pinned [.data, .widerDeep, .widerDeep, .widerDeep, .widerDeep, .widerDeep, .widerDeep] true :=
  OpenClaim.laidByTextAt_later rfl rfl tie2 noOwnUnsafe
end Go.Proofs.YteajimobgkempaaGreatDoor
