/- The two tables of the checksum lie in their variables, by the row's condition. -/
import Derived.Test.YtkgnihpcldgedaaDoorCrcLaid
import Derived.Stop.LaidErr
namespace Go.Proofs.YtkgnihpcldgedaaDoor
open Go.ChangeShapes Go.WideShapes Go.ChangeAt Go.RowKit
def whnZ : List Int := PCrc.whn.map fun n : Nat => (n : Int)
theorem gWhn : Tryd.prog.globalNamed "portolan/crc.whence" = some 2 := by kernel_rfl
theorem tWhn : (Tryd.prog.globals[2]?).map (·.type) = some 122 := by kernel_rfl
theorem whn_of_met {W : World} {rest : List (String × DataW Unit)} (h : laidMet Tryd.prog (("portolan/crc.whence", Rows.laid_portolan_crc_whence) :: rest) W) : CrcWhn W := by
  have hT := Lib.tabIs_of_head (k := .u32) (zs := whnZ) gWhn tWhn Tryd.underlying122 Tryd.underlying26 (by kernel_rfl) (by kernel_rfl) h
  intro i hi
  have := hT.cell gWhn i (by simpa [whnZ, PCrc.whn] using hi)
  rw [this]
  have : ∀ i, i < 16 → whnZ.getD i 0 = ((PCrc.whn.getD i 0 : Nat) : Int) := by decide
  rw [this i hi]
theorem tabs_of_laid {W : World} (h : laidMetH Tryd.prog [("portolan/crc.table", Rows.laid_portolan_crc_table), ("portolan/crc.whence", Rows.laid_portolan_crc_whence)] W) : CrcTab W ∧ CrcWhn W := by
  rw [MakeChecks.laidMetH_plain _ _ _ (by kernel_rfl)] at h
  exact ⟨tab_of_met h, whn_of_met (laidMet.tail h)⟩
end Go.Proofs.YtkgnihpcldgedaaDoor
