/- The table of the checksum lies in its variable, by the row's condition. -/
import Derived.Test.YtkgnihpcldgedaaDoorRows
import Derived.Test.YtkgnihpcldgedaaDoorCrcW
import Derived.ProofKit
import Derived.LaidMore
import Derived.Stop.Joined
import Derived.Lib.LaidTab
namespace Go.Proofs.YtkgnihpcldgedaaDoor
open Go.ChangeShapes Go.WideShapes Go.ChangeAt Go.RowKit
def tabZ : List Int := PCrc.tab.map fun n : Nat => (n : Int)
theorem gTab : Tryd.prog.globalNamed "portolan/crc.table" = some 3 := by kernel_rfl
theorem tTab : (Tryd.prog.globals[3]?).map (·.type) = some 122 := by kernel_rfl
theorem tab_of_met {W : World} {rest : List (String × DataW Unit)} (h : laidMet Tryd.prog (("portolan/crc.table", Rows.laid_portolan_crc_table) :: rest) W) : CrcTab W := by
  have hT := Lib.tabIs_of_head (k := .u32) (zs := tabZ) gTab tTab Tryd.underlying122 Tryd.underlying26 (by kernel_rfl) (by kernel_rfl) h
  intro i hi
  have := hT.cell gTab i (by simpa [tabZ, PCrc.tab] using hi)
  rw [this]
  have : ∀ i, i < 16 → tabZ.getD i 0 = ((PCrc.tab.getD i 0 : Nat) : Int) := by decide
  rw [this i hi]
theorem tab_of_laid {W : World} (h : laidMetH Tryd.prog [("portolan/crc.table", Rows.laid_portolan_crc_table)] W) : CrcTab W := by
  rw [MakeChecks.laidMetH_plain _ _ _ (by kernel_rfl)] at h
  exact tab_of_met h
end Go.Proofs.YtkgnihpcldgedaaDoor
