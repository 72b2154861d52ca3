/- A pack of texts: InfLen InfZ. -/
import Derived.Deep.CutRange
import Derived.Test.YtloijdbkikccgaaDoorPk02
import Derived.Test.YtloijdbkikccgaaDoorPk03
import Derived.Test.YtloijdbkikccgaaDoorPk04
import Derived.Test.YtloijdbkikccgaaDoorPk05
import Derived.Test.YtloijdbkikccgaaDoorPk10
import Derived.Test.YtloijdbkikccgaaDoorPk13
import Derived.Test.YtloijdbkikccgaaDoorPk22
import Derived.Test.YtloijdbkikccgaaDoorPk28
import Derived.Test.YtloijdbkikccgaaDoorPk36
import Derived.Test.YtloijdbkikccgaaDoorPk39
namespace Go.Proofs.YtloijdbkikccgaaDoor
set_option linter.unusedVariables false
set_option linter.unusedSimpArgs false
namespace PI
theorem firstsW_len (FF l:List Nat):(firstsW FF l).length=3 * l.length:=by
 unfold firstsW
 induction l with
 | nil=>rfl
 | cons x l ih=>rw [List.flatMap_cons,List.length_append,ih,PBits.bitsOf_length,List.length_cons]; omega
end PI
set_option linter.unusedVariables false
set_option linter.unusedSimpArgs false
open Go.RowKit
theorem PI.cnts_le (n:Nat) (l:List Nat):∀ x ∈ PI.cnts n l,x≤l.length:=fun x hx=>by
 obtain ⟨q,hq,rfl⟩:=List.mem_map.1 hx
 exact List.count_le_length
end Go.Proofs.YtloijdbkikccgaaDoor

