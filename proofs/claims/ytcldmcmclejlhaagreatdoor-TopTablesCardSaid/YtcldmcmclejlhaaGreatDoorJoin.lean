/-
  What a statement asks of the whole program, apart from the walks.
-/
import Derived.Test.YtcldmcmclejlhaaGreatDoorRows
import Derived.Test.YtcldmcmclejlhaaGreatDoorChecked
import Derived.WalkKit
import Derived.ProofKit
import Derived.OpenShut
import Derived.LaidMore
import Derived.FnData
import Derived.Stop.Joined
namespace Go.Proofs.YtcldmcmclejlhaaGreatDoor.topTables
open Go Go.Proofs Go.Proofs.YtcldmcmclejlhaaGreatDoor
open Go.ChangeShapes Go.WideShapes Go.RowKit
set_option linter.unusedVariables false
set_option maxRecDepth 100000
theorem PJ : joinedFacts Tryz.checked.prog 3 Tryz.f3 Rows.topTablesSpec Rows.topTablesRow = true := by kernel_rfl
end Go.Proofs.YtcldmcmclejlhaaGreatDoor.topTables

