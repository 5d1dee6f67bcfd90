/-
  What a statement asks of the whole program, apart from the walks.
-/
import Derived.Test.YtmbdmfjijofmmaaGreatDoorRows
import Derived.Test.YtmbdmfjijofmmaaGreatDoorChecked
import Derived.WalkKit
import Derived.ProofKit
import Derived.OpenShut
import Derived.LaidMore
import Derived.FnData
import Derived.Stop.Joined
namespace Go.Proofs.YtmbdmfjijofmmaaGreatDoor.parsersSame
open Go Go.Proofs Go.Proofs.YtmbdmfjijofmmaaGreatDoor
open Go.ChangeShapes Go.WideShapes Go.RowKit
set_option linter.unusedVariables false
set_option maxRecDepth 100000
theorem NO : joinedFacts Tryz.checked.prog 5 Tryz.f5 Rows.parsersSameSpec Rows.parsersSameRow = true := by kernel_rfl
end Go.Proofs.YtmbdmfjijofmmaaGreatDoor.parsersSame

