/-
  What the abstract machine knows of the program is so.
-/
import Derived.Test.YtpoochgjdeefdaaDoorCtx
import Derived.Test.YtpoochgjdeefdaaDoorChecked
open Go Go.Abs Go.Proofs
namespace Go.Proofs.D
theorem ok0 : (ctxOf Tryd.prog mask 1).Ok Tryd.prog := ctxOf_ok (by decide +kernel) (by decide +kernel) (Checked.mixed Tryd.checked)
theorem okC : CC.Ok Tryd.prog := ctxF_ok ok0
theorem okF : FactsOk CC Tryd.prog := factsOk ok0 (n := 100000) fun p hp => by
  cases hp
end Go.Proofs.D
