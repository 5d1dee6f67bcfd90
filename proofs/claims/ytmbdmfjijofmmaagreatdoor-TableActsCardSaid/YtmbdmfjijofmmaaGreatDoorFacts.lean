/-
  What the abstract machine knows of the program is so.
-/
import Derived.Test.YtmbdmfjijofmmaaGreatDoorCtx
import Derived.Test.YtmbdmfjijofmmaaGreatDoorChecked
open Go Go.Abs Go.Proofs
namespace Go.Proofs.D
theorem ok0 : (ctxOf Tryz.prog mask 3).Ok Tryz.prog := ctxOf_ok (by decide +kernel) (by decide +kernel) (Checked.mixed Tryz.checked)
theorem okC : CC.Ok Tryz.prog := ctxF_ok ok0
theorem okF : FactsOk CC Tryz.prog := factsOk ok0 (n := 100000) fun p hp => by
  cases hp
end Go.Proofs.D
