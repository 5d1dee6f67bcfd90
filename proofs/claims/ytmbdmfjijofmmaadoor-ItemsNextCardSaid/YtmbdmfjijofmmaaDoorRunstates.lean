/-
  The fact parlkeep3.states: a closed run of the abstract machine returns true.
-/
import Derived.Test.YtmbdmfjijofmmaaDoorCtx
open Go Go.Abs Go.Proofs
namespace Go.Proofs.D
theorem run_states : factRun (ctxOf Tryd.prog mask 3) 100000 6 tabs = true := by decide +kernel
end Go.Proofs.D
