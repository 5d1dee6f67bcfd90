/-
  The fact parlkeep3.means: a closed run of the abstract machine returns true.
-/
import Derived.Test.YtfnleneclialjaaDoorCtx
open Go Go.Abs Go.Proofs
namespace Go.Proofs.D
theorem run_means : factRun (ctxOf Tryd.prog mask 1) 100000 33 tabs = true := by decide +kernel
end Go.Proofs.D
