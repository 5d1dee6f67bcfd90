/-
  The fact parlkeep3.means: a closed run of the abstract machine returns true.
-/
import Derived.Test.YtbfmpklhcbfnaaaDoorCtx
open Go Go.Abs Go.Proofs
namespace Go.Proofs.D
theorem run_means : factRun (ctxOf Tryd.prog mask 3) 100000 42 tabs = true := by decide +kernel
end Go.Proofs.D
