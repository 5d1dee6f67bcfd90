/-
  The fact parlkeep3.woods: a closed run of the abstract machine returns true.
-/
import Derived.Test.YtfnleneclialjaaDoorCtx
open Go Go.Abs Go.Proofs
namespace Go.Proofs.D
theorem run_woods : factRun (ctxOf Tryd.prog mask 1) 100000 18 tabs = true := by decide +kernel
end Go.Proofs.D
