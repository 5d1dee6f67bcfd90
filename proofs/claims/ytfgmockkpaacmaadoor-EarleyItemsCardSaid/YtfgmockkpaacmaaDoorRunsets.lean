/-
  The fact parlkeep3.sets: a closed run of the abstract machine returns true.
-/
import Derived.Test.YtfgmockkpaacmaaDoorCtx
open Go Go.Abs Go.Proofs
namespace Go.Proofs.D
theorem run_sets : factRun (ctxOf Tryd.prog mask 3) 100000 45 tabs = true := by decide +kernel
end Go.Proofs.D
