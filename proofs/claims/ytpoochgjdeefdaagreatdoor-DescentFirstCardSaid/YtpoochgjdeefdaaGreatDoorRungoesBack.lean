/-
  The fact parlkeep3.goesBack: a closed run of the abstract machine returns true.
-/
import Derived.Test.YtpoochgjdeefdaaGreatDoorCtx
open Go Go.Abs Go.Proofs
namespace Go.Proofs.D
theorem run_goesBack : factRun (ctxOf Tryz.prog mask 1) 100000 10 tabs = true := by decide +kernel
end Go.Proofs.D
