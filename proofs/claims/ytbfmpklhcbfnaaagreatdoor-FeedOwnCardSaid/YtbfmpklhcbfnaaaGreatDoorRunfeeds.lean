/-
  The fact parlkeep3.feeds: a closed run of the abstract machine returns true.
-/
import Derived.Test.YtbfmpklhcbfnaaaGreatDoorCtx
open Go Go.Abs Go.Proofs
namespace Go.Proofs.D
theorem run_feeds : factRun (ctxOf Tryz.prog mask 3) 100000 11 tabs = true := by decide +kernel
end Go.Proofs.D
