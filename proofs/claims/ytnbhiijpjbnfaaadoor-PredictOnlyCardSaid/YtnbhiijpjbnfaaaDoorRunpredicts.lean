/-
  The fact parlkeep3.predicts: a closed run of the abstract machine returns true.
-/
import Derived.Test.YtnbhiijpjbnfaaaDoorCtx
open Go Go.Abs Go.Proofs
namespace Go.Proofs.D
theorem run_predicts : factRun (ctxP Tryd.prog mask 1 75 (.agg ⟨[.int .i64 0, .int .i64 0, .slice none 0 0]⟩) (fun f => Nat.beq f 10)) 100000 8 tabs = true := by decide +kernel
end Go.Proofs.D
