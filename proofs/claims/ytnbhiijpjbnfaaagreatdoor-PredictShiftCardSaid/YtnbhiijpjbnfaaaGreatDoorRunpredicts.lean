/-
  The fact parlkeep3.predicts: a closed run of the abstract machine returns true.
-/
import Derived.Test.YtnbhiijpjbnfaaaGreatDoorCtx
open Go Go.Abs Go.Proofs
namespace Go.Proofs.D
theorem run_predicts : factRun (ctxP Tryz.prog mask 3 81 (.agg ⟨[.int .i64 0, .int .i64 0, .slice none 0 0]⟩) (fun f => Nat.beq f 9)) 100000 6 tabs = true := by decide +kernel
end Go.Proofs.D
