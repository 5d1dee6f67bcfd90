/-
  What the abstract machine knows of the program is so.
-/
import Derived.Test.YtnbhiijpjbnfaaaGreatDoorCtx
import Derived.Test.YtnbhiijpjbnfaaaGreatDoorRunpredicts
import Derived.Test.YtnbhiijpjbnfaaaGreatDoorChecked
open Go Go.Abs Go.Proofs
namespace Go.Proofs.D
theorem ok0 : (ctxOf Tryz.prog mask 3).Ok Tryz.prog := ctxOf_ok (by decide +kernel) (by decide +kernel) (Checked.mixed Tryz.checked)
theorem okC : CC.Ok Tryz.prog := ctxF_ok ok0
theorem okF : FactsOk CC Tryz.prog := factsOk ok0 (n := 100000) fun p hp => by
  simp only [facts, List.mem_cons, List.not_mem_nil, or_false] at hp
  subst hp
  exact run_predicts
end Go.Proofs.D
