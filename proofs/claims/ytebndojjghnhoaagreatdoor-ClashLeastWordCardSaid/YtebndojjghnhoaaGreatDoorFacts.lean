/-
  What the abstract machine knows of the program is so.
-/
import Derived.Test.YtebndojjghnhoaaGreatDoorCtx
import Derived.Test.YtebndojjghnhoaaGreatDoorRunexplains
import Derived.Test.YtebndojjghnhoaaGreatDoorChecked
open Go Go.Abs Go.Proofs
namespace Go.Proofs.D
theorem ok0 : (ctxOf Tryz.prog mask 3).Ok Tryz.prog := ctxOf_ok (by decide +kernel) (by decide +kernel) (Checked.mixed Tryz.checked)
theorem okC : CC.Ok Tryz.prog := ctxF_ok ok0
theorem okF : FactsOk CC Tryz.prog := by
  obtain ⟨N, h⟩ := run_explains
  exact factsOk ok0 (n := N) fun p hp => by
    simp only [facts, List.mem_cons, List.not_mem_nil, or_false] at hp
    subst hp
    exact h
end Go.Proofs.D
