/-
  What the abstract machine knows of the program is so.
-/
import Derived.Test.YtmbdmfjijofmmaaDoorCtx
import Derived.Test.YtmbdmfjijofmmaaDoorRunstates
import Derived.Test.YtmbdmfjijofmmaaDoorChecked
open Go Go.Abs Go.Proofs
namespace Go.Proofs.D
theorem ok0 : (ctxOf Tryd.prog mask 3).Ok Tryd.prog := ctxOf_ok (by decide +kernel) (by decide +kernel) (Checked.mixed Tryd.checked)
theorem okC : CC.Ok Tryd.prog := ctxF_ok ok0
theorem okF : FactsOk CC Tryd.prog := factsOk ok0 (n := 100000) fun p hp => by
  simp only [facts, List.mem_cons, List.not_mem_nil, or_false] at hp
  subst hp
  exact run_states
end Go.Proofs.D
