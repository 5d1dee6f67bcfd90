/-
  What the abstract machine knows of the program is so.
-/
import Derived.Test.YtmbdmfjijofmmaaGreatDoorCtx
import Derived.Test.YtmbdmfjijofmmaaGreatDoorRunexplains
import Derived.Test.YtmbdmfjijofmmaaGreatDoorChecked
open Go Go.Abs Go.Proofs
namespace Go.Proofs.D
theorem Q1:(qo Tryz.prog mask 3).Ok Tryz.prog:=KQ (by decide +kernel) (by decide +kernel) (Checked.mixed Tryz.checked)
theorem Rk:CC.Ok Tryz.prog:=Ni Q1
theorem okF:lf CC Tryz.prog:=by obtain⟨N,h⟩:=CE;exact MB Q1 (n:=N) λp f=>by{simp only[facts,IN,List.not_mem_nil,or_false] at f;subst f;exact h}
end Go.Proofs.D