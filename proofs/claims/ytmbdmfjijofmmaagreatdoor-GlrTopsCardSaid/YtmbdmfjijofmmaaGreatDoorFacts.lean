/-
  What the abstract machine knows of the program is so.
-/
import Derived.Test.YtmbdmfjijofmmaaGreatDoorCtx
import Derived.Test.YtmbdmfjijofmmaaGreatDoorChecked
open Go Go.Abs Go.Proofs
namespace Go.Proofs.D
theorem P0:(qI Tryz.prog mask 3).Ok Tryz.prog:=HT (by decide +kernel) (by decide +kernel) (Checked.mixed Tryz.checked)
theorem PU:CC.Ok Tryz.prog:=KV P0
theorem okF:bH CC Tryz.prog:=J0 P0 (n:=100000) λp hp=>by
 cases hp
end Go.Proofs.D