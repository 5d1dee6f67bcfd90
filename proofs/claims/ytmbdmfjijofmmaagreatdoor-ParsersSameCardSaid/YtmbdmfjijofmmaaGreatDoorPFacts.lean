/-
  What the abstract machine knows of the program is so.
-/
import Derived.Test.YtmbdmfjijofmmaaGreatDoorPCtx
import Derived.Test.YtmbdmfjijofmmaaGreatDoorPRunwoods
import Derived.Test.YtmbdmfjijofmmaaGreatDoorPRuncharts
import Derived.Test.YtmbdmfjijofmmaaGreatDoorPRunsets
import Derived.Test.YtmbdmfjijofmmaaGreatDoorChecked
open Go Go.Abs Go.Proofs
namespace Go.Proofs.D
theorem Qs:(mT Tryz.prog mask 3).Ok Tryz.prog:=IG (by decide +kernel) (by decide +kernel) (Checked.mixed Tryz.checked)
theorem Qn:CC.Ok Tryz.prog:=Lw Qs
theorem okF:bS CC Tryz.prog:=KE Qs (n:=100000) λp hp=>by
 simp only[facts,R0,SR,T4] at hp;rcases hp with rfl | rfl | rfl
 ·exact Ha
 ·exact DG
 ·exact Jw
end Go.Proofs.D