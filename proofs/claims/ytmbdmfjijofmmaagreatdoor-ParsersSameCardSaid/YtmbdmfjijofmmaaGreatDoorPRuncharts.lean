/-
  The fact parlkeep3.charts: a closed run of the abstract machine returns true.
-/
import Derived.Test.YtmbdmfjijofmmaaGreatDoorPCtx
open Go Go.Abs Go.Proofs
namespace Go.Proofs.D
theorem DG : oW (mT Tryz.prog mask 3) 100000 25 eJ = true := by decide +kernel
end Go.Proofs.D
