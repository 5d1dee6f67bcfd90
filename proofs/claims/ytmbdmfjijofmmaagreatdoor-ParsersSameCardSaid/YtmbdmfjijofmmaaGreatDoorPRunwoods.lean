/-
  The fact parlkeep3.woods: a closed run of the abstract machine returns true.
-/
import Derived.Test.YtmbdmfjijofmmaaGreatDoorPCtx
open Go Go.Abs Go.Proofs
namespace Go.Proofs.D
theorem Ha : oW (mT Tryz.prog mask 3) 100000 24 eJ = true := by decide +kernel
end Go.Proofs.D
