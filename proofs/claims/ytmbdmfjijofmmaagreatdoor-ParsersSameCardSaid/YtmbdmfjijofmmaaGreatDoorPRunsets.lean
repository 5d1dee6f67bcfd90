/-
  The fact parlkeep3.sets: a closed run of the abstract machine returns true.
-/
import Derived.Test.YtmbdmfjijofmmaaGreatDoorPCtx
open Go Go.Abs Go.Proofs
namespace Go.Proofs.D
theorem Jw : oW (mT Tryz.prog mask 3) 100000 26 eJ = true := by decide +kernel
end Go.Proofs.D
