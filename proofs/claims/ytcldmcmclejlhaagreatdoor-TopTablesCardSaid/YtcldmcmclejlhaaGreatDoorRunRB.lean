/-
  A closed run of the abstract machine: parltop.rvBegun at arguments that are known.
-/
import Derived.Test.YtcldmcmclejlhaaGreatDoorCtx
set_option maxRecDepth 100000
open Go Go.Abs Go.Proofs
namespace Go.Proofs.D
theorem Ni:tE (xV 3) 100000 5 fA=true:=by decide +kernel
end Go.Proofs.D