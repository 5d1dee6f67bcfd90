/-
  A closed run of the abstract machine: items.Of at arguments that are known.
-/
import Derived.Test.YtcldmcmclejlhaaGreatDoorCtx
set_option maxRecDepth 100000
open Go Go.Abs Go.Proofs
namespace Go.Proofs.D
theorem NQ:kV (xV 1) 100000 54 [Fk 733] (P9 733) 799 1255 Sr Sj=true:=by decide +kernel
end Go.Proofs.D