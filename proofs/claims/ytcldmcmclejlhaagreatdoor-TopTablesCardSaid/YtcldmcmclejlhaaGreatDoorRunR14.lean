/-
  A closed run of the abstract machine: mean.Count at arguments that are known.
-/
import Derived.Test.YtcldmcmclejlhaaGreatDoorCtx
set_option maxRecDepth 100000
open Go Go.Abs Go.Proofs
namespace Go.Proofs.D
theorem M8:kV (xV 1) 100000 14 [Fk 4,.slice (some ⟨7,0,none⟩) 3 1] (fA++Ha 4++[Nz 7 3]) 8 463 (.tuple ⟨[.int .i64 2,.int .i64 0]⟩) []=true:=by decide +kernel
end Go.Proofs.D