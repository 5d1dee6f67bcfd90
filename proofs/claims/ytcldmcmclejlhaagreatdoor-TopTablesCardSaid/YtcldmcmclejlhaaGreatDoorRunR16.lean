/-
  A closed run of the abstract machine: forest.Of at arguments that are known.
-/
import Derived.Test.YtcldmcmclejlhaaGreatDoorCtx
set_option maxRecDepth 100000
open Go Go.Abs Go.Proofs
namespace Go.Proofs.D
theorem Md:kV (xV 1) 100000 16 [Fk 464,.slice (some ⟨467,0,none⟩) 2 1] (fA++Ha 464++[Nz 467 2]) 468 731 (.tuple ⟨[.agg ⟨[.slice (some ⟨729,0,none⟩) 5 5,.int .i64 2]⟩,.int .i64 0]⟩) []=true:=by decide +kernel
end Go.Proofs.D