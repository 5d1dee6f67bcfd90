/-
  A closed run of the abstract machine: table.Of at arguments that are known.
-/
import Derived.Test.YtcldmcmclejlhaaGreatDoorCtx
set_option maxRecDepth 100000
open Go Go.Abs Go.Proofs
namespace Go.Proofs.D
theorem Nj:kV (xV 2) 100000 7 [Fk 733,.int .i64 2] (Ha 733) 736 2510 (.tuple ⟨[.agg ⟨[.int .i64 2,.slice (some ⟨2509,0,none⟩) 4 1,.slice (some ⟨2474,0,none⟩) 4 1,.slice (some ⟨2504,0,none⟩) 1 3]⟩,.int .i64 0]⟩) []=true:=by decide +kernel
end Go.Proofs.D