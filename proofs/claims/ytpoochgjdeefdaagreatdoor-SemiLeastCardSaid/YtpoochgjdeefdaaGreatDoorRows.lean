/-
  NARROWER THAN 'FOR EVERY INPUT', by the rows' own cells (each row's printed sentence says how): DescentFirst: laid · SemiCounts: laid · SemiPairs: laid · SemiLeast: laid.
  DERIVED. THE GIVEN ROWS OF THIS SEAT. 4 by the template 'for every input the law returns true; each argument reads behind the call as it read before'; 0 by the template 'total and deterministic' (their statements: YtpoochgjdeefdaaGreatDoorTotals.lean).
  GIVEN WITH THE SEED: the statements are not yours to turn. If you find one false, say at which input.
  Laid BY PROGRAM, IN A SANDBOX (cutbox-rows.mjs): the forced cells as the released guide's own fill.sh prints them over the translation cc1853d24ed2f33b… (all of the seat's roots in one cut). By AI agents, Wed Nov 11 2026. No macro, syntax, notation, axiom, sorry.
-/
import Derived.Test.YtpoochgjdeefdaaGreatDoorChecked
import GoSem.Claim
import GoSem.ClaimJoined
import GoSem.ClaimMapViews
import Derived.JoinedTies
import Derived.KernelRfl
namespace Go.Proofs.YtpoochgjdeefdaaGreatDoor
/- THE CELL 'sum', in the pinned program and in every row, IS THE sha256 OF THE DUMP (.gsa) THAT YtpoochgjdeefdaaGreatDoorProg.lean LOADS. Nothing in Lean hashes anything: it is a label: what it is worth is what the hold of that sum in a sandbox is worth. -/
noncomputable def Tryz.pinned : Pinned := { name := "ytpoochgjdeefdaagreatdoor", sum := "cc1853d24ed2f33b4594fb64782e9c2d0ecbc31cea3daca06763fb6b41d2fb27", checked := Tryz.checked }
namespace Rows
def none {H : Type} : Left H := { results := [], args := [] }

/- WHAT THE LISTED PACKAGE-LEVEL VARIABLES READ AS WHEN THE CALL BEGINS. Each datum BY PROGRAM (the guide's laid-datum.mjs) off the statement by which the dump's own 'gosem.cut.vars' lays the variable. In a bare row this is a premise. The card (YtpoochgjdeefdaaGreatDoorCards.lean) ties it to the program's text. -/
def laid_math_bits_deBruijn32tab {H : Type} : DataW H := .agg [.lit (.int .u8 0), .lit (.int .u8 1), .lit (.int .u8 28), .lit (.int .u8 2), .lit (.int .u8 29), .lit (.int .u8 14), .lit (.int .u8 24), .lit (.int .u8 3), .lit (.int .u8 30), .lit (.int .u8 22), .lit (.int .u8 20), .lit (.int .u8 15), .lit (.int .u8 25), .lit (.int .u8 17), .lit (.int .u8 4), .lit (.int .u8 8), .lit (.int .u8 31), .lit (.int .u8 27), .lit (.int .u8 13), .lit (.int .u8 23), .lit (.int .u8 21), .lit (.int .u8 19), .lit (.int .u8 16), .lit (.int .u8 7), .lit (.int .u8 26), .lit (.int .u8 12), .lit (.int .u8 18), .lit (.int .u8 6), .lit (.int .u8 11), .lit (.int .u8 5), .lit (.int .u8 10), .lit (.int .u8 9)]

/-- 'parlkeep3.DescentFirst': WHATEVER THE INPUT: true; the input reads as it did. -/
def descentFirstSpec : ChangeSpec := { name := "descentFirst", fn := fun _ => fun
  | [d1, d2] => { results := [.lit (.bool true)], args := [d1, d2] }
  | _ => none }
def descentFirstRow : OpenClaim := { program := "ytpoochgjdeefdaagreatdoor", sum := "cc1853d24ed2f33b4594fb64782e9c2d0ecbc31cea3daca06763fb6b41d2fb27", func := "parlance/parlkeep3.DescentFirst", spec := "descentFirst", unfollowed := true, recurses := true, named := ["math/bits.deBruijn32tab"], plainKeys := false, apart := false, laid := [("math/bits.deBruijn32tab", laid_math_bits_deBruijn32tab)] }
def DescentFirstSaid : Prop := descentFirstRow.holds Tryz.pinned (OpenSpec.ofChange descentFirstSpec)

/-- ITS FALSE NEIGHBOUR: 'it returns false'. Refute it at one input. -/
def descentFirstWrong : ChangeSpec := { name := "descentFirst", fn := fun _ => fun
  | [d1, d2] => { results := [.lit (.bool false)], args := [d1, d2] }
  | _ => none }
def DescentFirstWrongFalsely : Prop := descentFirstRow.holds Tryz.pinned (OpenSpec.ofChange descentFirstWrong)

/-- 'parlkeep3.SemiCounts': WHATEVER THE INPUT: true; the input reads as it did. -/
def semiCountsSpec : ChangeSpec := { name := "semiCounts", fn := fun _ => fun
  | [d1, d2] => { results := [.lit (.bool true)], args := [d1, d2] }
  | _ => none }
def semiCountsRow : OpenClaim := { program := "ytpoochgjdeefdaagreatdoor", sum := "cc1853d24ed2f33b4594fb64782e9c2d0ecbc31cea3daca06763fb6b41d2fb27", func := "parlance/parlkeep3.SemiCounts", spec := "semiCounts", unfollowed := true, recurses := true, named := ["math/bits.deBruijn32tab"], plainKeys := false, apart := false, laid := [("math/bits.deBruijn32tab", laid_math_bits_deBruijn32tab)] }
def SemiCountsSaid : Prop := semiCountsRow.holds Tryz.pinned (OpenSpec.ofChange semiCountsSpec)

/-- ITS FALSE NEIGHBOUR: 'it returns false'. Refute it at one input. -/
def semiCountsWrong : ChangeSpec := { name := "semiCounts", fn := fun _ => fun
  | [d1, d2] => { results := [.lit (.bool false)], args := [d1, d2] }
  | _ => none }
def SemiCountsWrongFalsely : Prop := semiCountsRow.holds Tryz.pinned (OpenSpec.ofChange semiCountsWrong)

/-- 'parlkeep3.SemiPairs': WHATEVER THE INPUT: true; the input reads as it did. -/
def semiPairsSpec : ChangeSpec := { name := "semiPairs", fn := fun _ => fun
  | [d1, d2, d3, d4] => { results := [.lit (.bool true)], args := [d1, d2, d3, d4] }
  | _ => none }
def semiPairsRow : OpenClaim := { program := "ytpoochgjdeefdaagreatdoor", sum := "cc1853d24ed2f33b4594fb64782e9c2d0ecbc31cea3daca06763fb6b41d2fb27", func := "parlance/parlkeep3.SemiPairs", spec := "semiPairs", unfollowed := true, recurses := true, named := ["math/bits.deBruijn32tab"], plainKeys := false, apart := false, laid := [("math/bits.deBruijn32tab", laid_math_bits_deBruijn32tab)] }
def SemiPairsSaid : Prop := semiPairsRow.holds Tryz.pinned (OpenSpec.ofChange semiPairsSpec)

/-- ITS FALSE NEIGHBOUR: 'it returns false'. Refute it at one input. -/
def semiPairsWrong : ChangeSpec := { name := "semiPairs", fn := fun _ => fun
  | [d1, d2, d3, d4] => { results := [.lit (.bool false)], args := [d1, d2, d3, d4] }
  | _ => none }
def SemiPairsWrongFalsely : Prop := semiPairsRow.holds Tryz.pinned (OpenSpec.ofChange semiPairsWrong)

/-- 'parlkeep3.SemiLeast': WHATEVER THE INPUT: true; the input reads as it did. -/
def semiLeastSpec : ChangeSpec := { name := "semiLeast", fn := fun _ => fun
  | [d1, d2, d3] => { results := [.lit (.bool true)], args := [d1, d2, d3] }
  | _ => none }
def semiLeastRow : OpenClaim := { program := "ytpoochgjdeefdaagreatdoor", sum := "cc1853d24ed2f33b4594fb64782e9c2d0ecbc31cea3daca06763fb6b41d2fb27", func := "parlance/parlkeep3.SemiLeast", spec := "semiLeast", unfollowed := true, recurses := true, named := ["math/bits.deBruijn32tab"], plainKeys := false, apart := false, laid := [("math/bits.deBruijn32tab", laid_math_bits_deBruijn32tab)] }
def SemiLeastSaid : Prop := semiLeastRow.holds Tryz.pinned (OpenSpec.ofChange semiLeastSpec)

/-- ITS FALSE NEIGHBOUR: 'it returns false'. Refute it at one input. -/
def semiLeastWrong : ChangeSpec := { name := "semiLeast", fn := fun _ => fun
  | [d1, d2, d3] => { results := [.lit (.bool false)], args := [d1, d2, d3] }
  | _ => none }
def SemiLeastWrongFalsely : Prop := semiLeastRow.holds Tryz.pinned (OpenSpec.ofChange semiLeastWrong)

/- THE SECOND FORM. 'bulk': how many values and letters a reading holds, each counted each time it is reached (what is shared counts as often as it is met; a slice's spare places count too). A statement '..UptoSaid' is the law's where the arguments, and the package variables that the reading takes, are together of bulk at most 1048576: NARROWER than '..Said'. Prove '..Said' where nothing that the law and all that it calls make is longer than what came in: it says more and counts as full. Else prove '..UptoSaid'. A law counts once. -/
mutual
def uptoBulk {H : Type} : DataW H → Nat
  | .lit (.string bytes) => bytes.length + 1
  | .lit _ => 1
  | .nil => 1
  | .ptr d => uptoBulk d + 1
  | .slice elems spare => uptoBulkAll elems + uptoBulkAll spare + 1
  | .agg parts => uptoBulkAll parts + 1
  | .iface _ d => uptoBulk d + 1
  | .map entries => uptoBulkEntries entries + 1
  | .held _ => 1
def uptoBulkAll {H : Type} : List (DataW H) → Nat
  | [] => 0
  | d :: r => uptoBulk d + uptoBulkAll r
def uptoBulkEntries {H : Type} : List (Lit × DataW H) → Nat
  | [] => 0
  | x :: r => uptoBulkEntry x + uptoBulkEntries r
def uptoBulkEntry {H : Type} : Lit × DataW H → Nat
  | (.string bytes, d) => bytes.length + uptoBulk d + 1
  | (_, d) => uptoBulk d + 1
 end
def uptoSmall : (H : Type) → List (DataW H) → Bool := fun _ ds => decide (uptoBulkAll ds ≤ 1048576)
def OpenSpec.upto (s : _root_.Go.ChangeSpec) : _root_.Go.OpenSpec := { _root_.Go.OpenSpec.ofChange s with cond := some uptoSmall }

/-- 'parlkeep3.DescentFirst', WHERE WHAT IT READS IS OF BULK AT MOST 1048576: true; the input reads as it did. -/
def descentFirstUptoRow : OpenClaim := { program := "ytpoochgjdeefdaagreatdoor", sum := "cc1853d24ed2f33b4594fb64782e9c2d0ecbc31cea3daca06763fb6b41d2fb27", func := "parlance/parlkeep3.DescentFirst", spec := "descentFirst", unfollowed := true, recurses := true, named := ["math/bits.deBruijn32tab"], plainKeys := false, apart := false, laid := [("math/bits.deBruijn32tab", laid_math_bits_deBruijn32tab)], narrowed := true }
def DescentFirstUptoSaid : Prop := descentFirstUptoRow.holds Tryz.pinned (OpenSpec.upto descentFirstSpec)

/-- 'parlkeep3.SemiCounts', WHERE WHAT IT READS IS OF BULK AT MOST 1048576: true; the input reads as it did. -/
def semiCountsUptoRow : OpenClaim := { program := "ytpoochgjdeefdaagreatdoor", sum := "cc1853d24ed2f33b4594fb64782e9c2d0ecbc31cea3daca06763fb6b41d2fb27", func := "parlance/parlkeep3.SemiCounts", spec := "semiCounts", unfollowed := true, recurses := true, named := ["math/bits.deBruijn32tab"], plainKeys := false, apart := false, laid := [("math/bits.deBruijn32tab", laid_math_bits_deBruijn32tab)], narrowed := true }
def SemiCountsUptoSaid : Prop := semiCountsUptoRow.holds Tryz.pinned (OpenSpec.upto semiCountsSpec)

/-- 'parlkeep3.SemiPairs', WHERE WHAT IT READS IS OF BULK AT MOST 1048576: true; the input reads as it did. -/
def semiPairsUptoRow : OpenClaim := { program := "ytpoochgjdeefdaagreatdoor", sum := "cc1853d24ed2f33b4594fb64782e9c2d0ecbc31cea3daca06763fb6b41d2fb27", func := "parlance/parlkeep3.SemiPairs", spec := "semiPairs", unfollowed := true, recurses := true, named := ["math/bits.deBruijn32tab"], plainKeys := false, apart := false, laid := [("math/bits.deBruijn32tab", laid_math_bits_deBruijn32tab)], narrowed := true }
def SemiPairsUptoSaid : Prop := semiPairsUptoRow.holds Tryz.pinned (OpenSpec.upto semiPairsSpec)

/-- 'parlkeep3.SemiLeast', WHERE WHAT IT READS IS OF BULK AT MOST 1048576: true; the input reads as it did. -/
def semiLeastUptoRow : OpenClaim := { program := "ytpoochgjdeefdaagreatdoor", sum := "cc1853d24ed2f33b4594fb64782e9c2d0ecbc31cea3daca06763fb6b41d2fb27", func := "parlance/parlkeep3.SemiLeast", spec := "semiLeast", unfollowed := true, recurses := true, named := ["math/bits.deBruijn32tab"], plainKeys := false, apart := false, laid := [("math/bits.deBruijn32tab", laid_math_bits_deBruijn32tab)], narrowed := true }
def SemiLeastUptoSaid : Prop := semiLeastUptoRow.holds Tryz.pinned (OpenSpec.upto semiLeastSpec)

end Rows
end Go.Proofs.YtpoochgjdeefdaaGreatDoor
