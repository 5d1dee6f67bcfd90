/-
  NARROWER THAN 'FOR EVERY INPUT', by the rows' own cells (each row's printed sentence says how): ForestMirrored: laid · ForestShape: laid · ForestBuilt: laid · ForestLess: laid · MeanMore: laid · MeanJoined: laid · MeanNamed: laid · MeanMirrored: laid · MeanListed: laid · MeanOwn: laid.
  DERIVED. THE GIVEN ROWS OF THIS SEAT. 10 by the template 'for every input the law returns true; each argument reads behind the call as it read before'; 0 by the template 'total and deterministic' (their statements: YtfnleneclialjaaDoorTotals.lean).
  GIVEN WITH THE SEED: the statements are not yours to turn. If you find one false, say at which input.
  Laid BY PROGRAM, IN A SANDBOX (cutbox-rows.mjs): the forced cells as the released guide's own fill.sh prints them over the translation 4de36c86479152df… (all of the seat's roots in one cut). By AI agents, Wed Nov 11 2026. No macro, syntax, notation, axiom, sorry.
-/
import Derived.Test.YtfnleneclialjaaDoorChecked
import GoSem.Claim
import GoSem.ClaimJoined
import GoSem.ClaimMapViews
import Derived.JoinedTies
import Derived.KernelRfl
namespace Go.Proofs.YtfnleneclialjaaDoor
/- THE CELL 'sum', in the pinned program and in every row, IS THE sha256 OF THE DUMP (.gsa) THAT YtfnleneclialjaaDoorProg.lean LOADS. Nothing in Lean hashes anything: it is a label: what it is worth is what the hold of that sum in a sandbox is worth. -/
noncomputable def Tryd.pinned : Pinned := { name := "ytfnleneclialjaadoor", sum := "4de36c86479152dfc3e1ef37ef24ab85acf5488dcf2291af0cae22bb15142da9", checked := Tryd.checked }
namespace Rows
def none {H : Type} : Left H := { results := [], args := [] }

/- WHAT THE LISTED PACKAGE-LEVEL VARIABLES READ AS WHEN THE CALL BEGINS. Each datum BY PROGRAM (the guide's laid-datum.mjs) off the statement by which the dump's own 'gosem.cut.vars' lays the variable. In a bare row this is a premise. The card (YtfnleneclialjaaDoorCards.lean) ties it to the program's text. -/
def laid_math_bits_deBruijn32tab {H : Type} : DataW H := .agg [.lit (.int .u8 0), .lit (.int .u8 1), .lit (.int .u8 28), .lit (.int .u8 2), .lit (.int .u8 29), .lit (.int .u8 14), .lit (.int .u8 24), .lit (.int .u8 3), .lit (.int .u8 30), .lit (.int .u8 22), .lit (.int .u8 20), .lit (.int .u8 15), .lit (.int .u8 25), .lit (.int .u8 17), .lit (.int .u8 4), .lit (.int .u8 8), .lit (.int .u8 31), .lit (.int .u8 27), .lit (.int .u8 13), .lit (.int .u8 23), .lit (.int .u8 21), .lit (.int .u8 19), .lit (.int .u8 16), .lit (.int .u8 7), .lit (.int .u8 26), .lit (.int .u8 12), .lit (.int .u8 18), .lit (.int .u8 6), .lit (.int .u8 11), .lit (.int .u8 5), .lit (.int .u8 10), .lit (.int .u8 9)]

/-- 'parlkeep3.ForestMirrored': WHATEVER THE INPUT: true; the input reads as it did. -/
def forestMirroredSpec : ChangeSpec := { name := "forestMirrored", fn := fun _ => fun
  | [d1, d2] => { results := [.lit (.bool true)], args := [d1, d2] }
  | _ => none }
def forestMirroredRow : OpenClaim := { program := "ytfnleneclialjaadoor", sum := "4de36c86479152dfc3e1ef37ef24ab85acf5488dcf2291af0cae22bb15142da9", func := "parlance/parlkeep3.ForestMirrored", spec := "forestMirrored", unfollowed := true, recurses := true, named := ["math/bits.deBruijn32tab"], plainKeys := false, apart := false, laid := [("math/bits.deBruijn32tab", laid_math_bits_deBruijn32tab)] }
def ForestMirroredSaid : Prop := forestMirroredRow.holds Tryd.pinned (OpenSpec.ofChange forestMirroredSpec)

/-- ITS FALSE NEIGHBOUR: 'it returns false'. Refute it at one input. -/
def forestMirroredWrong : ChangeSpec := { name := "forestMirrored", fn := fun _ => fun
  | [d1, d2] => { results := [.lit (.bool false)], args := [d1, d2] }
  | _ => none }
def ForestMirroredWrongFalsely : Prop := forestMirroredRow.holds Tryd.pinned (OpenSpec.ofChange forestMirroredWrong)

/-- 'parlkeep3.ForestShape': WHATEVER THE INPUT: true; the input reads as it did. -/
def forestShapeSpec : ChangeSpec := { name := "forestShape", fn := fun _ => fun
  | [d1, d2] => { results := [.lit (.bool true)], args := [d1, d2] }
  | _ => none }
def forestShapeRow : OpenClaim := { program := "ytfnleneclialjaadoor", sum := "4de36c86479152dfc3e1ef37ef24ab85acf5488dcf2291af0cae22bb15142da9", func := "parlance/parlkeep3.ForestShape", spec := "forestShape", unfollowed := true, recurses := true, named := ["math/bits.deBruijn32tab"], plainKeys := false, apart := false, laid := [("math/bits.deBruijn32tab", laid_math_bits_deBruijn32tab)] }
def ForestShapeSaid : Prop := forestShapeRow.holds Tryd.pinned (OpenSpec.ofChange forestShapeSpec)

/-- ITS FALSE NEIGHBOUR: 'it returns false'. Refute it at one input. -/
def forestShapeWrong : ChangeSpec := { name := "forestShape", fn := fun _ => fun
  | [d1, d2] => { results := [.lit (.bool false)], args := [d1, d2] }
  | _ => none }
def ForestShapeWrongFalsely : Prop := forestShapeRow.holds Tryd.pinned (OpenSpec.ofChange forestShapeWrong)

/-- 'parlkeep3.ForestBuilt': WHATEVER THE INPUT: true; the input reads as it did. -/
def forestBuiltSpec : ChangeSpec := { name := "forestBuilt", fn := fun _ => fun
  | [d1, d2] => { results := [.lit (.bool true)], args := [d1, d2] }
  | _ => none }
def forestBuiltRow : OpenClaim := { program := "ytfnleneclialjaadoor", sum := "4de36c86479152dfc3e1ef37ef24ab85acf5488dcf2291af0cae22bb15142da9", func := "parlance/parlkeep3.ForestBuilt", spec := "forestBuilt", unfollowed := true, recurses := true, named := ["math/bits.deBruijn32tab"], plainKeys := false, apart := false, laid := [("math/bits.deBruijn32tab", laid_math_bits_deBruijn32tab)] }
def ForestBuiltSaid : Prop := forestBuiltRow.holds Tryd.pinned (OpenSpec.ofChange forestBuiltSpec)

/-- ITS FALSE NEIGHBOUR: 'it returns false'. Refute it at one input. -/
def forestBuiltWrong : ChangeSpec := { name := "forestBuilt", fn := fun _ => fun
  | [d1, d2] => { results := [.lit (.bool false)], args := [d1, d2] }
  | _ => none }
def ForestBuiltWrongFalsely : Prop := forestBuiltRow.holds Tryd.pinned (OpenSpec.ofChange forestBuiltWrong)

/-- 'parlkeep3.ForestLess': WHATEVER THE INPUT: true; the input reads as it did. -/
def forestLessSpec : ChangeSpec := { name := "forestLess", fn := fun _ => fun
  | [d1, d2, d3] => { results := [.lit (.bool true)], args := [d1, d2, d3] }
  | _ => none }
def forestLessRow : OpenClaim := { program := "ytfnleneclialjaadoor", sum := "4de36c86479152dfc3e1ef37ef24ab85acf5488dcf2291af0cae22bb15142da9", func := "parlance/parlkeep3.ForestLess", spec := "forestLess", unfollowed := true, recurses := true, named := ["math/bits.deBruijn32tab"], plainKeys := false, apart := false, laid := [("math/bits.deBruijn32tab", laid_math_bits_deBruijn32tab)] }
def ForestLessSaid : Prop := forestLessRow.holds Tryd.pinned (OpenSpec.ofChange forestLessSpec)

/-- ITS FALSE NEIGHBOUR: 'it returns false'. Refute it at one input. -/
def forestLessWrong : ChangeSpec := { name := "forestLess", fn := fun _ => fun
  | [d1, d2, d3] => { results := [.lit (.bool false)], args := [d1, d2, d3] }
  | _ => none }
def ForestLessWrongFalsely : Prop := forestLessRow.holds Tryd.pinned (OpenSpec.ofChange forestLessWrong)

/-- 'parlkeep3.MeanMore': WHATEVER THE INPUT: true; the input reads as it did. -/
def meanMoreSpec : ChangeSpec := { name := "meanMore", fn := fun _ => fun
  | [d1, d2, d3] => { results := [.lit (.bool true)], args := [d1, d2, d3] }
  | _ => none }
def meanMoreRow : OpenClaim := { program := "ytfnleneclialjaadoor", sum := "4de36c86479152dfc3e1ef37ef24ab85acf5488dcf2291af0cae22bb15142da9", func := "parlance/parlkeep3.MeanMore", spec := "meanMore", unfollowed := true, recurses := true, named := ["math/bits.deBruijn32tab"], plainKeys := false, apart := false, laid := [("math/bits.deBruijn32tab", laid_math_bits_deBruijn32tab)] }
def MeanMoreSaid : Prop := meanMoreRow.holds Tryd.pinned (OpenSpec.ofChange meanMoreSpec)

/-- ITS FALSE NEIGHBOUR: 'it returns false'. Refute it at one input. -/
def meanMoreWrong : ChangeSpec := { name := "meanMore", fn := fun _ => fun
  | [d1, d2, d3] => { results := [.lit (.bool false)], args := [d1, d2, d3] }
  | _ => none }
def MeanMoreWrongFalsely : Prop := meanMoreRow.holds Tryd.pinned (OpenSpec.ofChange meanMoreWrong)

/-- 'parlkeep3.MeanJoined': WHATEVER THE INPUT: true; the input reads as it did. -/
def meanJoinedSpec : ChangeSpec := { name := "meanJoined", fn := fun _ => fun
  | [d1, d2] => { results := [.lit (.bool true)], args := [d1, d2] }
  | _ => none }
def meanJoinedRow : OpenClaim := { program := "ytfnleneclialjaadoor", sum := "4de36c86479152dfc3e1ef37ef24ab85acf5488dcf2291af0cae22bb15142da9", func := "parlance/parlkeep3.MeanJoined", spec := "meanJoined", unfollowed := true, recurses := true, named := ["math/bits.deBruijn32tab"], plainKeys := false, apart := false, laid := [("math/bits.deBruijn32tab", laid_math_bits_deBruijn32tab)] }
def MeanJoinedSaid : Prop := meanJoinedRow.holds Tryd.pinned (OpenSpec.ofChange meanJoinedSpec)

/-- ITS FALSE NEIGHBOUR: 'it returns false'. Refute it at one input. -/
def meanJoinedWrong : ChangeSpec := { name := "meanJoined", fn := fun _ => fun
  | [d1, d2] => { results := [.lit (.bool false)], args := [d1, d2] }
  | _ => none }
def MeanJoinedWrongFalsely : Prop := meanJoinedRow.holds Tryd.pinned (OpenSpec.ofChange meanJoinedWrong)

/-- 'parlkeep3.MeanNamed': WHATEVER THE INPUT: true; the input reads as it did. -/
def meanNamedSpec : ChangeSpec := { name := "meanNamed", fn := fun _ => fun
  | [d1, d2, d3] => { results := [.lit (.bool true)], args := [d1, d2, d3] }
  | _ => none }
def meanNamedRow : OpenClaim := { program := "ytfnleneclialjaadoor", sum := "4de36c86479152dfc3e1ef37ef24ab85acf5488dcf2291af0cae22bb15142da9", func := "parlance/parlkeep3.MeanNamed", spec := "meanNamed", unfollowed := true, recurses := true, named := ["math/bits.deBruijn32tab"], plainKeys := false, apart := false, laid := [("math/bits.deBruijn32tab", laid_math_bits_deBruijn32tab)] }
def MeanNamedSaid : Prop := meanNamedRow.holds Tryd.pinned (OpenSpec.ofChange meanNamedSpec)

/-- ITS FALSE NEIGHBOUR: 'it returns false'. Refute it at one input. -/
def meanNamedWrong : ChangeSpec := { name := "meanNamed", fn := fun _ => fun
  | [d1, d2, d3] => { results := [.lit (.bool false)], args := [d1, d2, d3] }
  | _ => none }
def MeanNamedWrongFalsely : Prop := meanNamedRow.holds Tryd.pinned (OpenSpec.ofChange meanNamedWrong)

/-- 'parlkeep3.MeanMirrored': WHATEVER THE INPUT: true; the input reads as it did. -/
def meanMirroredSpec : ChangeSpec := { name := "meanMirrored", fn := fun _ => fun
  | [d1, d2] => { results := [.lit (.bool true)], args := [d1, d2] }
  | _ => none }
def meanMirroredRow : OpenClaim := { program := "ytfnleneclialjaadoor", sum := "4de36c86479152dfc3e1ef37ef24ab85acf5488dcf2291af0cae22bb15142da9", func := "parlance/parlkeep3.MeanMirrored", spec := "meanMirrored", unfollowed := true, recurses := true, named := ["math/bits.deBruijn32tab"], plainKeys := false, apart := false, laid := [("math/bits.deBruijn32tab", laid_math_bits_deBruijn32tab)] }
def MeanMirroredSaid : Prop := meanMirroredRow.holds Tryd.pinned (OpenSpec.ofChange meanMirroredSpec)

/-- ITS FALSE NEIGHBOUR: 'it returns false'. Refute it at one input. -/
def meanMirroredWrong : ChangeSpec := { name := "meanMirrored", fn := fun _ => fun
  | [d1, d2] => { results := [.lit (.bool false)], args := [d1, d2] }
  | _ => none }
def MeanMirroredWrongFalsely : Prop := meanMirroredRow.holds Tryd.pinned (OpenSpec.ofChange meanMirroredWrong)

/-- 'parlkeep3.MeanListed': WHATEVER THE INPUT: true; the input reads as it did. -/
def meanListedSpec : ChangeSpec := { name := "meanListed", fn := fun _ => fun
  | [d1, d2, d3] => { results := [.lit (.bool true)], args := [d1, d2, d3] }
  | _ => none }
def meanListedRow : OpenClaim := { program := "ytfnleneclialjaadoor", sum := "4de36c86479152dfc3e1ef37ef24ab85acf5488dcf2291af0cae22bb15142da9", func := "parlance/parlkeep3.MeanListed", spec := "meanListed", unfollowed := true, recurses := true, named := ["math/bits.deBruijn32tab"], plainKeys := false, apart := false, laid := [("math/bits.deBruijn32tab", laid_math_bits_deBruijn32tab)] }
def MeanListedSaid : Prop := meanListedRow.holds Tryd.pinned (OpenSpec.ofChange meanListedSpec)

/-- ITS FALSE NEIGHBOUR: 'it returns false'. Refute it at one input. -/
def meanListedWrong : ChangeSpec := { name := "meanListed", fn := fun _ => fun
  | [d1, d2, d3] => { results := [.lit (.bool false)], args := [d1, d2, d3] }
  | _ => none }
def MeanListedWrongFalsely : Prop := meanListedRow.holds Tryd.pinned (OpenSpec.ofChange meanListedWrong)

/-- 'parlkeep3.MeanOwn': WHATEVER THE INPUT: true; the input reads as it did. -/
def meanOwnSpec : ChangeSpec := { name := "meanOwn", fn := fun _ => fun
  | [d1, d2] => { results := [.lit (.bool true)], args := [d1, d2] }
  | _ => none }
def meanOwnRow : OpenClaim := { program := "ytfnleneclialjaadoor", sum := "4de36c86479152dfc3e1ef37ef24ab85acf5488dcf2291af0cae22bb15142da9", func := "parlance/parlkeep3.MeanOwn", spec := "meanOwn", unfollowed := true, recurses := true, named := ["math/bits.deBruijn32tab"], plainKeys := false, apart := false, laid := [("math/bits.deBruijn32tab", laid_math_bits_deBruijn32tab)] }
def MeanOwnSaid : Prop := meanOwnRow.holds Tryd.pinned (OpenSpec.ofChange meanOwnSpec)

/-- ITS FALSE NEIGHBOUR: 'it returns false'. Refute it at one input. -/
def meanOwnWrong : ChangeSpec := { name := "meanOwn", fn := fun _ => fun
  | [d1, d2] => { results := [.lit (.bool false)], args := [d1, d2] }
  | _ => none }
def MeanOwnWrongFalsely : Prop := meanOwnRow.holds Tryd.pinned (OpenSpec.ofChange meanOwnWrong)

/- THE SECOND FORM. 'bulk': how many values and letters a reading holds, each counted each time it is reached (what is shared counts as often as it is met; a slice's spare places count too). A statement '..UptoSaid' is the law's where the arguments, and the package variables that the reading takes, are together of bulk at most 1048576: NARROWER than '..Said'. Prove '..Said' where nothing that the law and all that it calls make is longer than what came in: it says more and counts as full. Else prove '..UptoSaid'. A law counts once. -/
mutual
def uptoBulk {H : Type} : DataW H → Nat
  | .lit (.string bytes) => bytes.length + 1
  | .lit _ => 1
  | .nil => 1
  | .ptr d => uptoBulk d + 1
  | .slice elems spare => uptoBulkAll elems + uptoBulkAll spare + 1
  | .agg parts => uptoBulkAll parts + 1
  | .iface _ d => uptoBulk d + 1
  | .map entries => uptoBulkEntries entries + 1
  | .held _ => 1
def uptoBulkAll {H : Type} : List (DataW H) → Nat
  | [] => 0
  | d :: r => uptoBulk d + uptoBulkAll r
def uptoBulkEntries {H : Type} : List (Lit × DataW H) → Nat
  | [] => 0
  | x :: r => uptoBulkEntry x + uptoBulkEntries r
def uptoBulkEntry {H : Type} : Lit × DataW H → Nat
  | (.string bytes, d) => bytes.length + uptoBulk d + 1
  | (_, d) => uptoBulk d + 1
 end
def uptoSmall : (H : Type) → List (DataW H) → Bool := fun _ ds => decide (uptoBulkAll ds ≤ 1048576)
def OpenSpec.upto (s : _root_.Go.ChangeSpec) : _root_.Go.OpenSpec := { _root_.Go.OpenSpec.ofChange s with cond := some uptoSmall }

/-- 'parlkeep3.ForestMirrored', WHERE WHAT IT READS IS OF BULK AT MOST 1048576: true; the input reads as it did. -/
def forestMirroredUptoRow : OpenClaim := { program := "ytfnleneclialjaadoor", sum := "4de36c86479152dfc3e1ef37ef24ab85acf5488dcf2291af0cae22bb15142da9", func := "parlance/parlkeep3.ForestMirrored", spec := "forestMirrored", unfollowed := true, recurses := true, named := ["math/bits.deBruijn32tab"], plainKeys := false, apart := false, laid := [("math/bits.deBruijn32tab", laid_math_bits_deBruijn32tab)], narrowed := true }
def ForestMirroredUptoSaid : Prop := forestMirroredUptoRow.holds Tryd.pinned (OpenSpec.upto forestMirroredSpec)

/-- 'parlkeep3.ForestShape', WHERE WHAT IT READS IS OF BULK AT MOST 1048576: true; the input reads as it did. -/
def forestShapeUptoRow : OpenClaim := { program := "ytfnleneclialjaadoor", sum := "4de36c86479152dfc3e1ef37ef24ab85acf5488dcf2291af0cae22bb15142da9", func := "parlance/parlkeep3.ForestShape", spec := "forestShape", unfollowed := true, recurses := true, named := ["math/bits.deBruijn32tab"], plainKeys := false, apart := false, laid := [("math/bits.deBruijn32tab", laid_math_bits_deBruijn32tab)], narrowed := true }
def ForestShapeUptoSaid : Prop := forestShapeUptoRow.holds Tryd.pinned (OpenSpec.upto forestShapeSpec)

/-- 'parlkeep3.ForestBuilt', WHERE WHAT IT READS IS OF BULK AT MOST 1048576: true; the input reads as it did. -/
def forestBuiltUptoRow : OpenClaim := { program := "ytfnleneclialjaadoor", sum := "4de36c86479152dfc3e1ef37ef24ab85acf5488dcf2291af0cae22bb15142da9", func := "parlance/parlkeep3.ForestBuilt", spec := "forestBuilt", unfollowed := true, recurses := true, named := ["math/bits.deBruijn32tab"], plainKeys := false, apart := false, laid := [("math/bits.deBruijn32tab", laid_math_bits_deBruijn32tab)], narrowed := true }
def ForestBuiltUptoSaid : Prop := forestBuiltUptoRow.holds Tryd.pinned (OpenSpec.upto forestBuiltSpec)

/-- 'parlkeep3.ForestLess', WHERE WHAT IT READS IS OF BULK AT MOST 1048576: true; the input reads as it did. -/
def forestLessUptoRow : OpenClaim := { program := "ytfnleneclialjaadoor", sum := "4de36c86479152dfc3e1ef37ef24ab85acf5488dcf2291af0cae22bb15142da9", func := "parlance/parlkeep3.ForestLess", spec := "forestLess", unfollowed := true, recurses := true, named := ["math/bits.deBruijn32tab"], plainKeys := false, apart := false, laid := [("math/bits.deBruijn32tab", laid_math_bits_deBruijn32tab)], narrowed := true }
def ForestLessUptoSaid : Prop := forestLessUptoRow.holds Tryd.pinned (OpenSpec.upto forestLessSpec)

/-- 'parlkeep3.MeanMore', WHERE WHAT IT READS IS OF BULK AT MOST 1048576: true; the input reads as it did. -/
def meanMoreUptoRow : OpenClaim := { program := "ytfnleneclialjaadoor", sum := "4de36c86479152dfc3e1ef37ef24ab85acf5488dcf2291af0cae22bb15142da9", func := "parlance/parlkeep3.MeanMore", spec := "meanMore", unfollowed := true, recurses := true, named := ["math/bits.deBruijn32tab"], plainKeys := false, apart := false, laid := [("math/bits.deBruijn32tab", laid_math_bits_deBruijn32tab)], narrowed := true }
def MeanMoreUptoSaid : Prop := meanMoreUptoRow.holds Tryd.pinned (OpenSpec.upto meanMoreSpec)

/-- 'parlkeep3.MeanJoined', WHERE WHAT IT READS IS OF BULK AT MOST 1048576: true; the input reads as it did. -/
def meanJoinedUptoRow : OpenClaim := { program := "ytfnleneclialjaadoor", sum := "4de36c86479152dfc3e1ef37ef24ab85acf5488dcf2291af0cae22bb15142da9", func := "parlance/parlkeep3.MeanJoined", spec := "meanJoined", unfollowed := true, recurses := true, named := ["math/bits.deBruijn32tab"], plainKeys := false, apart := false, laid := [("math/bits.deBruijn32tab", laid_math_bits_deBruijn32tab)], narrowed := true }
def MeanJoinedUptoSaid : Prop := meanJoinedUptoRow.holds Tryd.pinned (OpenSpec.upto meanJoinedSpec)

/-- 'parlkeep3.MeanNamed', WHERE WHAT IT READS IS OF BULK AT MOST 1048576: true; the input reads as it did. -/
def meanNamedUptoRow : OpenClaim := { program := "ytfnleneclialjaadoor", sum := "4de36c86479152dfc3e1ef37ef24ab85acf5488dcf2291af0cae22bb15142da9", func := "parlance/parlkeep3.MeanNamed", spec := "meanNamed", unfollowed := true, recurses := true, named := ["math/bits.deBruijn32tab"], plainKeys := false, apart := false, laid := [("math/bits.deBruijn32tab", laid_math_bits_deBruijn32tab)], narrowed := true }
def MeanNamedUptoSaid : Prop := meanNamedUptoRow.holds Tryd.pinned (OpenSpec.upto meanNamedSpec)

/-- 'parlkeep3.MeanMirrored', WHERE WHAT IT READS IS OF BULK AT MOST 1048576: true; the input reads as it did. -/
def meanMirroredUptoRow : OpenClaim := { program := "ytfnleneclialjaadoor", sum := "4de36c86479152dfc3e1ef37ef24ab85acf5488dcf2291af0cae22bb15142da9", func := "parlance/parlkeep3.MeanMirrored", spec := "meanMirrored", unfollowed := true, recurses := true, named := ["math/bits.deBruijn32tab"], plainKeys := false, apart := false, laid := [("math/bits.deBruijn32tab", laid_math_bits_deBruijn32tab)], narrowed := true }
def MeanMirroredUptoSaid : Prop := meanMirroredUptoRow.holds Tryd.pinned (OpenSpec.upto meanMirroredSpec)

/-- 'parlkeep3.MeanListed', WHERE WHAT IT READS IS OF BULK AT MOST 1048576: true; the input reads as it did. -/
def meanListedUptoRow : OpenClaim := { program := "ytfnleneclialjaadoor", sum := "4de36c86479152dfc3e1ef37ef24ab85acf5488dcf2291af0cae22bb15142da9", func := "parlance/parlkeep3.MeanListed", spec := "meanListed", unfollowed := true, recurses := true, named := ["math/bits.deBruijn32tab"], plainKeys := false, apart := false, laid := [("math/bits.deBruijn32tab", laid_math_bits_deBruijn32tab)], narrowed := true }
def MeanListedUptoSaid : Prop := meanListedUptoRow.holds Tryd.pinned (OpenSpec.upto meanListedSpec)

/-- 'parlkeep3.MeanOwn', WHERE WHAT IT READS IS OF BULK AT MOST 1048576: true; the input reads as it did. -/
def meanOwnUptoRow : OpenClaim := { program := "ytfnleneclialjaadoor", sum := "4de36c86479152dfc3e1ef37ef24ab85acf5488dcf2291af0cae22bb15142da9", func := "parlance/parlkeep3.MeanOwn", spec := "meanOwn", unfollowed := true, recurses := true, named := ["math/bits.deBruijn32tab"], plainKeys := false, apart := false, laid := [("math/bits.deBruijn32tab", laid_math_bits_deBruijn32tab)], narrowed := true }
def MeanOwnUptoSaid : Prop := meanOwnUptoRow.holds Tryd.pinned (OpenSpec.upto meanOwnSpec)

end Rows
end Go.Proofs.YtfnleneclialjaaDoor
