/-
  NARROWER THAN 'FOR EVERY INPUT', by the rows' own cells (each row's printed sentence says how): FeedWords: laid · PackratTree: laid · DescentLeft: laid · PackratPredicts: laid · CykParts: laid · CykJoins: laid · ItemsNext: laid · ItemsClose: laid · EarleyItems: laid · EarleyBegins: laid.
  DERIVED. THE GIVEN ROWS OF THIS SEAT. 10 by the template 'for every input the law returns true; each argument reads behind the call as it read before'; 0 by the template 'total and deterministic' (their statements: YtfgmockkpaacmaaDoorTotals.lean).
  GIVEN WITH THE SEED: the statements are not yours to turn. If you find one false, say at which input.
  Laid BY PROGRAM, IN A SANDBOX (cutbox-rows.mjs): the forced cells as the released guide's own fill.sh prints them over the translation 8158a0a28678e5b5… (all of the seat's roots in one cut). By AI agents, Wed Nov 11 2026. No macro, syntax, notation, axiom, sorry.
-/
import Derived.Test.YtfgmockkpaacmaaDoorChecked
import GoSem.Claim
import GoSem.ClaimJoined
import GoSem.ClaimMapViews
import Derived.JoinedTies
import Derived.KernelRfl
namespace Go.Proofs.YtfgmockkpaacmaaDoor
/- THE CELL 'sum', in the pinned program and in every row, IS THE sha256 OF THE DUMP (.gsa) THAT YtfgmockkpaacmaaDoorProg.lean LOADS. Nothing in Lean hashes anything: it is a label: what it is worth is what the hold of that sum in a sandbox is worth. -/
noncomputable def Tryd.pinned : Pinned := { name := "ytfgmockkpaacmaadoor", sum := "8158a0a28678e5b5d3056aaf263d4cbab7efc219d796b6d8c3114991ede0b121", checked := Tryd.checked }
namespace Rows
def none {H : Type} : Left H := { results := [], args := [] }

/- WHAT THE LISTED PACKAGE-LEVEL VARIABLES READ AS WHEN THE CALL BEGINS. Each datum BY PROGRAM (the guide's laid-datum.mjs) off the statement by which the dump's own 'gosem.cut.vars' lays the variable. In a bare row this is a premise. The card (YtfgmockkpaacmaaDoorCards.lean) ties it to the program's text. -/
def laid_math_bits_deBruijn32tab {H : Type} : DataW H := .agg [.lit (.int .u8 0), .lit (.int .u8 1), .lit (.int .u8 28), .lit (.int .u8 2), .lit (.int .u8 29), .lit (.int .u8 14), .lit (.int .u8 24), .lit (.int .u8 3), .lit (.int .u8 30), .lit (.int .u8 22), .lit (.int .u8 20), .lit (.int .u8 15), .lit (.int .u8 25), .lit (.int .u8 17), .lit (.int .u8 4), .lit (.int .u8 8), .lit (.int .u8 31), .lit (.int .u8 27), .lit (.int .u8 13), .lit (.int .u8 23), .lit (.int .u8 21), .lit (.int .u8 19), .lit (.int .u8 16), .lit (.int .u8 7), .lit (.int .u8 26), .lit (.int .u8 12), .lit (.int .u8 18), .lit (.int .u8 6), .lit (.int .u8 11), .lit (.int .u8 5), .lit (.int .u8 10), .lit (.int .u8 9)]
def laid_math_bits_deBruijn64tab {H : Type} : DataW H := .agg [.lit (.int .u8 0), .lit (.int .u8 1), .lit (.int .u8 56), .lit (.int .u8 2), .lit (.int .u8 57), .lit (.int .u8 49), .lit (.int .u8 28), .lit (.int .u8 3), .lit (.int .u8 61), .lit (.int .u8 58), .lit (.int .u8 42), .lit (.int .u8 50), .lit (.int .u8 38), .lit (.int .u8 29), .lit (.int .u8 17), .lit (.int .u8 4), .lit (.int .u8 62), .lit (.int .u8 47), .lit (.int .u8 59), .lit (.int .u8 36), .lit (.int .u8 45), .lit (.int .u8 43), .lit (.int .u8 51), .lit (.int .u8 22), .lit (.int .u8 53), .lit (.int .u8 39), .lit (.int .u8 33), .lit (.int .u8 30), .lit (.int .u8 24), .lit (.int .u8 18), .lit (.int .u8 12), .lit (.int .u8 5), .lit (.int .u8 63), .lit (.int .u8 55), .lit (.int .u8 48), .lit (.int .u8 27), .lit (.int .u8 60), .lit (.int .u8 41), .lit (.int .u8 37), .lit (.int .u8 16), .lit (.int .u8 46), .lit (.int .u8 35), .lit (.int .u8 44), .lit (.int .u8 21), .lit (.int .u8 52), .lit (.int .u8 32), .lit (.int .u8 23), .lit (.int .u8 11), .lit (.int .u8 54), .lit (.int .u8 26), .lit (.int .u8 40), .lit (.int .u8 15), .lit (.int .u8 34), .lit (.int .u8 20), .lit (.int .u8 31), .lit (.int .u8 10), .lit (.int .u8 25), .lit (.int .u8 14), .lit (.int .u8 19), .lit (.int .u8 9), .lit (.int .u8 13), .lit (.int .u8 8), .lit (.int .u8 7), .lit (.int .u8 6)]
def laid_internal_strconv_uint64pow10 {H : Type} : DataW H := .agg [.lit (.int .u64 1), .lit (.int .u64 10), .lit (.int .u64 100), .lit (.int .u64 1000), .lit (.int .u64 10000), .lit (.int .u64 100000), .lit (.int .u64 1000000), .lit (.int .u64 10000000), .lit (.int .u64 100000000), .lit (.int .u64 1000000000), .lit (.int .u64 10000000000), .lit (.int .u64 100000000000), .lit (.int .u64 1000000000000), .lit (.int .u64 10000000000000), .lit (.int .u64 100000000000000), .lit (.int .u64 1000000000000000), .lit (.int .u64 10000000000000000), .lit (.int .u64 100000000000000000), .lit (.int .u64 1000000000000000000), .lit (.int .u64 10000000000000000000)]

/-- 'parlkeep3.FeedWords': WHATEVER THE INPUT: true; the input reads as it did. -/
def feedWordsSpec : ChangeSpec := { name := "feedWords", fn := fun _ => fun
  | [d1, d2] => { results := [.lit (.bool true)], args := [d1, d2] }
  | _ => none }
def feedWordsRow : OpenClaim := { program := "ytfgmockkpaacmaadoor", sum := "8158a0a28678e5b5d3056aaf263d4cbab7efc219d796b6d8c3114991ede0b121", func := "parlance/parlkeep3.FeedWords", spec := "feedWords", unfollowed := true, recurses := true, named := ["math/bits.deBruijn32tab"], plainKeys := false, apart := false, laid := [("math/bits.deBruijn32tab", laid_math_bits_deBruijn32tab)] }
def FeedWordsSaid : Prop := feedWordsRow.holds Tryd.pinned (OpenSpec.ofChange feedWordsSpec)

/-- ITS FALSE NEIGHBOUR: 'it returns false'. Refute it at one input. -/
def feedWordsWrong : ChangeSpec := { name := "feedWords", fn := fun _ => fun
  | [d1, d2] => { results := [.lit (.bool false)], args := [d1, d2] }
  | _ => none }
def FeedWordsWrongFalsely : Prop := feedWordsRow.holds Tryd.pinned (OpenSpec.ofChange feedWordsWrong)

/-- 'parlkeep3.PackratTree': WHATEVER THE INPUT: true; the input reads as it did. -/
def packratTreeSpec : ChangeSpec := { name := "packratTree", fn := fun _ => fun
  | [d1, d2] => { results := [.lit (.bool true)], args := [d1, d2] }
  | _ => none }
def packratTreeRow : OpenClaim := { program := "ytfgmockkpaacmaadoor", sum := "8158a0a28678e5b5d3056aaf263d4cbab7efc219d796b6d8c3114991ede0b121", func := "parlance/parlkeep3.PackratTree", spec := "packratTree", unfollowed := true, recurses := true, named := ["math/bits.deBruijn32tab"], plainKeys := false, apart := false, laid := [("math/bits.deBruijn32tab", laid_math_bits_deBruijn32tab)] }
def PackratTreeSaid : Prop := packratTreeRow.holds Tryd.pinned (OpenSpec.ofChange packratTreeSpec)

/-- ITS FALSE NEIGHBOUR: 'it returns false'. Refute it at one input. -/
def packratTreeWrong : ChangeSpec := { name := "packratTree", fn := fun _ => fun
  | [d1, d2] => { results := [.lit (.bool false)], args := [d1, d2] }
  | _ => none }
def PackratTreeWrongFalsely : Prop := packratTreeRow.holds Tryd.pinned (OpenSpec.ofChange packratTreeWrong)

/-- 'parlkeep3.DescentLeft': WHATEVER THE INPUT: true; the input reads as it did. -/
def descentLeftSpec : ChangeSpec := { name := "descentLeft", fn := fun _ => fun
  | [d] => { results := [.lit (.bool true)], args := [d] }
  | _ => none }
def descentLeftRow : OpenClaim := { program := "ytfgmockkpaacmaadoor", sum := "8158a0a28678e5b5d3056aaf263d4cbab7efc219d796b6d8c3114991ede0b121", func := "parlance/parlkeep3.DescentLeft", spec := "descentLeft", unfollowed := true, recurses := true, named := ["math/bits.deBruijn32tab"], plainKeys := false, apart := false, laid := [("math/bits.deBruijn32tab", laid_math_bits_deBruijn32tab)] }
def DescentLeftSaid : Prop := descentLeftRow.holds Tryd.pinned (OpenSpec.ofChange descentLeftSpec)

/-- ITS FALSE NEIGHBOUR: 'it returns false'. Refute it at one input. -/
def descentLeftWrong : ChangeSpec := { name := "descentLeft", fn := fun _ => fun
  | [d] => { results := [.lit (.bool false)], args := [d] }
  | _ => none }
def DescentLeftWrongFalsely : Prop := descentLeftRow.holds Tryd.pinned (OpenSpec.ofChange descentLeftWrong)

/-- 'parlkeep3.PackratPredicts': WHATEVER THE INPUT: true; the input reads as it did. -/
def packratPredictsSpec : ChangeSpec := { name := "packratPredicts", fn := fun _ => fun
  | [d1, d2] => { results := [.lit (.bool true)], args := [d1, d2] }
  | _ => none }
def packratPredictsRow : OpenClaim := { program := "ytfgmockkpaacmaadoor", sum := "8158a0a28678e5b5d3056aaf263d4cbab7efc219d796b6d8c3114991ede0b121", func := "parlance/parlkeep3.PackratPredicts", spec := "packratPredicts", unfollowed := true, recurses := true, named := ["math/bits.deBruijn32tab"], plainKeys := false, apart := false, laid := [("math/bits.deBruijn32tab", laid_math_bits_deBruijn32tab)] }
def PackratPredictsSaid : Prop := packratPredictsRow.holds Tryd.pinned (OpenSpec.ofChange packratPredictsSpec)

/-- ITS FALSE NEIGHBOUR: 'it returns false'. Refute it at one input. -/
def packratPredictsWrong : ChangeSpec := { name := "packratPredicts", fn := fun _ => fun
  | [d1, d2] => { results := [.lit (.bool false)], args := [d1, d2] }
  | _ => none }
def PackratPredictsWrongFalsely : Prop := packratPredictsRow.holds Tryd.pinned (OpenSpec.ofChange packratPredictsWrong)

/-- 'parlkeep3.CykParts': WHATEVER THE INPUT: true; the input reads as it did. -/
def cykPartsSpec : ChangeSpec := { name := "cykParts", fn := fun _ => fun
  | [d1, d2, d3, d4] => { results := [.lit (.bool true)], args := [d1, d2, d3, d4] }
  | _ => none }
def cykPartsRow : OpenClaim := { program := "ytfgmockkpaacmaadoor", sum := "8158a0a28678e5b5d3056aaf263d4cbab7efc219d796b6d8c3114991ede0b121", func := "parlance/parlkeep3.CykParts", spec := "cykParts", unfollowed := true, recurses := true, named := ["math/bits.deBruijn32tab"], plainKeys := false, apart := false, laid := [("math/bits.deBruijn32tab", laid_math_bits_deBruijn32tab)] }
def CykPartsSaid : Prop := cykPartsRow.holds Tryd.pinned (OpenSpec.ofChange cykPartsSpec)

/-- ITS FALSE NEIGHBOUR: 'it returns false'. Refute it at one input. -/
def cykPartsWrong : ChangeSpec := { name := "cykParts", fn := fun _ => fun
  | [d1, d2, d3, d4] => { results := [.lit (.bool false)], args := [d1, d2, d3, d4] }
  | _ => none }
def CykPartsWrongFalsely : Prop := cykPartsRow.holds Tryd.pinned (OpenSpec.ofChange cykPartsWrong)

/-- 'parlkeep3.CykJoins': WHATEVER THE INPUT: true; the input reads as it did. -/
def cykJoinsSpec : ChangeSpec := { name := "cykJoins", fn := fun _ => fun
  | [d1, d2, d3, d4] => { results := [.lit (.bool true)], args := [d1, d2, d3, d4] }
  | _ => none }
def cykJoinsRow : OpenClaim := { program := "ytfgmockkpaacmaadoor", sum := "8158a0a28678e5b5d3056aaf263d4cbab7efc219d796b6d8c3114991ede0b121", func := "parlance/parlkeep3.CykJoins", spec := "cykJoins", unfollowed := true, recurses := true, named := ["math/bits.deBruijn32tab"], plainKeys := false, apart := false, laid := [("math/bits.deBruijn32tab", laid_math_bits_deBruijn32tab)] }
def CykJoinsSaid : Prop := cykJoinsRow.holds Tryd.pinned (OpenSpec.ofChange cykJoinsSpec)

/-- ITS FALSE NEIGHBOUR: 'it returns false'. Refute it at one input. -/
def cykJoinsWrong : ChangeSpec := { name := "cykJoins", fn := fun _ => fun
  | [d1, d2, d3, d4] => { results := [.lit (.bool false)], args := [d1, d2, d3, d4] }
  | _ => none }
def CykJoinsWrongFalsely : Prop := cykJoinsRow.holds Tryd.pinned (OpenSpec.ofChange cykJoinsWrong)

/-- 'parlkeep3.ItemsNext': WHATEVER THE INPUT: true; the input reads as it did. -/
def itemsNextSpec : ChangeSpec := { name := "itemsNext", fn := fun _ => fun
  | [d] => { results := [.lit (.bool true)], args := [d] }
  | _ => none }
def itemsNextRow : OpenClaim := { program := "ytfgmockkpaacmaadoor", sum := "8158a0a28678e5b5d3056aaf263d4cbab7efc219d796b6d8c3114991ede0b121", func := "parlance/parlkeep3.ItemsNext", spec := "itemsNext", unfollowed := true, recurses := true, named := ["internal/strconv.uint64pow10", "math/bits.deBruijn32tab", "math/bits.deBruijn64tab"], plainKeys := false, apart := false, laid := [("math/bits.deBruijn32tab", laid_math_bits_deBruijn32tab), ("math/bits.deBruijn64tab", laid_math_bits_deBruijn64tab), ("internal/strconv.uint64pow10", laid_internal_strconv_uint64pow10)] }
def ItemsNextSaid : Prop := itemsNextRow.holds Tryd.pinned (OpenSpec.ofChange itemsNextSpec)

/-- ITS FALSE NEIGHBOUR: 'it returns false'. Refute it at one input. -/
def itemsNextWrong : ChangeSpec := { name := "itemsNext", fn := fun _ => fun
  | [d] => { results := [.lit (.bool false)], args := [d] }
  | _ => none }
def ItemsNextWrongFalsely : Prop := itemsNextRow.holds Tryd.pinned (OpenSpec.ofChange itemsNextWrong)

/-- 'parlkeep3.ItemsClose': WHATEVER THE INPUT: true; the input reads as it did. -/
def itemsCloseSpec : ChangeSpec := { name := "itemsClose", fn := fun _ => fun
  | [d1, d2, d3] => { results := [.lit (.bool true)], args := [d1, d2, d3] }
  | _ => none }
def itemsCloseRow : OpenClaim := { program := "ytfgmockkpaacmaadoor", sum := "8158a0a28678e5b5d3056aaf263d4cbab7efc219d796b6d8c3114991ede0b121", func := "parlance/parlkeep3.ItemsClose", spec := "itemsClose", unfollowed := true, recurses := true, named := ["internal/strconv.uint64pow10", "math/bits.deBruijn32tab", "math/bits.deBruijn64tab"], plainKeys := false, apart := false, laid := [("math/bits.deBruijn32tab", laid_math_bits_deBruijn32tab), ("math/bits.deBruijn64tab", laid_math_bits_deBruijn64tab), ("internal/strconv.uint64pow10", laid_internal_strconv_uint64pow10)] }
def ItemsCloseSaid : Prop := itemsCloseRow.holds Tryd.pinned (OpenSpec.ofChange itemsCloseSpec)

/-- ITS FALSE NEIGHBOUR: 'it returns false'. Refute it at one input. -/
def itemsCloseWrong : ChangeSpec := { name := "itemsClose", fn := fun _ => fun
  | [d1, d2, d3] => { results := [.lit (.bool false)], args := [d1, d2, d3] }
  | _ => none }
def ItemsCloseWrongFalsely : Prop := itemsCloseRow.holds Tryd.pinned (OpenSpec.ofChange itemsCloseWrong)

/-- 'parlkeep3.EarleyItems': WHATEVER THE INPUT: true; the input reads as it did. -/
def earleyItemsSpec : ChangeSpec := { name := "earleyItems", fn := fun _ => fun
  | [d1, d2, d3, d4] => { results := [.lit (.bool true)], args := [d1, d2, d3, d4] }
  | _ => none }
def earleyItemsRow : OpenClaim := { program := "ytfgmockkpaacmaadoor", sum := "8158a0a28678e5b5d3056aaf263d4cbab7efc219d796b6d8c3114991ede0b121", func := "parlance/parlkeep3.EarleyItems", spec := "earleyItems", unfollowed := true, recurses := true, named := ["math/bits.deBruijn32tab"], plainKeys := false, apart := false, laid := [("math/bits.deBruijn32tab", laid_math_bits_deBruijn32tab)] }
def EarleyItemsSaid : Prop := earleyItemsRow.holds Tryd.pinned (OpenSpec.ofChange earleyItemsSpec)

/-- ITS FALSE NEIGHBOUR: 'it returns false'. Refute it at one input. -/
def earleyItemsWrong : ChangeSpec := { name := "earleyItems", fn := fun _ => fun
  | [d1, d2, d3, d4] => { results := [.lit (.bool false)], args := [d1, d2, d3, d4] }
  | _ => none }
def EarleyItemsWrongFalsely : Prop := earleyItemsRow.holds Tryd.pinned (OpenSpec.ofChange earleyItemsWrong)

/-- 'parlkeep3.EarleyBegins': WHATEVER THE INPUT: true; the input reads as it did. -/
def earleyBeginsSpec : ChangeSpec := { name := "earleyBegins", fn := fun _ => fun
  | [d1, d2, d3] => { results := [.lit (.bool true)], args := [d1, d2, d3] }
  | _ => none }
def earleyBeginsRow : OpenClaim := { program := "ytfgmockkpaacmaadoor", sum := "8158a0a28678e5b5d3056aaf263d4cbab7efc219d796b6d8c3114991ede0b121", func := "parlance/parlkeep3.EarleyBegins", spec := "earleyBegins", unfollowed := true, recurses := true, named := ["math/bits.deBruijn32tab"], plainKeys := false, apart := false, laid := [("math/bits.deBruijn32tab", laid_math_bits_deBruijn32tab)] }
def EarleyBeginsSaid : Prop := earleyBeginsRow.holds Tryd.pinned (OpenSpec.ofChange earleyBeginsSpec)

/-- ITS FALSE NEIGHBOUR: 'it returns false'. Refute it at one input. -/
def earleyBeginsWrong : ChangeSpec := { name := "earleyBegins", fn := fun _ => fun
  | [d1, d2, d3] => { results := [.lit (.bool false)], args := [d1, d2, d3] }
  | _ => none }
def EarleyBeginsWrongFalsely : Prop := earleyBeginsRow.holds Tryd.pinned (OpenSpec.ofChange earleyBeginsWrong)

/- THE SECOND FORM. 'bulk': how many values and letters a reading holds, each counted each time it is reached (what is shared counts as often as it is met; a slice's spare places count too). A statement '..UptoSaid' is the law's where the arguments, and the package variables that the reading takes, are together of bulk at most 1048576: NARROWER than '..Said'. Prove '..Said' where nothing that the law and all that it calls make is longer than what came in: it says more and counts as full. Else prove '..UptoSaid'. A law counts once. -/
mutual
def uptoBulk {H : Type} : DataW H → Nat
  | .lit (.string bytes) => bytes.length + 1
  | .lit _ => 1
  | .nil => 1
  | .ptr d => uptoBulk d + 1
  | .slice elems spare => uptoBulkAll elems + uptoBulkAll spare + 1
  | .agg parts => uptoBulkAll parts + 1
  | .iface _ d => uptoBulk d + 1
  | .map entries => uptoBulkEntries entries + 1
  | .held _ => 1
def uptoBulkAll {H : Type} : List (DataW H) → Nat
  | [] => 0
  | d :: r => uptoBulk d + uptoBulkAll r
def uptoBulkEntries {H : Type} : List (Lit × DataW H) → Nat
  | [] => 0
  | x :: r => uptoBulkEntry x + uptoBulkEntries r
def uptoBulkEntry {H : Type} : Lit × DataW H → Nat
  | (.string bytes, d) => bytes.length + uptoBulk d + 1
  | (_, d) => uptoBulk d + 1
 end
def uptoSmall : (H : Type) → List (DataW H) → Bool := fun _ ds => decide (uptoBulkAll ds ≤ 1048576)
def OpenSpec.upto (s : _root_.Go.ChangeSpec) : _root_.Go.OpenSpec := { _root_.Go.OpenSpec.ofChange s with cond := some uptoSmall }

/-- 'parlkeep3.FeedWords', WHERE WHAT IT READS IS OF BULK AT MOST 1048576: true; the input reads as it did. -/
def feedWordsUptoRow : OpenClaim := { program := "ytfgmockkpaacmaadoor", sum := "8158a0a28678e5b5d3056aaf263d4cbab7efc219d796b6d8c3114991ede0b121", func := "parlance/parlkeep3.FeedWords", spec := "feedWords", unfollowed := true, recurses := true, named := ["math/bits.deBruijn32tab"], plainKeys := false, apart := false, laid := [("math/bits.deBruijn32tab", laid_math_bits_deBruijn32tab)], narrowed := true }
def FeedWordsUptoSaid : Prop := feedWordsUptoRow.holds Tryd.pinned (OpenSpec.upto feedWordsSpec)

/-- 'parlkeep3.PackratTree', WHERE WHAT IT READS IS OF BULK AT MOST 1048576: true; the input reads as it did. -/
def packratTreeUptoRow : OpenClaim := { program := "ytfgmockkpaacmaadoor", sum := "8158a0a28678e5b5d3056aaf263d4cbab7efc219d796b6d8c3114991ede0b121", func := "parlance/parlkeep3.PackratTree", spec := "packratTree", unfollowed := true, recurses := true, named := ["math/bits.deBruijn32tab"], plainKeys := false, apart := false, laid := [("math/bits.deBruijn32tab", laid_math_bits_deBruijn32tab)], narrowed := true }
def PackratTreeUptoSaid : Prop := packratTreeUptoRow.holds Tryd.pinned (OpenSpec.upto packratTreeSpec)

/-- 'parlkeep3.DescentLeft', WHERE WHAT IT READS IS OF BULK AT MOST 1048576: true; the input reads as it did. -/
def descentLeftUptoRow : OpenClaim := { program := "ytfgmockkpaacmaadoor", sum := "8158a0a28678e5b5d3056aaf263d4cbab7efc219d796b6d8c3114991ede0b121", func := "parlance/parlkeep3.DescentLeft", spec := "descentLeft", unfollowed := true, recurses := true, named := ["math/bits.deBruijn32tab"], plainKeys := false, apart := false, laid := [("math/bits.deBruijn32tab", laid_math_bits_deBruijn32tab)], narrowed := true }
def DescentLeftUptoSaid : Prop := descentLeftUptoRow.holds Tryd.pinned (OpenSpec.upto descentLeftSpec)

/-- 'parlkeep3.PackratPredicts', WHERE WHAT IT READS IS OF BULK AT MOST 1048576: true; the input reads as it did. -/
def packratPredictsUptoRow : OpenClaim := { program := "ytfgmockkpaacmaadoor", sum := "8158a0a28678e5b5d3056aaf263d4cbab7efc219d796b6d8c3114991ede0b121", func := "parlance/parlkeep3.PackratPredicts", spec := "packratPredicts", unfollowed := true, recurses := true, named := ["math/bits.deBruijn32tab"], plainKeys := false, apart := false, laid := [("math/bits.deBruijn32tab", laid_math_bits_deBruijn32tab)], narrowed := true }
def PackratPredictsUptoSaid : Prop := packratPredictsUptoRow.holds Tryd.pinned (OpenSpec.upto packratPredictsSpec)

/-- 'parlkeep3.CykParts', WHERE WHAT IT READS IS OF BULK AT MOST 1048576: true; the input reads as it did. -/
def cykPartsUptoRow : OpenClaim := { program := "ytfgmockkpaacmaadoor", sum := "8158a0a28678e5b5d3056aaf263d4cbab7efc219d796b6d8c3114991ede0b121", func := "parlance/parlkeep3.CykParts", spec := "cykParts", unfollowed := true, recurses := true, named := ["math/bits.deBruijn32tab"], plainKeys := false, apart := false, laid := [("math/bits.deBruijn32tab", laid_math_bits_deBruijn32tab)], narrowed := true }
def CykPartsUptoSaid : Prop := cykPartsUptoRow.holds Tryd.pinned (OpenSpec.upto cykPartsSpec)

/-- 'parlkeep3.CykJoins', WHERE WHAT IT READS IS OF BULK AT MOST 1048576: true; the input reads as it did. -/
def cykJoinsUptoRow : OpenClaim := { program := "ytfgmockkpaacmaadoor", sum := "8158a0a28678e5b5d3056aaf263d4cbab7efc219d796b6d8c3114991ede0b121", func := "parlance/parlkeep3.CykJoins", spec := "cykJoins", unfollowed := true, recurses := true, named := ["math/bits.deBruijn32tab"], plainKeys := false, apart := false, laid := [("math/bits.deBruijn32tab", laid_math_bits_deBruijn32tab)], narrowed := true }
def CykJoinsUptoSaid : Prop := cykJoinsUptoRow.holds Tryd.pinned (OpenSpec.upto cykJoinsSpec)

/-- 'parlkeep3.ItemsNext', WHERE WHAT IT READS IS OF BULK AT MOST 1048576: true; the input reads as it did. -/
def itemsNextUptoRow : OpenClaim := { program := "ytfgmockkpaacmaadoor", sum := "8158a0a28678e5b5d3056aaf263d4cbab7efc219d796b6d8c3114991ede0b121", func := "parlance/parlkeep3.ItemsNext", spec := "itemsNext", unfollowed := true, recurses := true, named := ["internal/strconv.uint64pow10", "math/bits.deBruijn32tab", "math/bits.deBruijn64tab"], plainKeys := false, apart := false, laid := [("math/bits.deBruijn32tab", laid_math_bits_deBruijn32tab), ("math/bits.deBruijn64tab", laid_math_bits_deBruijn64tab), ("internal/strconv.uint64pow10", laid_internal_strconv_uint64pow10)], narrowed := true }
def ItemsNextUptoSaid : Prop := itemsNextUptoRow.holds Tryd.pinned (OpenSpec.upto itemsNextSpec)

/-- 'parlkeep3.ItemsClose', WHERE WHAT IT READS IS OF BULK AT MOST 1048576: true; the input reads as it did. -/
def itemsCloseUptoRow : OpenClaim := { program := "ytfgmockkpaacmaadoor", sum := "8158a0a28678e5b5d3056aaf263d4cbab7efc219d796b6d8c3114991ede0b121", func := "parlance/parlkeep3.ItemsClose", spec := "itemsClose", unfollowed := true, recurses := true, named := ["internal/strconv.uint64pow10", "math/bits.deBruijn32tab", "math/bits.deBruijn64tab"], plainKeys := false, apart := false, laid := [("math/bits.deBruijn32tab", laid_math_bits_deBruijn32tab), ("math/bits.deBruijn64tab", laid_math_bits_deBruijn64tab), ("internal/strconv.uint64pow10", laid_internal_strconv_uint64pow10)], narrowed := true }
def ItemsCloseUptoSaid : Prop := itemsCloseUptoRow.holds Tryd.pinned (OpenSpec.upto itemsCloseSpec)

/-- 'parlkeep3.EarleyItems', WHERE WHAT IT READS IS OF BULK AT MOST 1048576: true; the input reads as it did. -/
def earleyItemsUptoRow : OpenClaim := { program := "ytfgmockkpaacmaadoor", sum := "8158a0a28678e5b5d3056aaf263d4cbab7efc219d796b6d8c3114991ede0b121", func := "parlance/parlkeep3.EarleyItems", spec := "earleyItems", unfollowed := true, recurses := true, named := ["math/bits.deBruijn32tab"], plainKeys := false, apart := false, laid := [("math/bits.deBruijn32tab", laid_math_bits_deBruijn32tab)], narrowed := true }
def EarleyItemsUptoSaid : Prop := earleyItemsUptoRow.holds Tryd.pinned (OpenSpec.upto earleyItemsSpec)

/-- 'parlkeep3.EarleyBegins', WHERE WHAT IT READS IS OF BULK AT MOST 1048576: true; the input reads as it did. -/
def earleyBeginsUptoRow : OpenClaim := { program := "ytfgmockkpaacmaadoor", sum := "8158a0a28678e5b5d3056aaf263d4cbab7efc219d796b6d8c3114991ede0b121", func := "parlance/parlkeep3.EarleyBegins", spec := "earleyBegins", unfollowed := true, recurses := true, named := ["math/bits.deBruijn32tab"], plainKeys := false, apart := false, laid := [("math/bits.deBruijn32tab", laid_math_bits_deBruijn32tab)], narrowed := true }
def EarleyBeginsUptoSaid : Prop := earleyBeginsUptoRow.holds Tryd.pinned (OpenSpec.upto earleyBeginsSpec)

end Rows
end Go.Proofs.YtfgmockkpaacmaaDoor
