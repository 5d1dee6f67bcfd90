/-
  DERIVED. GIVEN WITH THE SEED: THE CARDS: each row of YtbfmpklhcbfnaaaGreatDoorRows.lean that lists a variable, with what it lists TIED to the program's text (the seventh form; the later family's looks); each row that meets fmt, with fmt's text TOLD by the authors' own Lean function (tested against real Go, not proved from fmt's source: count such statements apart). THE CARD IS WHAT COUNTS. Prove the row's statement (the work); the ties are given (YtbfmpklhcbfnaaaGreatDoorTie.lean); close each card by the builder's one call (the guide's Derived/Test/ToyasCard.lean, 'card_holds'). Laid BY PROGRAM, IN A SANDBOX (cutbox-door.mjs). By AI agents, Wed Nov 11 2026. No macro, syntax, notation, axiom, sorry.
-/
import Derived.Test.YtbfmpklhcbfnaaaGreatDoorRows
import GoSem.ClaimSeven
namespace Go.Proofs.YtbfmpklhcbfnaaaGreatDoor
namespace Rows

/-- THE TIED CARD OF 'parlkeep3.FeedBack'. -/
def feedBackCard : Claim7 := { stood := { row := feedBackRow, standIns := [], harness := (true, "2be02dd82ee470205708513dd24142b43d92f2f14de380492be0301513d646ff"), looks := true }, kinds := [], alts := [], laidByText := true, laidKinds := [.data], laidTests := true, laidLooks := .later }
def FeedBackCardSaid : Prop := Claim7.holds Tryz.pinned (.plain (OpenSpec.ofChange feedBackSpec)) feedBackCard

/-- THE TIED CARD OF 'parlkeep3.FeedOwn'. -/
def feedOwnCard : Claim7 := { stood := { row := feedOwnRow, standIns := [], harness := (true, "2be02dd82ee470205708513dd24142b43d92f2f14de380492be0301513d646ff"), looks := true }, kinds := [], alts := [], laidByText := true, laidKinds := [.data], laidTests := true, laidLooks := .later }
def FeedOwnCardSaid : Prop := Claim7.holds Tryz.pinned (.plain (OpenSpec.ofChange feedOwnSpec)) feedOwnCard

/-- THE TIED CARD OF 'parlkeep3.ForestTrees'. -/
def forestTreesCard : Claim7 := { stood := { row := forestTreesRow, standIns := [], harness := (true, "2be02dd82ee470205708513dd24142b43d92f2f14de380492be0301513d646ff"), looks := true }, kinds := [], alts := [], laidByText := true, laidKinds := [.data], laidTests := true, laidLooks := .later }
def ForestTreesCardSaid : Prop := Claim7.holds Tryz.pinned (.plain (OpenSpec.ofChange forestTreesSpec)) forestTreesCard

/-- THE TIED CARD OF 'parlkeep3.DescentFirst'. -/
def descentFirstCard : Claim7 := { stood := { row := descentFirstRow, standIns := [], harness := (true, "2be02dd82ee470205708513dd24142b43d92f2f14de380492be0301513d646ff"), looks := true }, kinds := [], alts := [], laidByText := true, laidKinds := [.data], laidTests := true, laidLooks := .later }
def DescentFirstCardSaid : Prop := Claim7.holds Tryz.pinned (.plain (OpenSpec.ofChange descentFirstSpec)) descentFirstCard

/-- THE TIED CARD OF 'parlkeep3.ShiftOwn'. -/
def shiftOwnCard : Claim7 := { stood := { row := shiftOwnRow, standIns := [], harness := (true, "2be02dd82ee470205708513dd24142b43d92f2f14de380492be0301513d646ff"), looks := true }, kinds := [], alts := [], laidByText := true, laidKinds := [.data, .data, .data], laidTests := true, laidLooks := .later }
def ShiftOwnCardSaid : Prop := Claim7.holds Tryz.pinned (.plain (OpenSpec.ofChange shiftOwnSpec)) shiftOwnCard

/-- THE SECOND FORM's CARD OF 'parlkeep3.FeedBack'. -/
def feedBackUptoCard : Claim7 := { stood := { row := feedBackUptoRow, standIns := [], harness := (true, "2be02dd82ee470205708513dd24142b43d92f2f14de380492be0301513d646ff"), looks := true }, kinds := [], alts := [], laidByText := true, laidKinds := [.data], laidTests := true, laidLooks := .later }
def FeedBackUptoCardSaid : Prop := Claim7.holds Tryz.pinned (.plain (OpenSpec.upto feedBackSpec)) feedBackUptoCard

/-- THE SECOND FORM's CARD OF 'parlkeep3.FeedOwn'. -/
def feedOwnUptoCard : Claim7 := { stood := { row := feedOwnUptoRow, standIns := [], harness := (true, "2be02dd82ee470205708513dd24142b43d92f2f14de380492be0301513d646ff"), looks := true }, kinds := [], alts := [], laidByText := true, laidKinds := [.data], laidTests := true, laidLooks := .later }
def FeedOwnUptoCardSaid : Prop := Claim7.holds Tryz.pinned (.plain (OpenSpec.upto feedOwnSpec)) feedOwnUptoCard

/-- THE SECOND FORM's CARD OF 'parlkeep3.ForestTrees'. -/
def forestTreesUptoCard : Claim7 := { stood := { row := forestTreesUptoRow, standIns := [], harness := (true, "2be02dd82ee470205708513dd24142b43d92f2f14de380492be0301513d646ff"), looks := true }, kinds := [], alts := [], laidByText := true, laidKinds := [.data], laidTests := true, laidLooks := .later }
def ForestTreesUptoCardSaid : Prop := Claim7.holds Tryz.pinned (.plain (OpenSpec.upto forestTreesSpec)) forestTreesUptoCard

/-- THE SECOND FORM's CARD OF 'parlkeep3.DescentFirst'. -/
def descentFirstUptoCard : Claim7 := { stood := { row := descentFirstUptoRow, standIns := [], harness := (true, "2be02dd82ee470205708513dd24142b43d92f2f14de380492be0301513d646ff"), looks := true }, kinds := [], alts := [], laidByText := true, laidKinds := [.data], laidTests := true, laidLooks := .later }
def DescentFirstUptoCardSaid : Prop := Claim7.holds Tryz.pinned (.plain (OpenSpec.upto descentFirstSpec)) descentFirstUptoCard

/-- THE SECOND FORM's CARD OF 'parlkeep3.ShiftOwn'. -/
def shiftOwnUptoCard : Claim7 := { stood := { row := shiftOwnUptoRow, standIns := [], harness := (true, "2be02dd82ee470205708513dd24142b43d92f2f14de380492be0301513d646ff"), looks := true }, kinds := [], alts := [], laidByText := true, laidKinds := [.data, .data, .data], laidTests := true, laidLooks := .later }
def ShiftOwnUptoCardSaid : Prop := Claim7.holds Tryz.pinned (.plain (OpenSpec.upto shiftOwnSpec)) shiftOwnUptoCard
end Rows
end Go.Proofs.YtbfmpklhcbfnaaaGreatDoor
