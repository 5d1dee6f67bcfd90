/-
  DERIVED. GIVEN WITH THE SEED: THE CARDS: each row of YtebndojjghnhoaaGreatDoorRows.lean that lists a variable, with what it lists TIED to the program's text (the seventh form; the later family's looks); each row that meets fmt, with fmt's text TOLD by the authors' own Lean function (tested against real Go, not proved from fmt's source: count such statements apart). THE CARD IS WHAT COUNTS. Prove the row's statement (the work); the ties are given (YtebndojjghnhoaaGreatDoorTie.lean); close each card by the builder's one call (the guide's Derived/Test/ToyasCard.lean, 'card_holds'). Laid BY PROGRAM, IN A SANDBOX (cutbox-door.mjs). By AI agents, Wed Nov 11 2026. No macro, syntax, notation, axiom, sorry.
-/
import Derived.Test.YtebndojjghnhoaaGreatDoorRows
import GoSem.ClaimSeven
namespace Go.Proofs.YtebndojjghnhoaaGreatDoor
namespace Rows

/-- THE TIED CARD OF 'parlkeep3.ClashLeastWord'. -/
def clashLeastWordCard : Claim7 := { stood := { row := clashLeastWordRow, standIns := [], harness := (true, "0d5e5c087359768db8998bac9bc02121a2cbd08f3639d13f9bc6fee2cbbfaf70"), looks := true }, kinds := [], alts := [], laidByText := true, laidKinds := [.data, .data, .data], laidTests := true, laidLooks := .later }
def ClashLeastWordCardSaid : Prop := Claim7.holds Tryz.pinned (.plain (OpenSpec.ofChange clashLeastWordSpec)) clashLeastWordCard

/-- THE TIED CARD OF 'parlkeep3.ShiftOwn'. -/
def shiftOwnCard : Claim7 := { stood := { row := shiftOwnRow, standIns := [], harness := (true, "0d5e5c087359768db8998bac9bc02121a2cbd08f3639d13f9bc6fee2cbbfaf70"), looks := true }, kinds := [], alts := [], laidByText := true, laidKinds := [.data, .data, .data], laidTests := true, laidLooks := .later }
def ShiftOwnCardSaid : Prop := Claim7.holds Tryz.pinned (.plain (OpenSpec.ofChange shiftOwnSpec)) shiftOwnCard

/-- THE TIED CARD OF 'parlkeep3.ShiftOnly'. -/
def shiftOnlyCard : Claim7 := { stood := { row := shiftOnlyRow, standIns := [], harness := (true, "0d5e5c087359768db8998bac9bc02121a2cbd08f3639d13f9bc6fee2cbbfaf70"), looks := true }, kinds := [], alts := [], laidByText := true, laidKinds := [.data, .data, .data], laidTests := true, laidLooks := .later }
def ShiftOnlyCardSaid : Prop := Claim7.holds Tryz.pinned (.plain (OpenSpec.ofChange shiftOnlySpec)) shiftOnlyCard

/-- THE TIED CARD OF 'parlkeep3.ShiftPrefix'. -/
def shiftPrefixCard : Claim7 := { stood := { row := shiftPrefixRow, standIns := [], harness := (true, "0d5e5c087359768db8998bac9bc02121a2cbd08f3639d13f9bc6fee2cbbfaf70"), looks := true }, kinds := [], alts := [], laidByText := true, laidKinds := [.data, .data, .data], laidTests := true, laidLooks := .later }
def ShiftPrefixCardSaid : Prop := Claim7.holds Tryz.pinned (.plain (OpenSpec.ofChange shiftPrefixSpec)) shiftPrefixCard

/-- THE TIED CARD OF 'parlkeep3.ClashNone'. -/
def clashNoneCard : Claim7 := { stood := { row := clashNoneRow, standIns := [], harness := (true, "0d5e5c087359768db8998bac9bc02121a2cbd08f3639d13f9bc6fee2cbbfaf70"), looks := true }, kinds := [], alts := [], laidByText := true, laidKinds := [.data, .data, .data], laidTests := true, laidLooks := .later }
def ClashNoneCardSaid : Prop := Claim7.holds Tryz.pinned (.plain (OpenSpec.ofChange clashNoneSpec)) clashNoneCard

/-- THE TIED CARD OF 'parlkeep3.ClashWords'. -/
def clashWordsCard : Claim7 := { stood := { row := clashWordsRow, standIns := [], harness := (true, "0d5e5c087359768db8998bac9bc02121a2cbd08f3639d13f9bc6fee2cbbfaf70"), looks := true }, kinds := [], alts := [], laidByText := true, laidKinds := [.data, .data, .data], laidTests := true, laidLooks := .later }
def ClashWordsCardSaid : Prop := Claim7.holds Tryz.pinned (.plain (OpenSpec.ofChange clashWordsSpec)) clashWordsCard

/-- THE SECOND FORM's CARD OF 'parlkeep3.ClashLeastWord'. -/
def clashLeastWordUptoCard : Claim7 := { stood := { row := clashLeastWordUptoRow, standIns := [], harness := (true, "0d5e5c087359768db8998bac9bc02121a2cbd08f3639d13f9bc6fee2cbbfaf70"), looks := true }, kinds := [], alts := [], laidByText := true, laidKinds := [.data, .data, .data], laidTests := true, laidLooks := .later }
def ClashLeastWordUptoCardSaid : Prop := Claim7.holds Tryz.pinned (.plain (OpenSpec.upto clashLeastWordSpec)) clashLeastWordUptoCard

/-- THE SECOND FORM's CARD OF 'parlkeep3.ShiftOwn'. -/
def shiftOwnUptoCard : Claim7 := { stood := { row := shiftOwnUptoRow, standIns := [], harness := (true, "0d5e5c087359768db8998bac9bc02121a2cbd08f3639d13f9bc6fee2cbbfaf70"), looks := true }, kinds := [], alts := [], laidByText := true, laidKinds := [.data, .data, .data], laidTests := true, laidLooks := .later }
def ShiftOwnUptoCardSaid : Prop := Claim7.holds Tryz.pinned (.plain (OpenSpec.upto shiftOwnSpec)) shiftOwnUptoCard

/-- THE SECOND FORM's CARD OF 'parlkeep3.ShiftOnly'. -/
def shiftOnlyUptoCard : Claim7 := { stood := { row := shiftOnlyUptoRow, standIns := [], harness := (true, "0d5e5c087359768db8998bac9bc02121a2cbd08f3639d13f9bc6fee2cbbfaf70"), looks := true }, kinds := [], alts := [], laidByText := true, laidKinds := [.data, .data, .data], laidTests := true, laidLooks := .later }
def ShiftOnlyUptoCardSaid : Prop := Claim7.holds Tryz.pinned (.plain (OpenSpec.upto shiftOnlySpec)) shiftOnlyUptoCard

/-- THE SECOND FORM's CARD OF 'parlkeep3.ShiftPrefix'. -/
def shiftPrefixUptoCard : Claim7 := { stood := { row := shiftPrefixUptoRow, standIns := [], harness := (true, "0d5e5c087359768db8998bac9bc02121a2cbd08f3639d13f9bc6fee2cbbfaf70"), looks := true }, kinds := [], alts := [], laidByText := true, laidKinds := [.data, .data, .data], laidTests := true, laidLooks := .later }
def ShiftPrefixUptoCardSaid : Prop := Claim7.holds Tryz.pinned (.plain (OpenSpec.upto shiftPrefixSpec)) shiftPrefixUptoCard

/-- THE SECOND FORM's CARD OF 'parlkeep3.ClashNone'. -/
def clashNoneUptoCard : Claim7 := { stood := { row := clashNoneUptoRow, standIns := [], harness := (true, "0d5e5c087359768db8998bac9bc02121a2cbd08f3639d13f9bc6fee2cbbfaf70"), looks := true }, kinds := [], alts := [], laidByText := true, laidKinds := [.data, .data, .data], laidTests := true, laidLooks := .later }
def ClashNoneUptoCardSaid : Prop := Claim7.holds Tryz.pinned (.plain (OpenSpec.upto clashNoneSpec)) clashNoneUptoCard

/-- THE SECOND FORM's CARD OF 'parlkeep3.ClashWords'. -/
def clashWordsUptoCard : Claim7 := { stood := { row := clashWordsUptoRow, standIns := [], harness := (true, "0d5e5c087359768db8998bac9bc02121a2cbd08f3639d13f9bc6fee2cbbfaf70"), looks := true }, kinds := [], alts := [], laidByText := true, laidKinds := [.data, .data, .data], laidTests := true, laidLooks := .later }
def ClashWordsUptoCardSaid : Prop := Claim7.holds Tryz.pinned (.plain (OpenSpec.upto clashWordsSpec)) clashWordsUptoCard
end Rows
end Go.Proofs.YtebndojjghnhoaaGreatDoor
