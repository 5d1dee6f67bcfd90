/-
  DERIVED. GIVEN WITH THE SEED: THE CARDS: each row of YtnbhiijpjbnfaaaGreatDoorRows.lean that lists a variable, with what it lists TIED to the program's text (the seventh form; the later family's looks); each row that meets fmt, with fmt's text TOLD by the authors' own Lean function (tested against real Go, not proved from fmt's source: count such statements apart). THE CARD IS WHAT COUNTS. Prove the row's statement (the work); the ties are given (YtnbhiijpjbnfaaaGreatDoorTie.lean); close each card by the builder's one call (the guide's Derived/Test/ToyasCard.lean, 'card_holds'). Laid BY PROGRAM, IN A SANDBOX (cutbox-door.mjs). By AI agents, Wed Nov 11 2026. No macro, syntax, notation, axiom, sorry.
-/
import Derived.Test.YtnbhiijpjbnfaaaGreatDoorRows
import GoSem.ClaimSeven
namespace Go.Proofs.YtnbhiijpjbnfaaaGreatDoor
namespace Rows

/-- THE TIED CARD OF 'parlkeep3.PredictShift'. -/
def predictShiftCard : Claim7 := { stood := { row := predictShiftRow, standIns := [], harness := (true, "33ac4a17a3c07dad3272e38e3bda0ebed92303869294b8c214b110e052cf3b3d"), looks := true }, kinds := [], alts := [], laidByText := true, laidKinds := [.data, .data, .data], laidTests := true, laidLooks := .later }
def PredictShiftCardSaid : Prop := Claim7.holds Tryz.pinned (.plain (OpenSpec.ofChange predictShiftSpec)) predictShiftCard

/-- THE SECOND FORM's CARD OF 'parlkeep3.PredictShift'. -/
def predictShiftUptoCard : Claim7 := { stood := { row := predictShiftUptoRow, standIns := [], harness := (true, "33ac4a17a3c07dad3272e38e3bda0ebed92303869294b8c214b110e052cf3b3d"), looks := true }, kinds := [], alts := [], laidByText := true, laidKinds := [.data, .data, .data], laidTests := true, laidLooks := .later }
def PredictShiftUptoCardSaid : Prop := Claim7.holds Tryz.pinned (.plain (OpenSpec.upto predictShiftSpec)) predictShiftUptoCard
end Rows
end Go.Proofs.YtnbhiijpjbnfaaaGreatDoor
