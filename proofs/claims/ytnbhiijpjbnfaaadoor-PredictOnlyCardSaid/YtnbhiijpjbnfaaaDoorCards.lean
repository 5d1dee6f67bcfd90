/-
  DERIVED. GIVEN WITH THE SEED: THE CARDS: each row of YtnbhiijpjbnfaaaDoorRows.lean that lists a variable, with what it lists TIED to the program's text (the seventh form; the later family's looks); each row that meets fmt, with fmt's text TOLD by the authors' own Lean function (tested against real Go, not proved from fmt's source: count such statements apart). THE CARD IS WHAT COUNTS. Prove the row's statement (the work); the ties are given (YtnbhiijpjbnfaaaDoorTie.lean); close each card by the builder's one call (the guide's Derived/Test/ToyasCard.lean, 'card_holds'). Laid BY PROGRAM, IN A SANDBOX (cutbox-door.mjs). By AI agents, Wed Nov 11 2026. No macro, syntax, notation, axiom, sorry.
-/
import Derived.Test.YtnbhiijpjbnfaaaDoorRows
import GoSem.ClaimSeven
namespace Go.Proofs.YtnbhiijpjbnfaaaDoor
namespace Rows

/-- THE TIED CARD OF 'parlkeep3.PackratPredicts'. -/
def packratPredictsCard : Claim7 := { stood := { row := packratPredictsRow, standIns := [], harness := (true, "4e2d31a05cb6e29a1460465ad72081f639dc331a50882603c3f6bca6db22d66e"), looks := true }, kinds := [], alts := [], laidByText := true, laidKinds := [.data], laidTests := true, laidLooks := .later }
def PackratPredictsCardSaid : Prop := Claim7.holds Tryd.pinned (.plain (OpenSpec.ofChange packratPredictsSpec)) packratPredictsCard

/-- THE TIED CARD OF 'parlkeep3.PredictOnly'. -/
def predictOnlyCard : Claim7 := { stood := { row := predictOnlyRow, standIns := [], harness := (true, "4e2d31a05cb6e29a1460465ad72081f639dc331a50882603c3f6bca6db22d66e"), looks := true }, kinds := [], alts := [], laidByText := true, laidKinds := [.data], laidTests := true, laidLooks := .later }
def PredictOnlyCardSaid : Prop := Claim7.holds Tryd.pinned (.plain (OpenSpec.ofChange predictOnlySpec)) predictOnlyCard

/-- THE SECOND FORM's CARD OF 'parlkeep3.PackratPredicts'. -/
def packratPredictsUptoCard : Claim7 := { stood := { row := packratPredictsUptoRow, standIns := [], harness := (true, "4e2d31a05cb6e29a1460465ad72081f639dc331a50882603c3f6bca6db22d66e"), looks := true }, kinds := [], alts := [], laidByText := true, laidKinds := [.data], laidTests := true, laidLooks := .later }
def PackratPredictsUptoCardSaid : Prop := Claim7.holds Tryd.pinned (.plain (OpenSpec.upto packratPredictsSpec)) packratPredictsUptoCard

/-- THE SECOND FORM's CARD OF 'parlkeep3.PredictOnly'. -/
def predictOnlyUptoCard : Claim7 := { stood := { row := predictOnlyUptoRow, standIns := [], harness := (true, "4e2d31a05cb6e29a1460465ad72081f639dc331a50882603c3f6bca6db22d66e"), looks := true }, kinds := [], alts := [], laidByText := true, laidKinds := [.data], laidTests := true, laidLooks := .later }
def PredictOnlyUptoCardSaid : Prop := Claim7.holds Tryd.pinned (.plain (OpenSpec.upto predictOnlySpec)) predictOnlyUptoCard
end Rows
end Go.Proofs.YtnbhiijpjbnfaaaDoor
