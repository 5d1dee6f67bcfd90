/-
  DERIVED. GIVEN WITH THE SEED: THE CARDS: each row of YtmbdmfjijofmmaaDoorRows.lean that lists a variable, with what it lists TIED to the program's text (the seventh form; the later family's looks); each row that meets fmt, with fmt's text TOLD by the authors' own Lean function (tested against real Go, not proved from fmt's source: count such statements apart). THE CARD IS WHAT COUNTS. Prove the row's statement (the work); the ties are given (YtmbdmfjijofmmaaDoorTie.lean); close each card by the builder's one call (the guide's Derived/Test/ToyasCard.lean, 'card_holds'). Laid BY PROGRAM, IN A SANDBOX (cutbox-door.mjs). By AI agents, Wed Nov 11 2026. No macro, syntax, notation, axiom, sorry.
-/
import Derived.Test.YtmbdmfjijofmmaaDoorRows
import GoSem.ClaimSeven
namespace Go.Proofs.YtmbdmfjijofmmaaDoor
namespace Rows

/-- THE TIED CARD OF 'parlkeep3.ItemsNext'. -/
def itemsNextCard : Claim7 := { stood := { row := itemsNextRow, standIns := [], harness := (true, "e85a4ae66be37b6ff7e4453d58523aea40574b31e87fadd21f6e26b5cdf8ea9a"), looks := false }, kinds := [], alts := [], laidByText := true, laidKinds := [.data, .data, .data], laidTests := true, laidLooks := .later }
def ItemsNextCardSaid : Prop := Claim7.holds Tryd.pinned (.plain (OpenSpec.ofChange itemsNextSpec)) itemsNextCard

/-- THE SECOND FORM's CARD OF 'parlkeep3.ItemsNext'. -/
def itemsNextUptoCard : Claim7 := { stood := { row := itemsNextUptoRow, standIns := [], harness := (true, "e85a4ae66be37b6ff7e4453d58523aea40574b31e87fadd21f6e26b5cdf8ea9a"), looks := false }, kinds := [], alts := [], laidByText := true, laidKinds := [.data, .data, .data], laidTests := true, laidLooks := .later }
def ItemsNextUptoCardSaid : Prop := Claim7.holds Tryd.pinned (.plain (OpenSpec.upto itemsNextSpec)) itemsNextUptoCard
end Rows
end Go.Proofs.YtmbdmfjijofmmaaDoor
