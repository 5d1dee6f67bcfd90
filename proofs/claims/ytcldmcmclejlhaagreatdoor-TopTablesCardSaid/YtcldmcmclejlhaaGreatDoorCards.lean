/-
  DERIVED. GIVEN WITH THE SEED: THE CARDS: each row of YtcldmcmclejlhaaGreatDoorRows.lean that lists a variable, with what it lists TIED to the program's text (the seventh form; the later family's looks); each row that meets fmt, with fmt's text TOLD by the authors' own Lean function (tested against real Go, not proved from fmt's source: count such statements apart). THE CARD IS WHAT COUNTS. Prove the row's statement (the work); the ties are given (YtcldmcmclejlhaaGreatDoorTie.lean); close each card by the builder's one call (the guide's Derived/Test/ToyasCard.lean, 'card_holds'). Laid BY PROGRAM, IN A SANDBOX (cutbox-door.mjs). By AI agents, Wed Nov 11 2026. No macro, syntax, notation, axiom, sorry.
-/
import Derived.Test.YtcldmcmclejlhaaGreatDoorRows
import GoSem.ClaimSeven
namespace Go.Proofs.YtcldmcmclejlhaaGreatDoor
namespace Rows

/-- THE TIED CARD OF 'parltop.TopTables'. -/
def topTablesCard : Claim7 := { stood := { row := topTablesRow, standIns := [], harness := (true, "aaa9b0810396f1d70c7ed7fce013db219b8e7777fe55abbe685a7215bdf0f779"), looks := true }, kinds := [], alts := [], laidByText := true, laidKinds := [.data, .data, .data], laidTests := true, laidLooks := .later }
def TopTablesCardSaid : Prop := Claim7.holds Tryz.pinned (.plain (OpenSpec.ofChange topTablesSpec)) topTablesCard

/-- THE SECOND FORM's CARD OF 'parltop.TopTables'. -/
def topTablesUptoCard : Claim7 := { stood := { row := topTablesUptoRow, standIns := [], harness := (true, "aaa9b0810396f1d70c7ed7fce013db219b8e7777fe55abbe685a7215bdf0f779"), looks := true }, kinds := [], alts := [], laidByText := true, laidKinds := [.data, .data, .data], laidTests := true, laidLooks := .later }
def TopTablesUptoCardSaid : Prop := Claim7.holds Tryz.pinned (.plain (OpenSpec.upto topTablesSpec)) topTablesUptoCard
end Rows
end Go.Proofs.YtcldmcmclejlhaaGreatDoor
