/-
  DERIVED. GIVEN WITH THE SEED: THE CARDS: each row of YtpoochgjdeefdaaDoorRows.lean that lists a variable, with what it lists TIED to the program's text (the seventh form; the later family's looks); each row that meets fmt, with fmt's text TOLD by the authors' own Lean function (tested against real Go, not proved from fmt's source: count such statements apart). THE CARD IS WHAT COUNTS. Prove the row's statement (the work); the ties are given (YtpoochgjdeefdaaDoorTie.lean); close each card by the builder's one call (the guide's Derived/Test/ToyasCard.lean, 'card_holds'). Laid BY PROGRAM, IN A SANDBOX (cutbox-door.mjs). By AI agents, Wed Nov 11 2026. No macro, syntax, notation, axiom, sorry.
-/
import Derived.Test.YtpoochgjdeefdaaDoorRows
import GoSem.ClaimSeven
namespace Go.Proofs.YtpoochgjdeefdaaDoor
namespace Rows

/-- THE TIED CARD OF 'parltop.RepairIsLeast'. -/
def repairIsLeastCard : Claim7 := { stood := { row := repairIsLeastRow, standIns := [], harness := (true, "9acc7483947da5547fe6cdc3e24103b991759ea9b1bf3645a8e73526342b8ef5"), looks := false }, kinds := [], alts := [], laidByText := true, laidKinds := [.data], laidTests := true, laidLooks := .later }
def RepairIsLeastCardSaid : Prop := Claim7.holds Tryd.pinned (.plain (OpenSpec.ofChange repairIsLeastSpec)) repairIsLeastCard

/-- THE TIED CARD OF 'parltop.HolesFollowFeed'. -/
def holesFollowFeedCard : Claim7 := { stood := { row := holesFollowFeedRow, standIns := [], harness := (true, "9acc7483947da5547fe6cdc3e24103b991759ea9b1bf3645a8e73526342b8ef5"), looks := false }, kinds := [], alts := [], laidByText := true, laidKinds := [.data], laidTests := true, laidLooks := .later }
def HolesFollowFeedCardSaid : Prop := Claim7.holds Tryd.pinned (.plain (OpenSpec.ofChange holesFollowFeedSpec)) holesFollowFeedCard

/-- THE SECOND FORM's CARD OF 'parltop.RepairIsLeast'. -/
def repairIsLeastUptoCard : Claim7 := { stood := { row := repairIsLeastUptoRow, standIns := [], harness := (true, "9acc7483947da5547fe6cdc3e24103b991759ea9b1bf3645a8e73526342b8ef5"), looks := false }, kinds := [], alts := [], laidByText := true, laidKinds := [.data], laidTests := true, laidLooks := .later }
def RepairIsLeastUptoCardSaid : Prop := Claim7.holds Tryd.pinned (.plain (OpenSpec.upto repairIsLeastSpec)) repairIsLeastUptoCard

/-- THE SECOND FORM's CARD OF 'parltop.HolesFollowFeed'. -/
def holesFollowFeedUptoCard : Claim7 := { stood := { row := holesFollowFeedUptoRow, standIns := [], harness := (true, "9acc7483947da5547fe6cdc3e24103b991759ea9b1bf3645a8e73526342b8ef5"), looks := false }, kinds := [], alts := [], laidByText := true, laidKinds := [.data], laidTests := true, laidLooks := .later }
def HolesFollowFeedUptoCardSaid : Prop := Claim7.holds Tryd.pinned (.plain (OpenSpec.upto holesFollowFeedSpec)) holesFollowFeedUptoCard
end Rows
end Go.Proofs.YtpoochgjdeefdaaDoor
