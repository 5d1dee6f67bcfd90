/-
  DERIVED. GIVEN WITH THE SEED: THE CARDS: each row of YtmbdmfjijofmmaaGreatDoorRows.lean that lists a variable, with what it lists TIED to the program's text (the seventh form; the later family's looks); each row that meets fmt, with fmt's text TOLD by the authors' own Lean function (tested against real Go, not proved from fmt's source: count such statements apart). THE CARD IS WHAT COUNTS. Prove the row's statement (the work); the ties are given (YtmbdmfjijofmmaaGreatDoorTie.lean); close each card by the builder's one call (the guide's Derived/Test/ToyasCard.lean, 'card_holds'). Laid BY PROGRAM, IN A SANDBOX (cutbox-door.mjs). By AI agents, Wed Nov 11 2026. No macro, syntax, notation, axiom, sorry.
-/
import Derived.Test.YtmbdmfjijofmmaaGreatDoorRows
import GoSem.ClaimSeven
namespace Go.Proofs.YtmbdmfjijofmmaaGreatDoor
namespace Rows

/-- THE TIED CARD OF 'parlkeep3.TableActs'. -/
def tableActsCard : Claim7 := { stood := { row := tableActsRow, standIns := [], harness := (true, "3f71e15a5b9fc3074ae6fc8a46fcddfd1043cf8a5ce1bf38fb5df717b0025254"), looks := true }, kinds := [], alts := [], laidByText := true, laidKinds := [.data, .data, .data], laidTests := true, laidLooks := .later }
def TableActsCardSaid : Prop := Claim7.holds Tryz.pinned (.plain (OpenSpec.ofChange tableActsSpec)) tableActsCard

/-- THE TIED CARD OF 'parlkeep3.GlrTops'. -/
def glrTopsCard : Claim7 := { stood := { row := glrTopsRow, standIns := [], harness := (true, "3f71e15a5b9fc3074ae6fc8a46fcddfd1043cf8a5ce1bf38fb5df717b0025254"), looks := true }, kinds := [], alts := [], laidByText := true, laidKinds := [.data, .data, .data], laidTests := true, laidLooks := .later }
def GlrTopsCardSaid : Prop := Claim7.holds Tryz.pinned (.plain (OpenSpec.ofChange glrTopsSpec)) glrTopsCard

/-- THE TIED CARD OF 'parlkeep3.ParsersSame'. -/
def parsersSameCard : Claim7 := { stood := { row := parsersSameRow, standIns := [], harness := (true, "3f71e15a5b9fc3074ae6fc8a46fcddfd1043cf8a5ce1bf38fb5df717b0025254"), looks := true }, kinds := [], alts := [], laidByText := true, laidKinds := [.data, .data, .data], laidTests := true, laidLooks := .later }
def ParsersSameCardSaid : Prop := Claim7.holds Tryz.pinned (.plain (OpenSpec.ofChange parsersSameSpec)) parsersSameCard

/-- THE TIED CARD OF 'parltop.TopTables'. -/
def topTablesCard : Claim7 := { stood := { row := topTablesRow, standIns := [], harness := (true, "3f71e15a5b9fc3074ae6fc8a46fcddfd1043cf8a5ce1bf38fb5df717b0025254"), looks := true }, kinds := [], alts := [], laidByText := true, laidKinds := [.data, .data, .data], laidTests := true, laidLooks := .later }
def TopTablesCardSaid : Prop := Claim7.holds Tryz.pinned (.plain (OpenSpec.ofChange topTablesSpec)) topTablesCard

/-- THE TIED CARD OF 'parlkeep3.ClashNone'. -/
def clashNoneCard : Claim7 := { stood := { row := clashNoneRow, standIns := [], harness := (true, "3f71e15a5b9fc3074ae6fc8a46fcddfd1043cf8a5ce1bf38fb5df717b0025254"), looks := true }, kinds := [], alts := [], laidByText := true, laidKinds := [.data, .data, .data], laidTests := true, laidLooks := .later }
def ClashNoneCardSaid : Prop := Claim7.holds Tryz.pinned (.plain (OpenSpec.ofChange clashNoneSpec)) clashNoneCard

/-- THE SECOND FORM's CARD OF 'parlkeep3.TableActs'. -/
def tableActsUptoCard : Claim7 := { stood := { row := tableActsUptoRow, standIns := [], harness := (true, "3f71e15a5b9fc3074ae6fc8a46fcddfd1043cf8a5ce1bf38fb5df717b0025254"), looks := true }, kinds := [], alts := [], laidByText := true, laidKinds := [.data, .data, .data], laidTests := true, laidLooks := .later }
def TableActsUptoCardSaid : Prop := Claim7.holds Tryz.pinned (.plain (OpenSpec.upto tableActsSpec)) tableActsUptoCard

/-- THE SECOND FORM's CARD OF 'parlkeep3.GlrTops'. -/
def glrTopsUptoCard : Claim7 := { stood := { row := glrTopsUptoRow, standIns := [], harness := (true, "3f71e15a5b9fc3074ae6fc8a46fcddfd1043cf8a5ce1bf38fb5df717b0025254"), looks := true }, kinds := [], alts := [], laidByText := true, laidKinds := [.data, .data, .data], laidTests := true, laidLooks := .later }
def GlrTopsUptoCardSaid : Prop := Claim7.holds Tryz.pinned (.plain (OpenSpec.upto glrTopsSpec)) glrTopsUptoCard

/-- THE SECOND FORM's CARD OF 'parlkeep3.ParsersSame'. -/
def parsersSameUptoCard : Claim7 := { stood := { row := parsersSameUptoRow, standIns := [], harness := (true, "3f71e15a5b9fc3074ae6fc8a46fcddfd1043cf8a5ce1bf38fb5df717b0025254"), looks := true }, kinds := [], alts := [], laidByText := true, laidKinds := [.data, .data, .data], laidTests := true, laidLooks := .later }
def ParsersSameUptoCardSaid : Prop := Claim7.holds Tryz.pinned (.plain (OpenSpec.upto parsersSameSpec)) parsersSameUptoCard

/-- THE SECOND FORM's CARD OF 'parltop.TopTables'. -/
def topTablesUptoCard : Claim7 := { stood := { row := topTablesUptoRow, standIns := [], harness := (true, "3f71e15a5b9fc3074ae6fc8a46fcddfd1043cf8a5ce1bf38fb5df717b0025254"), looks := true }, kinds := [], alts := [], laidByText := true, laidKinds := [.data, .data, .data], laidTests := true, laidLooks := .later }
def TopTablesUptoCardSaid : Prop := Claim7.holds Tryz.pinned (.plain (OpenSpec.upto topTablesSpec)) topTablesUptoCard

/-- THE SECOND FORM's CARD OF 'parlkeep3.ClashNone'. -/
def clashNoneUptoCard : Claim7 := { stood := { row := clashNoneUptoRow, standIns := [], harness := (true, "3f71e15a5b9fc3074ae6fc8a46fcddfd1043cf8a5ce1bf38fb5df717b0025254"), looks := true }, kinds := [], alts := [], laidByText := true, laidKinds := [.data, .data, .data], laidTests := true, laidLooks := .later }
def ClashNoneUptoCardSaid : Prop := Claim7.holds Tryz.pinned (.plain (OpenSpec.upto clashNoneSpec)) clashNoneUptoCard
end Rows
end Go.Proofs.YtmbdmfjijofmmaaGreatDoor
