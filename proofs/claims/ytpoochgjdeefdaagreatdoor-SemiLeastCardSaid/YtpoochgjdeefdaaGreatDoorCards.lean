/-
  DERIVED. GIVEN WITH THE SEED: THE CARDS: each row of YtpoochgjdeefdaaGreatDoorRows.lean that lists a variable, with what it lists TIED to the program's text (the seventh form; the later family's looks); each row that meets fmt, with fmt's text TOLD by the authors' own Lean function (tested against real Go, not proved from fmt's source: count such statements apart). THE CARD IS WHAT COUNTS. Prove the row's statement (the work); the ties are given (YtpoochgjdeefdaaGreatDoorTie.lean); close each card by the builder's one call (the guide's Derived/Test/ToyasCard.lean, 'card_holds'). Laid BY PROGRAM, IN A SANDBOX (cutbox-door.mjs). By AI agents, Wed Nov 11 2026. No macro, syntax, notation, axiom, sorry.
-/
import Derived.Test.YtpoochgjdeefdaaGreatDoorRows
import GoSem.ClaimSeven
namespace Go.Proofs.YtpoochgjdeefdaaGreatDoor
namespace Rows

/-- THE TIED CARD OF 'parlkeep3.DescentFirst'. -/
def descentFirstCard : Claim7 := { stood := { row := descentFirstRow, standIns := [], harness := (true, "8e3ac9fdc2106487111cb67475be097a821cd6b029ed258d14cba2c224f9ca46"), looks := true }, kinds := [], alts := [], laidByText := true, laidKinds := [.data], laidTests := true, laidLooks := .later }
def DescentFirstCardSaid : Prop := Claim7.holds Tryz.pinned (.plain (OpenSpec.ofChange descentFirstSpec)) descentFirstCard

/-- THE TIED CARD OF 'parlkeep3.SemiCounts'. -/
def semiCountsCard : Claim7 := { stood := { row := semiCountsRow, standIns := [], harness := (true, "8e3ac9fdc2106487111cb67475be097a821cd6b029ed258d14cba2c224f9ca46"), looks := true }, kinds := [], alts := [], laidByText := true, laidKinds := [.data], laidTests := true, laidLooks := .later }
def SemiCountsCardSaid : Prop := Claim7.holds Tryz.pinned (.plain (OpenSpec.ofChange semiCountsSpec)) semiCountsCard

/-- THE TIED CARD OF 'parlkeep3.SemiPairs'. -/
def semiPairsCard : Claim7 := { stood := { row := semiPairsRow, standIns := [], harness := (true, "8e3ac9fdc2106487111cb67475be097a821cd6b029ed258d14cba2c224f9ca46"), looks := true }, kinds := [], alts := [], laidByText := true, laidKinds := [.data], laidTests := true, laidLooks := .later }
def SemiPairsCardSaid : Prop := Claim7.holds Tryz.pinned (.plain (OpenSpec.ofChange semiPairsSpec)) semiPairsCard

/-- THE TIED CARD OF 'parlkeep3.SemiLeast'. -/
def semiLeastCard : Claim7 := { stood := { row := semiLeastRow, standIns := [], harness := (true, "8e3ac9fdc2106487111cb67475be097a821cd6b029ed258d14cba2c224f9ca46"), looks := true }, kinds := [], alts := [], laidByText := true, laidKinds := [.data], laidTests := true, laidLooks := .later }
def SemiLeastCardSaid : Prop := Claim7.holds Tryz.pinned (.plain (OpenSpec.ofChange semiLeastSpec)) semiLeastCard

/-- THE SECOND FORM's CARD OF 'parlkeep3.DescentFirst'. -/
def descentFirstUptoCard : Claim7 := { stood := { row := descentFirstUptoRow, standIns := [], harness := (true, "8e3ac9fdc2106487111cb67475be097a821cd6b029ed258d14cba2c224f9ca46"), looks := true }, kinds := [], alts := [], laidByText := true, laidKinds := [.data], laidTests := true, laidLooks := .later }
def DescentFirstUptoCardSaid : Prop := Claim7.holds Tryz.pinned (.plain (OpenSpec.upto descentFirstSpec)) descentFirstUptoCard

/-- THE SECOND FORM's CARD OF 'parlkeep3.SemiCounts'. -/
def semiCountsUptoCard : Claim7 := { stood := { row := semiCountsUptoRow, standIns := [], harness := (true, "8e3ac9fdc2106487111cb67475be097a821cd6b029ed258d14cba2c224f9ca46"), looks := true }, kinds := [], alts := [], laidByText := true, laidKinds := [.data], laidTests := true, laidLooks := .later }
def SemiCountsUptoCardSaid : Prop := Claim7.holds Tryz.pinned (.plain (OpenSpec.upto semiCountsSpec)) semiCountsUptoCard

/-- THE SECOND FORM's CARD OF 'parlkeep3.SemiPairs'. -/
def semiPairsUptoCard : Claim7 := { stood := { row := semiPairsUptoRow, standIns := [], harness := (true, "8e3ac9fdc2106487111cb67475be097a821cd6b029ed258d14cba2c224f9ca46"), looks := true }, kinds := [], alts := [], laidByText := true, laidKinds := [.data], laidTests := true, laidLooks := .later }
def SemiPairsUptoCardSaid : Prop := Claim7.holds Tryz.pinned (.plain (OpenSpec.upto semiPairsSpec)) semiPairsUptoCard

/-- THE SECOND FORM's CARD OF 'parlkeep3.SemiLeast'. -/
def semiLeastUptoCard : Claim7 := { stood := { row := semiLeastUptoRow, standIns := [], harness := (true, "8e3ac9fdc2106487111cb67475be097a821cd6b029ed258d14cba2c224f9ca46"), looks := true }, kinds := [], alts := [], laidByText := true, laidKinds := [.data], laidTests := true, laidLooks := .later }
def SemiLeastUptoCardSaid : Prop := Claim7.holds Tryz.pinned (.plain (OpenSpec.upto semiLeastSpec)) semiLeastUptoCard
end Rows
end Go.Proofs.YtpoochgjdeefdaaGreatDoor
