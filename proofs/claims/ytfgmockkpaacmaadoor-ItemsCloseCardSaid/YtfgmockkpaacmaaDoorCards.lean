/-
  DERIVED. GIVEN WITH THE SEED: THE CARDS: each row of YtfgmockkpaacmaaDoorRows.lean that lists a variable, with what it lists TIED to the program's text (the seventh form; the later family's looks); each row that meets fmt, with fmt's text TOLD by the authors' own Lean function (tested against real Go, not proved from fmt's source: count such statements apart). THE CARD IS WHAT COUNTS. Prove the row's statement (the work); the ties are given (YtfgmockkpaacmaaDoorTie.lean); close each card by the builder's one call (the guide's Derived/Test/ToyasCard.lean, 'card_holds'). Laid BY PROGRAM, IN A SANDBOX (cutbox-door.mjs). By AI agents, Wed Nov 11 2026. No macro, syntax, notation, axiom, sorry.
-/
import Derived.Test.YtfgmockkpaacmaaDoorRows
import GoSem.ClaimSeven
namespace Go.Proofs.YtfgmockkpaacmaaDoor
namespace Rows

/-- THE TIED CARD OF 'parlkeep3.FeedWords'. -/
def feedWordsCard : Claim7 := { stood := { row := feedWordsRow, standIns := [], harness := (true, "c8379cad4d1f93a3e4108fbd2f59bedc8fabe05599d9aa2a54472769d86537b6"), looks := true }, kinds := [], alts := [], laidByText := true, laidKinds := [.data], laidTests := true, laidLooks := .later }
def FeedWordsCardSaid : Prop := Claim7.holds Tryd.pinned (.plain (OpenSpec.ofChange feedWordsSpec)) feedWordsCard

/-- THE TIED CARD OF 'parlkeep3.PackratTree'. -/
def packratTreeCard : Claim7 := { stood := { row := packratTreeRow, standIns := [], harness := (true, "c8379cad4d1f93a3e4108fbd2f59bedc8fabe05599d9aa2a54472769d86537b6"), looks := true }, kinds := [], alts := [], laidByText := true, laidKinds := [.data], laidTests := true, laidLooks := .later }
def PackratTreeCardSaid : Prop := Claim7.holds Tryd.pinned (.plain (OpenSpec.ofChange packratTreeSpec)) packratTreeCard

/-- THE TIED CARD OF 'parlkeep3.DescentLeft'. -/
def descentLeftCard : Claim7 := { stood := { row := descentLeftRow, standIns := [], harness := (true, "c8379cad4d1f93a3e4108fbd2f59bedc8fabe05599d9aa2a54472769d86537b6"), looks := true }, kinds := [], alts := [], laidByText := true, laidKinds := [.data], laidTests := true, laidLooks := .later }
def DescentLeftCardSaid : Prop := Claim7.holds Tryd.pinned (.plain (OpenSpec.ofChange descentLeftSpec)) descentLeftCard

/-- THE TIED CARD OF 'parlkeep3.PackratPredicts'. -/
def packratPredictsCard : Claim7 := { stood := { row := packratPredictsRow, standIns := [], harness := (true, "c8379cad4d1f93a3e4108fbd2f59bedc8fabe05599d9aa2a54472769d86537b6"), looks := true }, kinds := [], alts := [], laidByText := true, laidKinds := [.data], laidTests := true, laidLooks := .later }
def PackratPredictsCardSaid : Prop := Claim7.holds Tryd.pinned (.plain (OpenSpec.ofChange packratPredictsSpec)) packratPredictsCard

/-- THE TIED CARD OF 'parlkeep3.CykParts'. -/
def cykPartsCard : Claim7 := { stood := { row := cykPartsRow, standIns := [], harness := (true, "c8379cad4d1f93a3e4108fbd2f59bedc8fabe05599d9aa2a54472769d86537b6"), looks := true }, kinds := [], alts := [], laidByText := true, laidKinds := [.data], laidTests := true, laidLooks := .later }
def CykPartsCardSaid : Prop := Claim7.holds Tryd.pinned (.plain (OpenSpec.ofChange cykPartsSpec)) cykPartsCard

/-- THE TIED CARD OF 'parlkeep3.CykJoins'. -/
def cykJoinsCard : Claim7 := { stood := { row := cykJoinsRow, standIns := [], harness := (true, "c8379cad4d1f93a3e4108fbd2f59bedc8fabe05599d9aa2a54472769d86537b6"), looks := true }, kinds := [], alts := [], laidByText := true, laidKinds := [.data], laidTests := true, laidLooks := .later }
def CykJoinsCardSaid : Prop := Claim7.holds Tryd.pinned (.plain (OpenSpec.ofChange cykJoinsSpec)) cykJoinsCard

/-- THE TIED CARD OF 'parlkeep3.ItemsNext'. -/
def itemsNextCard : Claim7 := { stood := { row := itemsNextRow, standIns := [], harness := (true, "c8379cad4d1f93a3e4108fbd2f59bedc8fabe05599d9aa2a54472769d86537b6"), looks := true }, kinds := [], alts := [], laidByText := true, laidKinds := [.data, .data, .data], laidTests := true, laidLooks := .later }
def ItemsNextCardSaid : Prop := Claim7.holds Tryd.pinned (.plain (OpenSpec.ofChange itemsNextSpec)) itemsNextCard

/-- THE TIED CARD OF 'parlkeep3.ItemsClose'. -/
def itemsCloseCard : Claim7 := { stood := { row := itemsCloseRow, standIns := [], harness := (true, "c8379cad4d1f93a3e4108fbd2f59bedc8fabe05599d9aa2a54472769d86537b6"), looks := true }, kinds := [], alts := [], laidByText := true, laidKinds := [.data, .data, .data], laidTests := true, laidLooks := .later }
def ItemsCloseCardSaid : Prop := Claim7.holds Tryd.pinned (.plain (OpenSpec.ofChange itemsCloseSpec)) itemsCloseCard

/-- THE TIED CARD OF 'parlkeep3.EarleyItems'. -/
def earleyItemsCard : Claim7 := { stood := { row := earleyItemsRow, standIns := [], harness := (true, "c8379cad4d1f93a3e4108fbd2f59bedc8fabe05599d9aa2a54472769d86537b6"), looks := true }, kinds := [], alts := [], laidByText := true, laidKinds := [.data], laidTests := true, laidLooks := .later }
def EarleyItemsCardSaid : Prop := Claim7.holds Tryd.pinned (.plain (OpenSpec.ofChange earleyItemsSpec)) earleyItemsCard

/-- THE TIED CARD OF 'parlkeep3.EarleyBegins'. -/
def earleyBeginsCard : Claim7 := { stood := { row := earleyBeginsRow, standIns := [], harness := (true, "c8379cad4d1f93a3e4108fbd2f59bedc8fabe05599d9aa2a54472769d86537b6"), looks := true }, kinds := [], alts := [], laidByText := true, laidKinds := [.data], laidTests := true, laidLooks := .later }
def EarleyBeginsCardSaid : Prop := Claim7.holds Tryd.pinned (.plain (OpenSpec.ofChange earleyBeginsSpec)) earleyBeginsCard

/-- THE SECOND FORM's CARD OF 'parlkeep3.FeedWords'. -/
def feedWordsUptoCard : Claim7 := { stood := { row := feedWordsUptoRow, standIns := [], harness := (true, "c8379cad4d1f93a3e4108fbd2f59bedc8fabe05599d9aa2a54472769d86537b6"), looks := true }, kinds := [], alts := [], laidByText := true, laidKinds := [.data], laidTests := true, laidLooks := .later }
def FeedWordsUptoCardSaid : Prop := Claim7.holds Tryd.pinned (.plain (OpenSpec.upto feedWordsSpec)) feedWordsUptoCard

/-- THE SECOND FORM's CARD OF 'parlkeep3.PackratTree'. -/
def packratTreeUptoCard : Claim7 := { stood := { row := packratTreeUptoRow, standIns := [], harness := (true, "c8379cad4d1f93a3e4108fbd2f59bedc8fabe05599d9aa2a54472769d86537b6"), looks := true }, kinds := [], alts := [], laidByText := true, laidKinds := [.data], laidTests := true, laidLooks := .later }
def PackratTreeUptoCardSaid : Prop := Claim7.holds Tryd.pinned (.plain (OpenSpec.upto packratTreeSpec)) packratTreeUptoCard

/-- THE SECOND FORM's CARD OF 'parlkeep3.DescentLeft'. -/
def descentLeftUptoCard : Claim7 := { stood := { row := descentLeftUptoRow, standIns := [], harness := (true, "c8379cad4d1f93a3e4108fbd2f59bedc8fabe05599d9aa2a54472769d86537b6"), looks := true }, kinds := [], alts := [], laidByText := true, laidKinds := [.data], laidTests := true, laidLooks := .later }
def DescentLeftUptoCardSaid : Prop := Claim7.holds Tryd.pinned (.plain (OpenSpec.upto descentLeftSpec)) descentLeftUptoCard

/-- THE SECOND FORM's CARD OF 'parlkeep3.PackratPredicts'. -/
def packratPredictsUptoCard : Claim7 := { stood := { row := packratPredictsUptoRow, standIns := [], harness := (true, "c8379cad4d1f93a3e4108fbd2f59bedc8fabe05599d9aa2a54472769d86537b6"), looks := true }, kinds := [], alts := [], laidByText := true, laidKinds := [.data], laidTests := true, laidLooks := .later }
def PackratPredictsUptoCardSaid : Prop := Claim7.holds Tryd.pinned (.plain (OpenSpec.upto packratPredictsSpec)) packratPredictsUptoCard

/-- THE SECOND FORM's CARD OF 'parlkeep3.CykParts'. -/
def cykPartsUptoCard : Claim7 := { stood := { row := cykPartsUptoRow, standIns := [], harness := (true, "c8379cad4d1f93a3e4108fbd2f59bedc8fabe05599d9aa2a54472769d86537b6"), looks := true }, kinds := [], alts := [], laidByText := true, laidKinds := [.data], laidTests := true, laidLooks := .later }
def CykPartsUptoCardSaid : Prop := Claim7.holds Tryd.pinned (.plain (OpenSpec.upto cykPartsSpec)) cykPartsUptoCard

/-- THE SECOND FORM's CARD OF 'parlkeep3.CykJoins'. -/
def cykJoinsUptoCard : Claim7 := { stood := { row := cykJoinsUptoRow, standIns := [], harness := (true, "c8379cad4d1f93a3e4108fbd2f59bedc8fabe05599d9aa2a54472769d86537b6"), looks := true }, kinds := [], alts := [], laidByText := true, laidKinds := [.data], laidTests := true, laidLooks := .later }
def CykJoinsUptoCardSaid : Prop := Claim7.holds Tryd.pinned (.plain (OpenSpec.upto cykJoinsSpec)) cykJoinsUptoCard

/-- THE SECOND FORM's CARD OF 'parlkeep3.ItemsNext'. -/
def itemsNextUptoCard : Claim7 := { stood := { row := itemsNextUptoRow, standIns := [], harness := (true, "c8379cad4d1f93a3e4108fbd2f59bedc8fabe05599d9aa2a54472769d86537b6"), looks := true }, kinds := [], alts := [], laidByText := true, laidKinds := [.data, .data, .data], laidTests := true, laidLooks := .later }
def ItemsNextUptoCardSaid : Prop := Claim7.holds Tryd.pinned (.plain (OpenSpec.upto itemsNextSpec)) itemsNextUptoCard

/-- THE SECOND FORM's CARD OF 'parlkeep3.ItemsClose'. -/
def itemsCloseUptoCard : Claim7 := { stood := { row := itemsCloseUptoRow, standIns := [], harness := (true, "c8379cad4d1f93a3e4108fbd2f59bedc8fabe05599d9aa2a54472769d86537b6"), looks := true }, kinds := [], alts := [], laidByText := true, laidKinds := [.data, .data, .data], laidTests := true, laidLooks := .later }
def ItemsCloseUptoCardSaid : Prop := Claim7.holds Tryd.pinned (.plain (OpenSpec.upto itemsCloseSpec)) itemsCloseUptoCard

/-- THE SECOND FORM's CARD OF 'parlkeep3.EarleyItems'. -/
def earleyItemsUptoCard : Claim7 := { stood := { row := earleyItemsUptoRow, standIns := [], harness := (true, "c8379cad4d1f93a3e4108fbd2f59bedc8fabe05599d9aa2a54472769d86537b6"), looks := true }, kinds := [], alts := [], laidByText := true, laidKinds := [.data], laidTests := true, laidLooks := .later }
def EarleyItemsUptoCardSaid : Prop := Claim7.holds Tryd.pinned (.plain (OpenSpec.upto earleyItemsSpec)) earleyItemsUptoCard

/-- THE SECOND FORM's CARD OF 'parlkeep3.EarleyBegins'. -/
def earleyBeginsUptoCard : Claim7 := { stood := { row := earleyBeginsUptoRow, standIns := [], harness := (true, "c8379cad4d1f93a3e4108fbd2f59bedc8fabe05599d9aa2a54472769d86537b6"), looks := true }, kinds := [], alts := [], laidByText := true, laidKinds := [.data], laidTests := true, laidLooks := .later }
def EarleyBeginsUptoCardSaid : Prop := Claim7.holds Tryd.pinned (.plain (OpenSpec.upto earleyBeginsSpec)) earleyBeginsUptoCard
end Rows
end Go.Proofs.YtfgmockkpaacmaaDoor
