/-
  DERIVED. GIVEN WITH THE SEED: THE CARDS: each row of YtbfmpklhcbfnaaaDoorRows.lean that lists a variable, with what it lists TIED to the program's text (the seventh form; the later family's looks); each row that meets fmt, with fmt's text TOLD by the authors' own Lean function (tested against real Go, not proved from fmt's source: count such statements apart). THE CARD IS WHAT COUNTS. Prove the row's statement (the work); the ties are given (YtbfmpklhcbfnaaaDoorTie.lean); close each card by the builder's one call (the guide's Derived/Test/ToyasCard.lean, 'card_holds'). Laid BY PROGRAM, IN A SANDBOX (cutbox-door.mjs). By AI agents, Wed Nov 11 2026. No macro, syntax, notation, axiom, sorry.
-/
import Derived.Test.YtbfmpklhcbfnaaaDoorRows
import GoSem.ClaimSeven
namespace Go.Proofs.YtbfmpklhcbfnaaaDoor
namespace Rows

/-- THE TIED CARD OF 'parlkeep3.PackratPredicts'. -/
def packratPredictsCard : Claim7 := { stood := { row := packratPredictsRow, standIns := [], harness := (true, "caa7c1cb6851353ab86c7dadda53d331f17e43afcd1b42ea32364591f725bed1"), looks := true }, kinds := [], alts := [], laidByText := true, laidKinds := [.data], laidTests := true, laidLooks := .later }
def PackratPredictsCardSaid : Prop := Claim7.holds Tryd.pinned (.plain (OpenSpec.ofChange packratPredictsSpec)) packratPredictsCard

/-- THE TIED CARD OF 'parlkeep3.ItemsNext'. -/
def itemsNextCard : Claim7 := { stood := { row := itemsNextRow, standIns := [], harness := (true, "caa7c1cb6851353ab86c7dadda53d331f17e43afcd1b42ea32364591f725bed1"), looks := true }, kinds := [], alts := [], laidByText := true, laidKinds := [.data, .data, .data], laidTests := true, laidLooks := .later }
def ItemsNextCardSaid : Prop := Claim7.holds Tryd.pinned (.plain (OpenSpec.ofChange itemsNextSpec)) itemsNextCard

/-- THE TIED CARD OF 'parltop.RepairIsLeast'. -/
def repairIsLeastCard : Claim7 := { stood := { row := repairIsLeastRow, standIns := [], harness := (true, "caa7c1cb6851353ab86c7dadda53d331f17e43afcd1b42ea32364591f725bed1"), looks := true }, kinds := [], alts := [], laidByText := true, laidKinds := [.data], laidTests := true, laidLooks := .later }
def RepairIsLeastCardSaid : Prop := Claim7.holds Tryd.pinned (.plain (OpenSpec.ofChange repairIsLeastSpec)) repairIsLeastCard

/-- THE TIED CARD OF 'parltop.HolesFollowFeed'. -/
def holesFollowFeedCard : Claim7 := { stood := { row := holesFollowFeedRow, standIns := [], harness := (true, "caa7c1cb6851353ab86c7dadda53d331f17e43afcd1b42ea32364591f725bed1"), looks := true }, kinds := [], alts := [], laidByText := true, laidKinds := [.data], laidTests := true, laidLooks := .later }
def HolesFollowFeedCardSaid : Prop := Claim7.holds Tryd.pinned (.plain (OpenSpec.ofChange holesFollowFeedSpec)) holesFollowFeedCard

/-- THE TIED CARD OF 'parlkeep3.PredictOnly'. -/
def predictOnlyCard : Claim7 := { stood := { row := predictOnlyRow, standIns := [], harness := (true, "caa7c1cb6851353ab86c7dadda53d331f17e43afcd1b42ea32364591f725bed1"), looks := true }, kinds := [], alts := [], laidByText := true, laidKinds := [.data], laidTests := true, laidLooks := .later }
def PredictOnlyCardSaid : Prop := Claim7.holds Tryd.pinned (.plain (OpenSpec.ofChange predictOnlySpec)) predictOnlyCard

/-- THE TIED CARD OF 'parlkeep3.MeanListed'. -/
def meanListedCard : Claim7 := { stood := { row := meanListedRow, standIns := [], harness := (true, "caa7c1cb6851353ab86c7dadda53d331f17e43afcd1b42ea32364591f725bed1"), looks := true }, kinds := [], alts := [], laidByText := true, laidKinds := [.data], laidTests := true, laidLooks := .later }
def MeanListedCardSaid : Prop := Claim7.holds Tryd.pinned (.plain (OpenSpec.ofChange meanListedSpec)) meanListedCard

/-- THE TIED CARD OF 'parlkeep3.MeanOwn'. -/
def meanOwnCard : Claim7 := { stood := { row := meanOwnRow, standIns := [], harness := (true, "caa7c1cb6851353ab86c7dadda53d331f17e43afcd1b42ea32364591f725bed1"), looks := true }, kinds := [], alts := [], laidByText := true, laidKinds := [.data], laidTests := true, laidLooks := .later }
def MeanOwnCardSaid : Prop := Claim7.holds Tryd.pinned (.plain (OpenSpec.ofChange meanOwnSpec)) meanOwnCard

/-- THE SECOND FORM's CARD OF 'parlkeep3.PackratPredicts'. -/
def packratPredictsUptoCard : Claim7 := { stood := { row := packratPredictsUptoRow, standIns := [], harness := (true, "caa7c1cb6851353ab86c7dadda53d331f17e43afcd1b42ea32364591f725bed1"), looks := true }, kinds := [], alts := [], laidByText := true, laidKinds := [.data], laidTests := true, laidLooks := .later }
def PackratPredictsUptoCardSaid : Prop := Claim7.holds Tryd.pinned (.plain (OpenSpec.upto packratPredictsSpec)) packratPredictsUptoCard

/-- THE SECOND FORM's CARD OF 'parlkeep3.ItemsNext'. -/
def itemsNextUptoCard : Claim7 := { stood := { row := itemsNextUptoRow, standIns := [], harness := (true, "caa7c1cb6851353ab86c7dadda53d331f17e43afcd1b42ea32364591f725bed1"), looks := true }, kinds := [], alts := [], laidByText := true, laidKinds := [.data, .data, .data], laidTests := true, laidLooks := .later }
def ItemsNextUptoCardSaid : Prop := Claim7.holds Tryd.pinned (.plain (OpenSpec.upto itemsNextSpec)) itemsNextUptoCard

/-- THE SECOND FORM's CARD OF 'parltop.RepairIsLeast'. -/
def repairIsLeastUptoCard : Claim7 := { stood := { row := repairIsLeastUptoRow, standIns := [], harness := (true, "caa7c1cb6851353ab86c7dadda53d331f17e43afcd1b42ea32364591f725bed1"), looks := true }, kinds := [], alts := [], laidByText := true, laidKinds := [.data], laidTests := true, laidLooks := .later }
def RepairIsLeastUptoCardSaid : Prop := Claim7.holds Tryd.pinned (.plain (OpenSpec.upto repairIsLeastSpec)) repairIsLeastUptoCard

/-- THE SECOND FORM's CARD OF 'parltop.HolesFollowFeed'. -/
def holesFollowFeedUptoCard : Claim7 := { stood := { row := holesFollowFeedUptoRow, standIns := [], harness := (true, "caa7c1cb6851353ab86c7dadda53d331f17e43afcd1b42ea32364591f725bed1"), looks := true }, kinds := [], alts := [], laidByText := true, laidKinds := [.data], laidTests := true, laidLooks := .later }
def HolesFollowFeedUptoCardSaid : Prop := Claim7.holds Tryd.pinned (.plain (OpenSpec.upto holesFollowFeedSpec)) holesFollowFeedUptoCard

/-- THE SECOND FORM's CARD OF 'parlkeep3.PredictOnly'. -/
def predictOnlyUptoCard : Claim7 := { stood := { row := predictOnlyUptoRow, standIns := [], harness := (true, "caa7c1cb6851353ab86c7dadda53d331f17e43afcd1b42ea32364591f725bed1"), looks := true }, kinds := [], alts := [], laidByText := true, laidKinds := [.data], laidTests := true, laidLooks := .later }
def PredictOnlyUptoCardSaid : Prop := Claim7.holds Tryd.pinned (.plain (OpenSpec.upto predictOnlySpec)) predictOnlyUptoCard

/-- THE SECOND FORM's CARD OF 'parlkeep3.MeanListed'. -/
def meanListedUptoCard : Claim7 := { stood := { row := meanListedUptoRow, standIns := [], harness := (true, "caa7c1cb6851353ab86c7dadda53d331f17e43afcd1b42ea32364591f725bed1"), looks := true }, kinds := [], alts := [], laidByText := true, laidKinds := [.data], laidTests := true, laidLooks := .later }
def MeanListedUptoCardSaid : Prop := Claim7.holds Tryd.pinned (.plain (OpenSpec.upto meanListedSpec)) meanListedUptoCard

/-- THE SECOND FORM's CARD OF 'parlkeep3.MeanOwn'. -/
def meanOwnUptoCard : Claim7 := { stood := { row := meanOwnUptoRow, standIns := [], harness := (true, "caa7c1cb6851353ab86c7dadda53d331f17e43afcd1b42ea32364591f725bed1"), looks := true }, kinds := [], alts := [], laidByText := true, laidKinds := [.data], laidTests := true, laidLooks := .later }
def MeanOwnUptoCardSaid : Prop := Claim7.holds Tryd.pinned (.plain (OpenSpec.upto meanOwnSpec)) meanOwnUptoCard
end Rows
end Go.Proofs.YtbfmpklhcbfnaaaDoor
