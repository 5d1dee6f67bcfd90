/-
  DERIVED. GIVEN WITH THE SEED: THE CARDS: each row of YtfnleneclialjaaDoorRows.lean that lists a variable, with what it lists TIED to the program's text (the seventh form; the later family's looks); each row that meets fmt, with fmt's text TOLD by the authors' own Lean function (tested against real Go, not proved from fmt's source: count such statements apart). THE CARD IS WHAT COUNTS. Prove the row's statement (the work); the ties are given (YtfnleneclialjaaDoorTie.lean); close each card by the builder's one call (the guide's Derived/Test/ToyasCard.lean, 'card_holds'). Laid BY PROGRAM, IN A SANDBOX (cutbox-door.mjs). By AI agents, Wed Nov 11 2026. No macro, syntax, notation, axiom, sorry.
-/
import Derived.Test.YtfnleneclialjaaDoorRows
import GoSem.ClaimSeven
namespace Go.Proofs.YtfnleneclialjaaDoor
namespace Rows

/-- THE TIED CARD OF 'parlkeep3.ForestMirrored'. -/
def forestMirroredCard : Claim7 := { stood := { row := forestMirroredRow, standIns := [], harness := (true, "c5d13711dc5ee1c67a88ca811a9dbda266452a1dcc48ce21ca9df5014cdac20a"), looks := true }, kinds := [], alts := [], laidByText := true, laidKinds := [.data], laidTests := true, laidLooks := .later }
def ForestMirroredCardSaid : Prop := Claim7.holds Tryd.pinned (.plain (OpenSpec.ofChange forestMirroredSpec)) forestMirroredCard

/-- THE TIED CARD OF 'parlkeep3.ForestShape'. -/
def forestShapeCard : Claim7 := { stood := { row := forestShapeRow, standIns := [], harness := (true, "c5d13711dc5ee1c67a88ca811a9dbda266452a1dcc48ce21ca9df5014cdac20a"), looks := true }, kinds := [], alts := [], laidByText := true, laidKinds := [.data], laidTests := true, laidLooks := .later }
def ForestShapeCardSaid : Prop := Claim7.holds Tryd.pinned (.plain (OpenSpec.ofChange forestShapeSpec)) forestShapeCard

/-- THE TIED CARD OF 'parlkeep3.ForestBuilt'. -/
def forestBuiltCard : Claim7 := { stood := { row := forestBuiltRow, standIns := [], harness := (true, "c5d13711dc5ee1c67a88ca811a9dbda266452a1dcc48ce21ca9df5014cdac20a"), looks := true }, kinds := [], alts := [], laidByText := true, laidKinds := [.data], laidTests := true, laidLooks := .later }
def ForestBuiltCardSaid : Prop := Claim7.holds Tryd.pinned (.plain (OpenSpec.ofChange forestBuiltSpec)) forestBuiltCard

/-- THE TIED CARD OF 'parlkeep3.ForestLess'. -/
def forestLessCard : Claim7 := { stood := { row := forestLessRow, standIns := [], harness := (true, "c5d13711dc5ee1c67a88ca811a9dbda266452a1dcc48ce21ca9df5014cdac20a"), looks := true }, kinds := [], alts := [], laidByText := true, laidKinds := [.data], laidTests := true, laidLooks := .later }
def ForestLessCardSaid : Prop := Claim7.holds Tryd.pinned (.plain (OpenSpec.ofChange forestLessSpec)) forestLessCard

/-- THE TIED CARD OF 'parlkeep3.MeanMore'. -/
def meanMoreCard : Claim7 := { stood := { row := meanMoreRow, standIns := [], harness := (true, "c5d13711dc5ee1c67a88ca811a9dbda266452a1dcc48ce21ca9df5014cdac20a"), looks := true }, kinds := [], alts := [], laidByText := true, laidKinds := [.data], laidTests := true, laidLooks := .later }
def MeanMoreCardSaid : Prop := Claim7.holds Tryd.pinned (.plain (OpenSpec.ofChange meanMoreSpec)) meanMoreCard

/-- THE TIED CARD OF 'parlkeep3.MeanJoined'. -/
def meanJoinedCard : Claim7 := { stood := { row := meanJoinedRow, standIns := [], harness := (true, "c5d13711dc5ee1c67a88ca811a9dbda266452a1dcc48ce21ca9df5014cdac20a"), looks := true }, kinds := [], alts := [], laidByText := true, laidKinds := [.data], laidTests := true, laidLooks := .later }
def MeanJoinedCardSaid : Prop := Claim7.holds Tryd.pinned (.plain (OpenSpec.ofChange meanJoinedSpec)) meanJoinedCard

/-- THE TIED CARD OF 'parlkeep3.MeanNamed'. -/
def meanNamedCard : Claim7 := { stood := { row := meanNamedRow, standIns := [], harness := (true, "c5d13711dc5ee1c67a88ca811a9dbda266452a1dcc48ce21ca9df5014cdac20a"), looks := true }, kinds := [], alts := [], laidByText := true, laidKinds := [.data], laidTests := true, laidLooks := .later }
def MeanNamedCardSaid : Prop := Claim7.holds Tryd.pinned (.plain (OpenSpec.ofChange meanNamedSpec)) meanNamedCard

/-- THE TIED CARD OF 'parlkeep3.MeanMirrored'. -/
def meanMirroredCard : Claim7 := { stood := { row := meanMirroredRow, standIns := [], harness := (true, "c5d13711dc5ee1c67a88ca811a9dbda266452a1dcc48ce21ca9df5014cdac20a"), looks := true }, kinds := [], alts := [], laidByText := true, laidKinds := [.data], laidTests := true, laidLooks := .later }
def MeanMirroredCardSaid : Prop := Claim7.holds Tryd.pinned (.plain (OpenSpec.ofChange meanMirroredSpec)) meanMirroredCard

/-- THE TIED CARD OF 'parlkeep3.MeanListed'. -/
def meanListedCard : Claim7 := { stood := { row := meanListedRow, standIns := [], harness := (true, "c5d13711dc5ee1c67a88ca811a9dbda266452a1dcc48ce21ca9df5014cdac20a"), looks := true }, kinds := [], alts := [], laidByText := true, laidKinds := [.data], laidTests := true, laidLooks := .later }
def MeanListedCardSaid : Prop := Claim7.holds Tryd.pinned (.plain (OpenSpec.ofChange meanListedSpec)) meanListedCard

/-- THE TIED CARD OF 'parlkeep3.MeanOwn'. -/
def meanOwnCard : Claim7 := { stood := { row := meanOwnRow, standIns := [], harness := (true, "c5d13711dc5ee1c67a88ca811a9dbda266452a1dcc48ce21ca9df5014cdac20a"), looks := true }, kinds := [], alts := [], laidByText := true, laidKinds := [.data], laidTests := true, laidLooks := .later }
def MeanOwnCardSaid : Prop := Claim7.holds Tryd.pinned (.plain (OpenSpec.ofChange meanOwnSpec)) meanOwnCard

/-- THE SECOND FORM's CARD OF 'parlkeep3.ForestMirrored'. -/
def forestMirroredUptoCard : Claim7 := { stood := { row := forestMirroredUptoRow, standIns := [], harness := (true, "c5d13711dc5ee1c67a88ca811a9dbda266452a1dcc48ce21ca9df5014cdac20a"), looks := true }, kinds := [], alts := [], laidByText := true, laidKinds := [.data], laidTests := true, laidLooks := .later }
def ForestMirroredUptoCardSaid : Prop := Claim7.holds Tryd.pinned (.plain (OpenSpec.upto forestMirroredSpec)) forestMirroredUptoCard

/-- THE SECOND FORM's CARD OF 'parlkeep3.ForestShape'. -/
def forestShapeUptoCard : Claim7 := { stood := { row := forestShapeUptoRow, standIns := [], harness := (true, "c5d13711dc5ee1c67a88ca811a9dbda266452a1dcc48ce21ca9df5014cdac20a"), looks := true }, kinds := [], alts := [], laidByText := true, laidKinds := [.data], laidTests := true, laidLooks := .later }
def ForestShapeUptoCardSaid : Prop := Claim7.holds Tryd.pinned (.plain (OpenSpec.upto forestShapeSpec)) forestShapeUptoCard

/-- THE SECOND FORM's CARD OF 'parlkeep3.ForestBuilt'. -/
def forestBuiltUptoCard : Claim7 := { stood := { row := forestBuiltUptoRow, standIns := [], harness := (true, "c5d13711dc5ee1c67a88ca811a9dbda266452a1dcc48ce21ca9df5014cdac20a"), looks := true }, kinds := [], alts := [], laidByText := true, laidKinds := [.data], laidTests := true, laidLooks := .later }
def ForestBuiltUptoCardSaid : Prop := Claim7.holds Tryd.pinned (.plain (OpenSpec.upto forestBuiltSpec)) forestBuiltUptoCard

/-- THE SECOND FORM's CARD OF 'parlkeep3.ForestLess'. -/
def forestLessUptoCard : Claim7 := { stood := { row := forestLessUptoRow, standIns := [], harness := (true, "c5d13711dc5ee1c67a88ca811a9dbda266452a1dcc48ce21ca9df5014cdac20a"), looks := true }, kinds := [], alts := [], laidByText := true, laidKinds := [.data], laidTests := true, laidLooks := .later }
def ForestLessUptoCardSaid : Prop := Claim7.holds Tryd.pinned (.plain (OpenSpec.upto forestLessSpec)) forestLessUptoCard

/-- THE SECOND FORM's CARD OF 'parlkeep3.MeanMore'. -/
def meanMoreUptoCard : Claim7 := { stood := { row := meanMoreUptoRow, standIns := [], harness := (true, "c5d13711dc5ee1c67a88ca811a9dbda266452a1dcc48ce21ca9df5014cdac20a"), looks := true }, kinds := [], alts := [], laidByText := true, laidKinds := [.data], laidTests := true, laidLooks := .later }
def MeanMoreUptoCardSaid : Prop := Claim7.holds Tryd.pinned (.plain (OpenSpec.upto meanMoreSpec)) meanMoreUptoCard

/-- THE SECOND FORM's CARD OF 'parlkeep3.MeanJoined'. -/
def meanJoinedUptoCard : Claim7 := { stood := { row := meanJoinedUptoRow, standIns := [], harness := (true, "c5d13711dc5ee1c67a88ca811a9dbda266452a1dcc48ce21ca9df5014cdac20a"), looks := true }, kinds := [], alts := [], laidByText := true, laidKinds := [.data], laidTests := true, laidLooks := .later }
def MeanJoinedUptoCardSaid : Prop := Claim7.holds Tryd.pinned (.plain (OpenSpec.upto meanJoinedSpec)) meanJoinedUptoCard

/-- THE SECOND FORM's CARD OF 'parlkeep3.MeanNamed'. -/
def meanNamedUptoCard : Claim7 := { stood := { row := meanNamedUptoRow, standIns := [], harness := (true, "c5d13711dc5ee1c67a88ca811a9dbda266452a1dcc48ce21ca9df5014cdac20a"), looks := true }, kinds := [], alts := [], laidByText := true, laidKinds := [.data], laidTests := true, laidLooks := .later }
def MeanNamedUptoCardSaid : Prop := Claim7.holds Tryd.pinned (.plain (OpenSpec.upto meanNamedSpec)) meanNamedUptoCard

/-- THE SECOND FORM's CARD OF 'parlkeep3.MeanMirrored'. -/
def meanMirroredUptoCard : Claim7 := { stood := { row := meanMirroredUptoRow, standIns := [], harness := (true, "c5d13711dc5ee1c67a88ca811a9dbda266452a1dcc48ce21ca9df5014cdac20a"), looks := true }, kinds := [], alts := [], laidByText := true, laidKinds := [.data], laidTests := true, laidLooks := .later }
def MeanMirroredUptoCardSaid : Prop := Claim7.holds Tryd.pinned (.plain (OpenSpec.upto meanMirroredSpec)) meanMirroredUptoCard

/-- THE SECOND FORM's CARD OF 'parlkeep3.MeanListed'. -/
def meanListedUptoCard : Claim7 := { stood := { row := meanListedUptoRow, standIns := [], harness := (true, "c5d13711dc5ee1c67a88ca811a9dbda266452a1dcc48ce21ca9df5014cdac20a"), looks := true }, kinds := [], alts := [], laidByText := true, laidKinds := [.data], laidTests := true, laidLooks := .later }
def MeanListedUptoCardSaid : Prop := Claim7.holds Tryd.pinned (.plain (OpenSpec.upto meanListedSpec)) meanListedUptoCard

/-- THE SECOND FORM's CARD OF 'parlkeep3.MeanOwn'. -/
def meanOwnUptoCard : Claim7 := { stood := { row := meanOwnUptoRow, standIns := [], harness := (true, "c5d13711dc5ee1c67a88ca811a9dbda266452a1dcc48ce21ca9df5014cdac20a"), looks := true }, kinds := [], alts := [], laidByText := true, laidKinds := [.data], laidTests := true, laidLooks := .later }
def MeanOwnUptoCardSaid : Prop := Claim7.holds Tryd.pinned (.plain (OpenSpec.upto meanOwnSpec)) meanOwnUptoCard
end Rows
end Go.Proofs.YtfnleneclialjaaDoor
