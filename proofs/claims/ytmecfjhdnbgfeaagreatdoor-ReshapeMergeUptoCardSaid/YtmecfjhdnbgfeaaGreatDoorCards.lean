/-
  DERIVED. GIVEN WITH THE SEED: THE CARDS: each row of YtmecfjhdnbgfeaaGreatDoorRows.lean that lists a variable, with what it lists TIED to the program's text (the seventh form; the later family's looks); each row that meets fmt, with fmt's text TOLD by the authors' own Lean function (tested against real Go, not proved from fmt's source: count such statements apart). THE CARD IS WHAT COUNTS. Prove the row's statement (the work); the ties are given (YtmecfjhdnbgfeaaGreatDoorTie.lean); close each card by the builder's one call (the guide's Derived/Test/ToyasCard.lean, 'card_holds'). Laid BY PROGRAM, IN A SANDBOX (cutbox-door.mjs). By AI agents, Wed Nov 11 2026. No macro, syntax, notation, axiom, sorry.
-/
import Derived.Test.YtmecfjhdnbgfeaaGreatDoorRows
import GoSem.ClaimSeven
namespace Go.Proofs.YtmecfjhdnbgfeaaGreatDoor
namespace Rows

/-- THE TIED CARD OF 'docstorelaw36.ReshapeRoot'. -/
def reshapeRootCard : Claim7 := { stood := { row := reshapeRootRow, standIns := [], harness := (true, "133e828ed8b93211d7d173b9cbf6830827a1f0093b3b90649f9d3934889236ee"), looks := false }, kinds := [], alts := [], laidByText := true, laidKinds := [.data, .pinned], laidTests := true, laidLooks := .later }
def ReshapeRootCardSaid : Prop := Claim7.holds Tryz.pinned (.plain (OpenSpec.ofChange reshapeRootSpec)) reshapeRootCard

/-- THE TIED CARD OF 'docstorelaw36.ReshapeBucket'. -/
def reshapeBucketCard : Claim7 := { stood := { row := reshapeBucketRow, standIns := [], harness := (true, "133e828ed8b93211d7d173b9cbf6830827a1f0093b3b90649f9d3934889236ee"), looks := false }, kinds := [], alts := [], laidByText := true, laidKinds := [.data, .pinned], laidTests := true, laidLooks := .later }
def ReshapeBucketCardSaid : Prop := Claim7.holds Tryz.pinned (.plain (OpenSpec.ofChange reshapeBucketSpec)) reshapeBucketCard

/-- THE TIED CARD OF 'docstorelaw36.ReshapeCounts'. -/
def reshapeCountsCard : Claim7 := { stood := { row := reshapeCountsRow, standIns := [], harness := (true, "133e828ed8b93211d7d173b9cbf6830827a1f0093b3b90649f9d3934889236ee"), looks := false }, kinds := [], alts := [], laidByText := true, laidKinds := [.data, .pinned], laidTests := true, laidLooks := .later }
def ReshapeCountsCardSaid : Prop := Claim7.holds Tryz.pinned (.plain (OpenSpec.ofChange reshapeCountsSpec)) reshapeCountsCard

/-- THE TIED CARD OF 'docstorelaw36.ReshapeMerged'. -/
def reshapeMergedCard : Claim7 := { stood := { row := reshapeMergedRow, standIns := [], harness := (true, "133e828ed8b93211d7d173b9cbf6830827a1f0093b3b90649f9d3934889236ee"), looks := false }, kinds := [], alts := [], laidByText := true, laidKinds := [.data, .pinned], laidTests := true, laidLooks := .later }
def ReshapeMergedCardSaid : Prop := Claim7.holds Tryz.pinned (.plain (OpenSpec.ofChange reshapeMergedSpec)) reshapeMergedCard

/-- THE TIED CARD OF 'docstorelaw36.ReshapeMerge'. -/
def reshapeMergeCard : Claim7 := { stood := { row := reshapeMergeRow, standIns := [], harness := (true, "133e828ed8b93211d7d173b9cbf6830827a1f0093b3b90649f9d3934889236ee"), looks := false }, kinds := [], alts := [], laidByText := true, laidKinds := [.data, .pinned], laidTests := true, laidLooks := .later }
def ReshapeMergeCardSaid : Prop := Claim7.holds Tryz.pinned (.plain (OpenSpec.ofChange reshapeMergeSpec)) reshapeMergeCard

/-- THE SECOND FORM's CARD OF 'docstorelaw36.ReshapeRoot'. -/
def reshapeRootUptoCard : Claim7 := { stood := { row := reshapeRootUptoRow, standIns := [], harness := (true, "133e828ed8b93211d7d173b9cbf6830827a1f0093b3b90649f9d3934889236ee"), looks := false }, kinds := [], alts := [], laidByText := true, laidKinds := [.data, .pinned], laidTests := true, laidLooks := .later }
def ReshapeRootUptoCardSaid : Prop := Claim7.holds Tryz.pinned (.plain (OpenSpec.upto reshapeRootSpec)) reshapeRootUptoCard

/-- THE SECOND FORM's CARD OF 'docstorelaw36.ReshapeBucket'. -/
def reshapeBucketUptoCard : Claim7 := { stood := { row := reshapeBucketUptoRow, standIns := [], harness := (true, "133e828ed8b93211d7d173b9cbf6830827a1f0093b3b90649f9d3934889236ee"), looks := false }, kinds := [], alts := [], laidByText := true, laidKinds := [.data, .pinned], laidTests := true, laidLooks := .later }
def ReshapeBucketUptoCardSaid : Prop := Claim7.holds Tryz.pinned (.plain (OpenSpec.upto reshapeBucketSpec)) reshapeBucketUptoCard

/-- THE SECOND FORM's CARD OF 'docstorelaw36.ReshapeCounts'. -/
def reshapeCountsUptoCard : Claim7 := { stood := { row := reshapeCountsUptoRow, standIns := [], harness := (true, "133e828ed8b93211d7d173b9cbf6830827a1f0093b3b90649f9d3934889236ee"), looks := false }, kinds := [], alts := [], laidByText := true, laidKinds := [.data, .pinned], laidTests := true, laidLooks := .later }
def ReshapeCountsUptoCardSaid : Prop := Claim7.holds Tryz.pinned (.plain (OpenSpec.upto reshapeCountsSpec)) reshapeCountsUptoCard

/-- THE SECOND FORM's CARD OF 'docstorelaw36.ReshapeMerged'. -/
def reshapeMergedUptoCard : Claim7 := { stood := { row := reshapeMergedUptoRow, standIns := [], harness := (true, "133e828ed8b93211d7d173b9cbf6830827a1f0093b3b90649f9d3934889236ee"), looks := false }, kinds := [], alts := [], laidByText := true, laidKinds := [.data, .pinned], laidTests := true, laidLooks := .later }
def ReshapeMergedUptoCardSaid : Prop := Claim7.holds Tryz.pinned (.plain (OpenSpec.upto reshapeMergedSpec)) reshapeMergedUptoCard

/-- THE SECOND FORM's CARD OF 'docstorelaw36.ReshapeMerge'. -/
def reshapeMergeUptoCard : Claim7 := { stood := { row := reshapeMergeUptoRow, standIns := [], harness := (true, "133e828ed8b93211d7d173b9cbf6830827a1f0093b3b90649f9d3934889236ee"), looks := false }, kinds := [], alts := [], laidByText := true, laidKinds := [.data, .pinned], laidTests := true, laidLooks := .later }
def ReshapeMergeUptoCardSaid : Prop := Claim7.holds Tryz.pinned (.plain (OpenSpec.upto reshapeMergeSpec)) reshapeMergeUptoCard
end Rows
end Go.Proofs.YtmecfjhdnbgfeaaGreatDoor
