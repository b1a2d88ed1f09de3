/-
  DERIVED. GIVEN WITH THE SEED: THE CARDS: each row of YtpifchdngodgjaaGreatDoorRows.lean that lists a variable, with what it lists TIED to the program's text (the seventh form; the later family's looks); each row that meets fmt, with fmt's text TOLD by the authors' own Lean function (tested against real Go, not proved from fmt's source: count such statements apart). THE CARD IS WHAT COUNTS. Prove the row's statement (the work); the ties are given (YtpifchdngodgjaaGreatDoorTie.lean); close each card by the builder's one call (the guide's Derived/Test/ToyasCard.lean, 'card_holds'). Laid BY PROGRAM, IN A SANDBOX (cutbox-door.mjs). By AI agents, Wed Nov 11 2026. No macro, syntax, notation, axiom, sorry.
-/
import Derived.Test.YtpifchdngodgjaaGreatDoorRows
import GoSem.ClaimSeven
namespace Go.Proofs.YtpifchdngodgjaaGreatDoor
namespace Rows

/-- THE TIED CARD OF 'docstorelaw37.SpillSorts'. -/
def spillSortsCard : Claim7 := { stood := { row := spillSortsRow, standIns := [], harness := (true, "734f80c9166e06a8cc0d7763e830e32b1da1865508bdb0836dc8818614c8ac41"), looks := false }, kinds := [], alts := [], laidByText := true, laidKinds := [.data, .pinned], laidTests := true, laidLooks := .later }
def SpillSortsCardSaid : Prop := Claim7.holds Tryz.pinned (.plain (OpenSpec.ofChange spillSortsSpec)) spillSortsCard

/-- THE TIED CARD OF 'docstorelaw37.SpillCounts'. -/
def spillCountsCard : Claim7 := { stood := { row := spillCountsRow, standIns := [], harness := (true, "734f80c9166e06a8cc0d7763e830e32b1da1865508bdb0836dc8818614c8ac41"), looks := false }, kinds := [], alts := [], laidByText := true, laidKinds := [.data, .pinned], laidTests := true, laidLooks := .later }
def SpillCountsCardSaid : Prop := Claim7.holds Tryz.pinned (.plain (OpenSpec.ofChange spillCountsSpec)) spillCountsCard

/-- THE SECOND FORM's CARD OF 'docstorelaw37.SpillSorts'. -/
def spillSortsUptoCard : Claim7 := { stood := { row := spillSortsUptoRow, standIns := [], harness := (true, "734f80c9166e06a8cc0d7763e830e32b1da1865508bdb0836dc8818614c8ac41"), looks := false }, kinds := [], alts := [], laidByText := true, laidKinds := [.data, .pinned], laidTests := true, laidLooks := .later }
def SpillSortsUptoCardSaid : Prop := Claim7.holds Tryz.pinned (.plain (OpenSpec.upto spillSortsSpec)) spillSortsUptoCard

/-- THE SECOND FORM's CARD OF 'docstorelaw37.SpillCounts'. -/
def spillCountsUptoCard : Claim7 := { stood := { row := spillCountsUptoRow, standIns := [], harness := (true, "734f80c9166e06a8cc0d7763e830e32b1da1865508bdb0836dc8818614c8ac41"), looks := false }, kinds := [], alts := [], laidByText := true, laidKinds := [.data, .pinned], laidTests := true, laidLooks := .later }
def SpillCountsUptoCardSaid : Prop := Claim7.holds Tryz.pinned (.plain (OpenSpec.upto spillCountsSpec)) spillCountsUptoCard
end Rows
end Go.Proofs.YtpifchdngodgjaaGreatDoor
