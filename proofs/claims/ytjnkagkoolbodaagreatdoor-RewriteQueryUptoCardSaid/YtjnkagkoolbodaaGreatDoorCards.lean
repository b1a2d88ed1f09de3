/-
  DERIVED. GIVEN WITH THE SEED: THE CARDS: each row of YtjnkagkoolbodaaGreatDoorRows.lean that lists a variable, with what it lists TIED to the program's text (the seventh form; the later family's looks); each row that meets fmt, with fmt's text TOLD by the authors' own Lean function (tested against real Go, not proved from fmt's source: count such statements apart). THE CARD IS WHAT COUNTS. Prove the row's statement (the work); the ties are given (YtjnkagkoolbodaaGreatDoorTie.lean); close each card by the builder's one call (the guide's Derived/Test/ToyasCard.lean, 'card_holds'). Laid BY PROGRAM, IN A SANDBOX (cutbox-door.mjs). By AI agents, Wed Nov 11 2026. No macro, syntax, notation, axiom, sorry.
-/
import Derived.Test.YtjnkagkoolbodaaGreatDoorRows
import GoSem.ClaimSeven
namespace Go.Proofs.YtjnkagkoolbodaaGreatDoor
namespace Rows

/-- THE TIED CARD OF 'docstorelaw38.RewriteQuery'. -/
def rewriteQueryCard : Claim7 := { stood := { row := rewriteQueryRow, standIns := [], harness := (true, "e16984008f194bb00dbf6dbe4624f70179b7875df3a3026fd3ad941692f4ed0c"), looks := false }, kinds := [], alts := [], laidByText := true, laidKinds := [.data, .pinned], laidTests := true, laidLooks := .later }
def RewriteQueryCardSaid : Prop := Claim7.holds Tryz.pinned (.plain (OpenSpec.ofChange rewriteQuerySpec)) rewriteQueryCard

/-- THE TIED CARD OF 'docstorelaw38.RewriteSplits'. -/
def rewriteSplitsCard : Claim7 := { stood := { row := rewriteSplitsRow, standIns := [], harness := (true, "e16984008f194bb00dbf6dbe4624f70179b7875df3a3026fd3ad941692f4ed0c"), looks := false }, kinds := [], alts := [], laidByText := true, laidKinds := [.data, .pinned], laidTests := true, laidLooks := .later }
def RewriteSplitsCardSaid : Prop := Claim7.holds Tryz.pinned (.plain (OpenSpec.ofChange rewriteSplitsSpec)) rewriteSplitsCard

/-- THE SECOND FORM's CARD OF 'docstorelaw38.RewriteQuery'. -/
def rewriteQueryUptoCard : Claim7 := { stood := { row := rewriteQueryUptoRow, standIns := [], harness := (true, "e16984008f194bb00dbf6dbe4624f70179b7875df3a3026fd3ad941692f4ed0c"), looks := false }, kinds := [], alts := [], laidByText := true, laidKinds := [.data, .pinned], laidTests := true, laidLooks := .later }
def RewriteQueryUptoCardSaid : Prop := Claim7.holds Tryz.pinned (.plain (OpenSpec.upto rewriteQuerySpec)) rewriteQueryUptoCard

/-- THE SECOND FORM's CARD OF 'docstorelaw38.RewriteSplits'. -/
def rewriteSplitsUptoCard : Claim7 := { stood := { row := rewriteSplitsUptoRow, standIns := [], harness := (true, "e16984008f194bb00dbf6dbe4624f70179b7875df3a3026fd3ad941692f4ed0c"), looks := false }, kinds := [], alts := [], laidByText := true, laidKinds := [.data, .pinned], laidTests := true, laidLooks := .later }
def RewriteSplitsUptoCardSaid : Prop := Claim7.holds Tryz.pinned (.plain (OpenSpec.upto rewriteSplitsSpec)) rewriteSplitsUptoCard
end Rows
end Go.Proofs.YtjnkagkoolbodaaGreatDoor
