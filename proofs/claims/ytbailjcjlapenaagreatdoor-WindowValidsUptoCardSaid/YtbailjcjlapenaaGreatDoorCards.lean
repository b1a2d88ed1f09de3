/-
  DERIVED. GIVEN WITH THE SEED: THE CARDS: each row of YtbailjcjlapenaaGreatDoorRows.lean that lists a variable, with what it lists TIED to the program's text (the seventh form; the later family's looks); each row that meets fmt, with fmt's text TOLD by the authors' own Lean function (tested against real Go, not proved from fmt's source: count such statements apart). THE CARD IS WHAT COUNTS. Prove the row's statement (the work); the ties are given (YtbailjcjlapenaaGreatDoorTie.lean); close each card by the builder's one call (the guide's Derived/Test/ToyasCard.lean, 'card_holds'). Laid BY PROGRAM, IN A SANDBOX (cutbox-door.mjs). By AI agents, Wed Nov 11 2026. No macro, syntax, notation, axiom, sorry.
-/
import Derived.Test.YtbailjcjlapenaaGreatDoorRows
import GoSem.ClaimSeven
namespace Go.Proofs.YtbailjcjlapenaaGreatDoor
namespace Rows

/-- THE TIED CARD OF 'docstorelaw34.WindowValids'. -/
def windowValidsCard : Claim7 := { stood := { row := windowValidsRow, standIns := [], harness := (true, "2fadbca6623c8c98a942ddb3f758e5338e802ed97c53d5fe079260ee93c4d0e6"), looks := false }, kinds := [], alts := [], laidByText := true, laidKinds := [.data, .pinned], laidTests := true, laidLooks := .later }
def WindowValidsCardSaid : Prop := Claim7.holds Tryz.pinned (.plain (OpenSpec.ofChange windowValidsSpec)) windowValidsCard

/-- THE SECOND FORM's CARD OF 'docstorelaw34.WindowValids'. -/
def windowValidsUptoCard : Claim7 := { stood := { row := windowValidsUptoRow, standIns := [], harness := (true, "2fadbca6623c8c98a942ddb3f758e5338e802ed97c53d5fe079260ee93c4d0e6"), looks := false }, kinds := [], alts := [], laidByText := true, laidKinds := [.data, .pinned], laidTests := true, laidLooks := .later }
def WindowValidsUptoCardSaid : Prop := Claim7.holds Tryz.pinned (.plain (OpenSpec.upto windowValidsSpec)) windowValidsUptoCard
end Rows
end Go.Proofs.YtbailjcjlapenaaGreatDoor
