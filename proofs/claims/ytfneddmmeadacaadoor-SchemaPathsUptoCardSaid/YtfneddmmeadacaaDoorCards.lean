/-
  DERIVED. GIVEN WITH THE SEED: THE CARDS: each row of YtfneddmmeadacaaDoorRows.lean that lists a variable, with what it lists TIED to the program's text (the seventh form; the later family's looks); each row that meets fmt, with fmt's text TOLD by the authors' own Lean function (tested against real Go, not proved from fmt's source: count such statements apart). THE CARD IS WHAT COUNTS. Prove the row's statement (the work); the ties are given (YtfneddmmeadacaaDoorTie.lean); close each card by the builder's one call (the guide's Derived/Test/ToyasCard.lean, 'card_holds'). Laid BY PROGRAM, IN A SANDBOX (cutbox-door.mjs). By AI agents, Wed Nov 11 2026. No macro, syntax, notation, axiom, sorry.
-/
import Derived.Test.YtfneddmmeadacaaDoorRows
import GoSem.ClaimSeven
namespace Go.Proofs.YtfneddmmeadacaaDoor
namespace Rows

/-- THE TIED CARD OF 'docstorelaw14.SchemaValid'. -/
def schemaValidCard : Claim7 := { stood := { row := schemaValidRow, standIns := [], harness := (true, "90c9adbd4233d94e9b23b5e25809696d33b86376c22834e14f8d257a6b2300f6"), looks := false }, kinds := [], alts := [], laidByText := true, laidKinds := [.data, .data, .data, .data, .data, .pinned], laidTests := true, laidLooks := .later }
def SchemaValidCardSaid : Prop := Claim7.holds Tryd.pinned (.plain (OpenSpec.ofChange schemaValidSpec)) schemaValidCard

/-- THE TIED CARD OF 'docstorelaw14.SchemaPaths'. -/
def schemaPathsCard : Claim7 := { stood := { row := schemaPathsRow, standIns := [], harness := (true, "90c9adbd4233d94e9b23b5e25809696d33b86376c22834e14f8d257a6b2300f6"), looks := false }, kinds := [], alts := [], laidByText := true, laidKinds := [.data, .data, .data, .data, .data, .pinned], laidTests := true, laidLooks := .later }
def SchemaPathsCardSaid : Prop := Claim7.holds Tryd.pinned (.plain (OpenSpec.ofChange schemaPathsSpec)) schemaPathsCard

/-- THE TIED CARD OF 'docstorelaw14.SchemaOwn'. -/
def schemaOwnCard : Claim7 := { stood := { row := schemaOwnRow, standIns := [], harness := (true, "90c9adbd4233d94e9b23b5e25809696d33b86376c22834e14f8d257a6b2300f6"), looks := false }, kinds := [], alts := [], laidByText := true, laidKinds := [.data, .data, .data, .data, .data, .pinned], laidTests := true, laidLooks := .later }
def SchemaOwnCardSaid : Prop := Claim7.holds Tryd.pinned (.plain (OpenSpec.ofChange schemaOwnSpec)) schemaOwnCard

/-- THE TIED CARD OF 'docstorelaw14.SchemaKinds'. -/
def schemaKindsCard : Claim7 := { stood := { row := schemaKindsRow, standIns := [], harness := (true, "90c9adbd4233d94e9b23b5e25809696d33b86376c22834e14f8d257a6b2300f6"), looks := false }, kinds := [], alts := [], laidByText := true, laidKinds := [.data, .data, .data, .data, .data, .pinned], laidTests := true, laidLooks := .later }
def SchemaKindsCardSaid : Prop := Claim7.holds Tryd.pinned (.plain (OpenSpec.ofChange schemaKindsSpec)) schemaKindsCard

/-- THE SECOND FORM's CARD OF 'docstorelaw14.SchemaValid'. -/
def schemaValidUptoCard : Claim7 := { stood := { row := schemaValidUptoRow, standIns := [], harness := (true, "90c9adbd4233d94e9b23b5e25809696d33b86376c22834e14f8d257a6b2300f6"), looks := false }, kinds := [], alts := [], laidByText := true, laidKinds := [.data, .data, .data, .data, .data, .pinned], laidTests := true, laidLooks := .later }
def SchemaValidUptoCardSaid : Prop := Claim7.holds Tryd.pinned (.plain (OpenSpec.upto schemaValidSpec)) schemaValidUptoCard

/-- THE SECOND FORM's CARD OF 'docstorelaw14.SchemaPaths'. -/
def schemaPathsUptoCard : Claim7 := { stood := { row := schemaPathsUptoRow, standIns := [], harness := (true, "90c9adbd4233d94e9b23b5e25809696d33b86376c22834e14f8d257a6b2300f6"), looks := false }, kinds := [], alts := [], laidByText := true, laidKinds := [.data, .data, .data, .data, .data, .pinned], laidTests := true, laidLooks := .later }
def SchemaPathsUptoCardSaid : Prop := Claim7.holds Tryd.pinned (.plain (OpenSpec.upto schemaPathsSpec)) schemaPathsUptoCard

/-- THE SECOND FORM's CARD OF 'docstorelaw14.SchemaOwn'. -/
def schemaOwnUptoCard : Claim7 := { stood := { row := schemaOwnUptoRow, standIns := [], harness := (true, "90c9adbd4233d94e9b23b5e25809696d33b86376c22834e14f8d257a6b2300f6"), looks := false }, kinds := [], alts := [], laidByText := true, laidKinds := [.data, .data, .data, .data, .data, .pinned], laidTests := true, laidLooks := .later }
def SchemaOwnUptoCardSaid : Prop := Claim7.holds Tryd.pinned (.plain (OpenSpec.upto schemaOwnSpec)) schemaOwnUptoCard

/-- THE SECOND FORM's CARD OF 'docstorelaw14.SchemaKinds'. -/
def schemaKindsUptoCard : Claim7 := { stood := { row := schemaKindsUptoRow, standIns := [], harness := (true, "90c9adbd4233d94e9b23b5e25809696d33b86376c22834e14f8d257a6b2300f6"), looks := false }, kinds := [], alts := [], laidByText := true, laidKinds := [.data, .data, .data, .data, .data, .pinned], laidTests := true, laidLooks := .later }
def SchemaKindsUptoCardSaid : Prop := Claim7.holds Tryd.pinned (.plain (OpenSpec.upto schemaKindsSpec)) schemaKindsUptoCard
end Rows
end Go.Proofs.YtfneddmmeadacaaDoor
