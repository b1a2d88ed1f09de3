/-
  DERIVED. GIVEN WITH THE SEED: THE CARDS: each row of YtmejbpmceflcjaaDoorRows.lean that lists a variable, with what it lists TIED to the program's text (the seventh form; the later family's looks); each row that meets fmt, with fmt's text TOLD by the authors' own Lean function (tested against real Go, not proved from fmt's source: count such statements apart). THE CARD IS WHAT COUNTS. Prove the row's statement (the work); the ties are given (YtmejbpmceflcjaaDoorTie.lean); close each card by the builder's one call (the guide's Derived/Test/ToyasCard.lean, 'card_holds'). Laid BY PROGRAM, IN A SANDBOX (cutbox-door.mjs). By AI agents, Wed Nov 11 2026. No macro, syntax, notation, axiom, sorry.
-/
import Derived.Test.YtmejbpmceflcjaaDoorRows
import GoSem.ClaimSeven
namespace Go.Proofs.YtmejbpmceflcjaaDoor
namespace Rows

/-- THE TIED CARD OF 'docstorelaw05.NotationQuotes'. -/
def notationQuotesCard : Claim7 := { stood := { row := notationQuotesRow, standIns := [], harness := (true, "6f0d5081bfa66a37d0590caf3e71ba74bf4bbaddacda09e7583b03331ca6ebaf"), looks := true }, kinds := [], alts := [], laidByText := true, laidKinds := [.data, .data, .data, .data, .sentinel, .sentinel, .pinned], laidTests := true, laidLooks := .later }
def NotationQuotesCardSaid : Prop := Claim7.holds Tryd.pinned (.plain (OpenSpec.ofChange notationQuotesSpec)) notationQuotesCard

/-- THE TIED CARD OF 'docstorelaw05.NotationBack'. -/
def notationBackCard : Claim7 := { stood := { row := notationBackRow, standIns := [], harness := (true, "6f0d5081bfa66a37d0590caf3e71ba74bf4bbaddacda09e7583b03331ca6ebaf"), looks := true }, kinds := [], alts := [], laidByText := true, laidKinds := [.data, .data, .data, .data, .sentinel, .sentinel, .pinned], laidTests := true, laidLooks := .later }
def NotationBackCardSaid : Prop := Claim7.holds Tryd.pinned (.plain (OpenSpec.ofChange notationBackSpec)) notationBackCard

/-- THE TIED CARD OF 'docstorelaw05.NotationAgain'. -/
def notationAgainCard : Claim7 := { stood := { row := notationAgainRow, standIns := [], harness := (true, "6f0d5081bfa66a37d0590caf3e71ba74bf4bbaddacda09e7583b03331ca6ebaf"), looks := true }, kinds := [], alts := [], laidByText := true, laidKinds := [.data, .data, .data, .data, .sentinel, .sentinel, .pinned], laidTests := true, laidLooks := .later }
def NotationAgainCardSaid : Prop := Claim7.holds Tryd.pinned (.plain (OpenSpec.ofChange notationAgainSpec)) notationAgainCard

/-- THE TIED CARD OF 'docstorelaw05.NotationCut'. -/
def notationCutCard : Claim7 := { stood := { row := notationCutRow, standIns := [], harness := (true, "6f0d5081bfa66a37d0590caf3e71ba74bf4bbaddacda09e7583b03331ca6ebaf"), looks := true }, kinds := [], alts := [], laidByText := true, laidKinds := [.data, .data, .data, .data, .sentinel, .sentinel, .pinned], laidTests := true, laidLooks := .later }
def NotationCutCardSaid : Prop := Claim7.holds Tryd.pinned (.plain (OpenSpec.ofChange notationCutSpec)) notationCutCard

/-- THE SECOND FORM's CARD OF 'docstorelaw05.NotationQuotes'. -/
def notationQuotesUptoCard : Claim7 := { stood := { row := notationQuotesUptoRow, standIns := [], harness := (true, "6f0d5081bfa66a37d0590caf3e71ba74bf4bbaddacda09e7583b03331ca6ebaf"), looks := true }, kinds := [], alts := [], laidByText := true, laidKinds := [.data, .data, .data, .data, .sentinel, .sentinel, .pinned], laidTests := true, laidLooks := .later }
def NotationQuotesUptoCardSaid : Prop := Claim7.holds Tryd.pinned (.plain (OpenSpec.upto notationQuotesSpec)) notationQuotesUptoCard

/-- THE SECOND FORM's CARD OF 'docstorelaw05.NotationBack'. -/
def notationBackUptoCard : Claim7 := { stood := { row := notationBackUptoRow, standIns := [], harness := (true, "6f0d5081bfa66a37d0590caf3e71ba74bf4bbaddacda09e7583b03331ca6ebaf"), looks := true }, kinds := [], alts := [], laidByText := true, laidKinds := [.data, .data, .data, .data, .sentinel, .sentinel, .pinned], laidTests := true, laidLooks := .later }
def NotationBackUptoCardSaid : Prop := Claim7.holds Tryd.pinned (.plain (OpenSpec.upto notationBackSpec)) notationBackUptoCard

/-- THE SECOND FORM's CARD OF 'docstorelaw05.NotationAgain'. -/
def notationAgainUptoCard : Claim7 := { stood := { row := notationAgainUptoRow, standIns := [], harness := (true, "6f0d5081bfa66a37d0590caf3e71ba74bf4bbaddacda09e7583b03331ca6ebaf"), looks := true }, kinds := [], alts := [], laidByText := true, laidKinds := [.data, .data, .data, .data, .sentinel, .sentinel, .pinned], laidTests := true, laidLooks := .later }
def NotationAgainUptoCardSaid : Prop := Claim7.holds Tryd.pinned (.plain (OpenSpec.upto notationAgainSpec)) notationAgainUptoCard

/-- THE SECOND FORM's CARD OF 'docstorelaw05.NotationCut'. -/
def notationCutUptoCard : Claim7 := { stood := { row := notationCutUptoRow, standIns := [], harness := (true, "6f0d5081bfa66a37d0590caf3e71ba74bf4bbaddacda09e7583b03331ca6ebaf"), looks := true }, kinds := [], alts := [], laidByText := true, laidKinds := [.data, .data, .data, .data, .sentinel, .sentinel, .pinned], laidTests := true, laidLooks := .later }
def NotationCutUptoCardSaid : Prop := Claim7.holds Tryd.pinned (.plain (OpenSpec.upto notationCutSpec)) notationCutUptoCard
end Rows
end Go.Proofs.YtmejbpmceflcjaaDoor
