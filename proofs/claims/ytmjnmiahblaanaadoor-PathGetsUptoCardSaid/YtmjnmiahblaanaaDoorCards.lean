/-
  DERIVED. GIVEN WITH THE SEED: THE CARDS: each row of YtmjnmiahblaanaaDoorRows.lean that lists a variable, with what it lists TIED to the program's text (the seventh form; the later family's looks); each row that meets fmt, with fmt's text TOLD by the authors' own Lean function (tested against real Go, not proved from fmt's source: count such statements apart). THE CARD IS WHAT COUNTS. Prove the row's statement (the work); the ties are given (YtmjnmiahblaanaaDoorTie.lean); close each card by the builder's one call (the guide's Derived/Test/ToyasCard.lean, 'card_holds'). Laid BY PROGRAM, IN A SANDBOX (cutbox-door.mjs). By AI agents, Wed Nov 11 2026. No macro, syntax, notation, axiom, sorry.
-/
import Derived.Test.YtmjnmiahblaanaaDoorRows
import GoSem.ClaimSeven
namespace Go.Proofs.YtmjnmiahblaanaaDoor
namespace Rows

/-- THE TIED CARD OF 'docstorelaw04.PathParses'. -/
def pathParsesCard : Claim7 := { stood := { row := pathParsesRow, standIns := [], harness := (true, "82becf9142781af371bae3b3bec168cb700a385e3a8a059995e9148ed152c168"), looks := false }, kinds := [], alts := [], laidByText := true, laidKinds := [.data, .pinned], laidTests := true, laidLooks := .later }
def PathParsesCardSaid : Prop := Claim7.holds Tryd.pinned (.plain (OpenSpec.ofChange pathParsesSpec)) pathParsesCard

/-- THE TIED CARD OF 'docstorelaw04.PathTexts'. -/
def pathTextsCard : Claim7 := { stood := { row := pathTextsRow, standIns := [], harness := (true, "82becf9142781af371bae3b3bec168cb700a385e3a8a059995e9148ed152c168"), looks := false }, kinds := [], alts := [], laidByText := true, laidKinds := [.data, .pinned], laidTests := true, laidLooks := .later }
def PathTextsCardSaid : Prop := Claim7.holds Tryd.pinned (.plain (OpenSpec.ofChange pathTextsSpec)) pathTextsCard

/-- THE TIED CARD OF 'docstorelaw04.PathNumbers'. -/
def pathNumbersCard : Claim7 := { stood := { row := pathNumbersRow, standIns := [], harness := (true, "82becf9142781af371bae3b3bec168cb700a385e3a8a059995e9148ed152c168"), looks := false }, kinds := [], alts := [], laidByText := true, laidKinds := [.data, .pinned], laidTests := true, laidLooks := .later }
def PathNumbersCardSaid : Prop := Claim7.holds Tryd.pinned (.plain (OpenSpec.ofChange pathNumbersSpec)) pathNumbersCard

/-- THE TIED CARD OF 'docstorelaw04.PathGets'. -/
def pathGetsCard : Claim7 := { stood := { row := pathGetsRow, standIns := [], harness := (true, "82becf9142781af371bae3b3bec168cb700a385e3a8a059995e9148ed152c168"), looks := false }, kinds := [], alts := [], laidByText := true, laidKinds := [.data, .pinned], laidTests := true, laidLooks := .later }
def PathGetsCardSaid : Prop := Claim7.holds Tryd.pinned (.plain (OpenSpec.ofChange pathGetsSpec)) pathGetsCard

/-- THE TIED CARD OF 'docstorelaw04.PathPuts'. -/
def pathPutsCard : Claim7 := { stood := { row := pathPutsRow, standIns := [], harness := (true, "82becf9142781af371bae3b3bec168cb700a385e3a8a059995e9148ed152c168"), looks := false }, kinds := [], alts := [], laidByText := true, laidKinds := [.data, .pinned], laidTests := true, laidLooks := .later }
def PathPutsCardSaid : Prop := Claim7.holds Tryd.pinned (.plain (OpenSpec.ofChange pathPutsSpec)) pathPutsCard

/-- THE TIED CARD OF 'docstorelaw04.PathChanges'. -/
def pathChangesCard : Claim7 := { stood := { row := pathChangesRow, standIns := [], harness := (true, "82becf9142781af371bae3b3bec168cb700a385e3a8a059995e9148ed152c168"), looks := false }, kinds := [], alts := [], laidByText := true, laidKinds := [.data, .pinned], laidTests := true, laidLooks := .later }
def PathChangesCardSaid : Prop := Claim7.holds Tryd.pinned (.plain (OpenSpec.ofChange pathChangesSpec)) pathChangesCard

/-- THE TIED CARD OF 'docstorelaw04.PathOverlaps'. -/
def pathOverlapsCard : Claim7 := { stood := { row := pathOverlapsRow, standIns := [], harness := (true, "82becf9142781af371bae3b3bec168cb700a385e3a8a059995e9148ed152c168"), looks := false }, kinds := [], alts := [], laidByText := true, laidKinds := [.data, .pinned], laidTests := true, laidLooks := .later }
def PathOverlapsCardSaid : Prop := Claim7.holds Tryd.pinned (.plain (OpenSpec.ofChange pathOverlapsSpec)) pathOverlapsCard

/-- THE TIED CARD OF 'docstorelaw04.PathReaches'. -/
def pathReachesCard : Claim7 := { stood := { row := pathReachesRow, standIns := [], harness := (true, "82becf9142781af371bae3b3bec168cb700a385e3a8a059995e9148ed152c168"), looks := false }, kinds := [], alts := [], laidByText := true, laidKinds := [.data, .pinned], laidTests := true, laidLooks := .later }
def PathReachesCardSaid : Prop := Claim7.holds Tryd.pinned (.plain (OpenSpec.ofChange pathReachesSpec)) pathReachesCard

/-- THE TIED CARD OF 'docstorelaw04.PathLeaves'. -/
def pathLeavesCard : Claim7 := { stood := { row := pathLeavesRow, standIns := [], harness := (true, "82becf9142781af371bae3b3bec168cb700a385e3a8a059995e9148ed152c168"), looks := false }, kinds := [], alts := [], laidByText := true, laidKinds := [.data, .pinned], laidTests := true, laidLooks := .later }
def PathLeavesCardSaid : Prop := Claim7.holds Tryd.pinned (.plain (OpenSpec.ofChange pathLeavesSpec)) pathLeavesCard

/-- THE SECOND FORM's CARD OF 'docstorelaw04.PathParses'. -/
def pathParsesUptoCard : Claim7 := { stood := { row := pathParsesUptoRow, standIns := [], harness := (true, "82becf9142781af371bae3b3bec168cb700a385e3a8a059995e9148ed152c168"), looks := false }, kinds := [], alts := [], laidByText := true, laidKinds := [.data, .pinned], laidTests := true, laidLooks := .later }
def PathParsesUptoCardSaid : Prop := Claim7.holds Tryd.pinned (.plain (OpenSpec.upto pathParsesSpec)) pathParsesUptoCard

/-- THE SECOND FORM's CARD OF 'docstorelaw04.PathTexts'. -/
def pathTextsUptoCard : Claim7 := { stood := { row := pathTextsUptoRow, standIns := [], harness := (true, "82becf9142781af371bae3b3bec168cb700a385e3a8a059995e9148ed152c168"), looks := false }, kinds := [], alts := [], laidByText := true, laidKinds := [.data, .pinned], laidTests := true, laidLooks := .later }
def PathTextsUptoCardSaid : Prop := Claim7.holds Tryd.pinned (.plain (OpenSpec.upto pathTextsSpec)) pathTextsUptoCard

/-- THE SECOND FORM's CARD OF 'docstorelaw04.PathNumbers'. -/
def pathNumbersUptoCard : Claim7 := { stood := { row := pathNumbersUptoRow, standIns := [], harness := (true, "82becf9142781af371bae3b3bec168cb700a385e3a8a059995e9148ed152c168"), looks := false }, kinds := [], alts := [], laidByText := true, laidKinds := [.data, .pinned], laidTests := true, laidLooks := .later }
def PathNumbersUptoCardSaid : Prop := Claim7.holds Tryd.pinned (.plain (OpenSpec.upto pathNumbersSpec)) pathNumbersUptoCard

/-- THE SECOND FORM's CARD OF 'docstorelaw04.PathGets'. -/
def pathGetsUptoCard : Claim7 := { stood := { row := pathGetsUptoRow, standIns := [], harness := (true, "82becf9142781af371bae3b3bec168cb700a385e3a8a059995e9148ed152c168"), looks := false }, kinds := [], alts := [], laidByText := true, laidKinds := [.data, .pinned], laidTests := true, laidLooks := .later }
def PathGetsUptoCardSaid : Prop := Claim7.holds Tryd.pinned (.plain (OpenSpec.upto pathGetsSpec)) pathGetsUptoCard

/-- THE SECOND FORM's CARD OF 'docstorelaw04.PathPuts'. -/
def pathPutsUptoCard : Claim7 := { stood := { row := pathPutsUptoRow, standIns := [], harness := (true, "82becf9142781af371bae3b3bec168cb700a385e3a8a059995e9148ed152c168"), looks := false }, kinds := [], alts := [], laidByText := true, laidKinds := [.data, .pinned], laidTests := true, laidLooks := .later }
def PathPutsUptoCardSaid : Prop := Claim7.holds Tryd.pinned (.plain (OpenSpec.upto pathPutsSpec)) pathPutsUptoCard

/-- THE SECOND FORM's CARD OF 'docstorelaw04.PathChanges'. -/
def pathChangesUptoCard : Claim7 := { stood := { row := pathChangesUptoRow, standIns := [], harness := (true, "82becf9142781af371bae3b3bec168cb700a385e3a8a059995e9148ed152c168"), looks := false }, kinds := [], alts := [], laidByText := true, laidKinds := [.data, .pinned], laidTests := true, laidLooks := .later }
def PathChangesUptoCardSaid : Prop := Claim7.holds Tryd.pinned (.plain (OpenSpec.upto pathChangesSpec)) pathChangesUptoCard

/-- THE SECOND FORM's CARD OF 'docstorelaw04.PathOverlaps'. -/
def pathOverlapsUptoCard : Claim7 := { stood := { row := pathOverlapsUptoRow, standIns := [], harness := (true, "82becf9142781af371bae3b3bec168cb700a385e3a8a059995e9148ed152c168"), looks := false }, kinds := [], alts := [], laidByText := true, laidKinds := [.data, .pinned], laidTests := true, laidLooks := .later }
def PathOverlapsUptoCardSaid : Prop := Claim7.holds Tryd.pinned (.plain (OpenSpec.upto pathOverlapsSpec)) pathOverlapsUptoCard

/-- THE SECOND FORM's CARD OF 'docstorelaw04.PathReaches'. -/
def pathReachesUptoCard : Claim7 := { stood := { row := pathReachesUptoRow, standIns := [], harness := (true, "82becf9142781af371bae3b3bec168cb700a385e3a8a059995e9148ed152c168"), looks := false }, kinds := [], alts := [], laidByText := true, laidKinds := [.data, .pinned], laidTests := true, laidLooks := .later }
def PathReachesUptoCardSaid : Prop := Claim7.holds Tryd.pinned (.plain (OpenSpec.upto pathReachesSpec)) pathReachesUptoCard

/-- THE SECOND FORM's CARD OF 'docstorelaw04.PathLeaves'. -/
def pathLeavesUptoCard : Claim7 := { stood := { row := pathLeavesUptoRow, standIns := [], harness := (true, "82becf9142781af371bae3b3bec168cb700a385e3a8a059995e9148ed152c168"), looks := false }, kinds := [], alts := [], laidByText := true, laidKinds := [.data, .pinned], laidTests := true, laidLooks := .later }
def PathLeavesUptoCardSaid : Prop := Claim7.holds Tryd.pinned (.plain (OpenSpec.upto pathLeavesSpec)) pathLeavesUptoCard
end Rows
end Go.Proofs.YtmjnmiahblaanaaDoor
