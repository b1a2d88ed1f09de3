/-
  DERIVED. GIVEN WITH THE SEED: THE CARDS: each row of YtacchdeihafmnaaDoorRows.lean that lists a variable, with what it lists TIED to the program's text (the seventh form; the later family's looks); each row that meets fmt, with fmt's text TOLD by the authors' own Lean function (tested against real Go, not proved from fmt's source: count such statements apart). THE CARD IS WHAT COUNTS. Prove the row's statement (the work); the ties are given (YtacchdeihafmnaaDoorTie.lean); close each card by the builder's one call (the guide's Derived/Test/ToyasCard.lean, 'card_holds'). Laid BY PROGRAM, IN A SANDBOX (cutbox-door.mjs). By AI agents, Wed Nov 11 2026. No macro, syntax, notation, axiom, sorry.
-/
import Derived.Test.YtacchdeihafmnaaDoorRows
import GoSem.ClaimSeven
namespace Go.Proofs.YtacchdeihafmnaaDoor
namespace Rows

/-- THE TIED CARD OF 'docstorelaw12.OrderValid'. -/
def orderValidCard : Claim7 := { stood := { row := orderValidRow, standIns := [], harness := (true, "9d123dc71aa2fac7ccdbf8a58826da2078725becadd21d55c29e1b045d5b39aa"), looks := false }, kinds := [], alts := [], laidByText := true, laidKinds := [.data, .pinned], laidTests := true, laidLooks := .later }
def OrderValidCardSaid : Prop := Claim7.holds Tryd.pinned (.plain (OpenSpec.ofChange orderValidSpec)) orderValidCard

/-- THE TIED CARD OF 'docstorelaw12.OrderParse'. -/
def orderParseCard : Claim7 := { stood := { row := orderParseRow, standIns := [], harness := (true, "9d123dc71aa2fac7ccdbf8a58826da2078725becadd21d55c29e1b045d5b39aa"), looks := false }, kinds := [], alts := [], laidByText := true, laidKinds := [.data, .pinned], laidTests := true, laidLooks := .later }
def OrderParseCardSaid : Prop := Claim7.holds Tryd.pinned (.plain (OpenSpec.ofChange orderParseSpec)) orderParseCard

/-- THE TIED CARD OF 'docstorelaw12.OrderKeys'. -/
def orderKeysCard : Claim7 := { stood := { row := orderKeysRow, standIns := [], harness := (true, "9d123dc71aa2fac7ccdbf8a58826da2078725becadd21d55c29e1b045d5b39aa"), looks := false }, kinds := [], alts := [], laidByText := true, laidKinds := [.data, .pinned], laidTests := true, laidLooks := .later }
def OrderKeysCardSaid : Prop := Claim7.holds Tryd.pinned (.plain (OpenSpec.ofChange orderKeysSpec)) orderKeysCard

/-- THE TIED CARD OF 'docstorelaw12.OrderSort'. -/
def orderSortCard : Claim7 := { stood := { row := orderSortRow, standIns := [], harness := (true, "9d123dc71aa2fac7ccdbf8a58826da2078725becadd21d55c29e1b045d5b39aa"), looks := false }, kinds := [], alts := [], laidByText := true, laidKinds := [.data, .pinned], laidTests := true, laidLooks := .later }
def OrderSortCardSaid : Prop := Claim7.holds Tryd.pinned (.plain (OpenSpec.ofChange orderSortSpec)) orderSortCard

/-- THE TIED CARD OF 'docstorelaw12.OrderTotal'. -/
def orderTotalCard : Claim7 := { stood := { row := orderTotalRow, standIns := [], harness := (true, "9d123dc71aa2fac7ccdbf8a58826da2078725becadd21d55c29e1b045d5b39aa"), looks := false }, kinds := [], alts := [], laidByText := true, laidKinds := [.data, .pinned], laidTests := true, laidLooks := .later }
def OrderTotalCardSaid : Prop := Claim7.holds Tryd.pinned (.plain (OpenSpec.ofChange orderTotalSpec)) orderTotalCard

/-- THE TIED CARD OF 'docstorelaw12.OrderStable'. -/
def orderStableCard : Claim7 := { stood := { row := orderStableRow, standIns := [], harness := (true, "9d123dc71aa2fac7ccdbf8a58826da2078725becadd21d55c29e1b045d5b39aa"), looks := false }, kinds := [], alts := [], laidByText := true, laidKinds := [.data, .pinned], laidTests := true, laidLooks := .later }
def OrderStableCardSaid : Prop := Claim7.holds Tryd.pinned (.plain (OpenSpec.ofChange orderStableSpec)) orderStableCard

/-- THE TIED CARD OF 'docstorelaw12.OrderReverse'. -/
def orderReverseCard : Claim7 := { stood := { row := orderReverseRow, standIns := [], harness := (true, "9d123dc71aa2fac7ccdbf8a58826da2078725becadd21d55c29e1b045d5b39aa"), looks := false }, kinds := [], alts := [], laidByText := true, laidKinds := [.data, .pinned], laidTests := true, laidLooks := .later }
def OrderReverseCardSaid : Prop := Claim7.holds Tryd.pinned (.plain (OpenSpec.ofChange orderReverseSpec)) orderReverseCard

/-- THE SECOND FORM's CARD OF 'docstorelaw12.OrderValid'. -/
def orderValidUptoCard : Claim7 := { stood := { row := orderValidUptoRow, standIns := [], harness := (true, "9d123dc71aa2fac7ccdbf8a58826da2078725becadd21d55c29e1b045d5b39aa"), looks := false }, kinds := [], alts := [], laidByText := true, laidKinds := [.data, .pinned], laidTests := true, laidLooks := .later }
def OrderValidUptoCardSaid : Prop := Claim7.holds Tryd.pinned (.plain (OpenSpec.upto orderValidSpec)) orderValidUptoCard

/-- THE SECOND FORM's CARD OF 'docstorelaw12.OrderParse'. -/
def orderParseUptoCard : Claim7 := { stood := { row := orderParseUptoRow, standIns := [], harness := (true, "9d123dc71aa2fac7ccdbf8a58826da2078725becadd21d55c29e1b045d5b39aa"), looks := false }, kinds := [], alts := [], laidByText := true, laidKinds := [.data, .pinned], laidTests := true, laidLooks := .later }
def OrderParseUptoCardSaid : Prop := Claim7.holds Tryd.pinned (.plain (OpenSpec.upto orderParseSpec)) orderParseUptoCard

/-- THE SECOND FORM's CARD OF 'docstorelaw12.OrderKeys'. -/
def orderKeysUptoCard : Claim7 := { stood := { row := orderKeysUptoRow, standIns := [], harness := (true, "9d123dc71aa2fac7ccdbf8a58826da2078725becadd21d55c29e1b045d5b39aa"), looks := false }, kinds := [], alts := [], laidByText := true, laidKinds := [.data, .pinned], laidTests := true, laidLooks := .later }
def OrderKeysUptoCardSaid : Prop := Claim7.holds Tryd.pinned (.plain (OpenSpec.upto orderKeysSpec)) orderKeysUptoCard

/-- THE SECOND FORM's CARD OF 'docstorelaw12.OrderSort'. -/
def orderSortUptoCard : Claim7 := { stood := { row := orderSortUptoRow, standIns := [], harness := (true, "9d123dc71aa2fac7ccdbf8a58826da2078725becadd21d55c29e1b045d5b39aa"), looks := false }, kinds := [], alts := [], laidByText := true, laidKinds := [.data, .pinned], laidTests := true, laidLooks := .later }
def OrderSortUptoCardSaid : Prop := Claim7.holds Tryd.pinned (.plain (OpenSpec.upto orderSortSpec)) orderSortUptoCard

/-- THE SECOND FORM's CARD OF 'docstorelaw12.OrderTotal'. -/
def orderTotalUptoCard : Claim7 := { stood := { row := orderTotalUptoRow, standIns := [], harness := (true, "9d123dc71aa2fac7ccdbf8a58826da2078725becadd21d55c29e1b045d5b39aa"), looks := false }, kinds := [], alts := [], laidByText := true, laidKinds := [.data, .pinned], laidTests := true, laidLooks := .later }
def OrderTotalUptoCardSaid : Prop := Claim7.holds Tryd.pinned (.plain (OpenSpec.upto orderTotalSpec)) orderTotalUptoCard

/-- THE SECOND FORM's CARD OF 'docstorelaw12.OrderStable'. -/
def orderStableUptoCard : Claim7 := { stood := { row := orderStableUptoRow, standIns := [], harness := (true, "9d123dc71aa2fac7ccdbf8a58826da2078725becadd21d55c29e1b045d5b39aa"), looks := false }, kinds := [], alts := [], laidByText := true, laidKinds := [.data, .pinned], laidTests := true, laidLooks := .later }
def OrderStableUptoCardSaid : Prop := Claim7.holds Tryd.pinned (.plain (OpenSpec.upto orderStableSpec)) orderStableUptoCard

/-- THE SECOND FORM's CARD OF 'docstorelaw12.OrderReverse'. -/
def orderReverseUptoCard : Claim7 := { stood := { row := orderReverseUptoRow, standIns := [], harness := (true, "9d123dc71aa2fac7ccdbf8a58826da2078725becadd21d55c29e1b045d5b39aa"), looks := false }, kinds := [], alts := [], laidByText := true, laidKinds := [.data, .pinned], laidTests := true, laidLooks := .later }
def OrderReverseUptoCardSaid : Prop := Claim7.holds Tryd.pinned (.plain (OpenSpec.upto orderReverseSpec)) orderReverseUptoCard
end Rows
end Go.Proofs.YtacchdeihafmnaaDoor
