/-
  NARROWER THAN 'FOR EVERY INPUT', by the rows' own cells (each row's printed sentence says how): ReshapeRoot: loops, laid · ReshapeBucket: loops, laid · ReshapeCounts: loops, laid · ReshapeMerged: loops, laid · ReshapeMerge: loops, laid.
  DERIVED. THE GIVEN ROWS OF THIS SEAT. 5 by the template 'for every input the law returns true; each argument reads behind the call as it read before'; 0 by the template 'total and deterministic' (their statements: YtmecfjhdnbgfeaaGreatDoorTotals.lean).
  GIVEN WITH THE SEED: the statements are not yours to turn. If you find one false, say at which input.
  Laid BY PROGRAM, IN A SANDBOX (cutbox-rows.mjs): the forced cells as the released guide's own fill.sh prints them over the translation 15af6983fb0aba96… (all of the seat's roots in one cut). By AI agents, Wed Nov 11 2026. No macro, syntax, notation, axiom, sorry.
-/
import Derived.Test.YtmecfjhdnbgfeaaGreatDoorChecked
import GoSem.PinnedTables
import GoSem.Claim
import GoSem.ClaimJoined
import GoSem.ClaimMapViews
import Derived.JoinedTies
import Derived.KernelRfl
namespace Go.Proofs.YtmecfjhdnbgfeaaGreatDoor
/- THE CELL 'sum', in the pinned program and in every row, IS THE sha256 OF THE DUMP (.gsa) THAT YtmecfjhdnbgfeaaGreatDoorProg.lean LOADS. Nothing in Lean hashes anything: it is a label: what it is worth is what the hold of that sum in a sandbox is worth. -/
noncomputable def Tryz.pinned : Pinned := { name := "ytmecfjhdnbgfeaagreatdoor", sum := "15af6983fb0aba96c1500bb6b054678fad77c8c41c95bbcc8473a72024aa97d8", checked := Tryz.checked }
namespace Rows
def none {H : Type} : Left H := { results := [], args := [] }

/- WHAT THE LISTED PACKAGE-LEVEL VARIABLES READ AS WHEN THE CALL BEGINS. Each datum BY PROGRAM (the guide's laid-datum.mjs) off the statement by which the dump's own 'gosem.cut.vars' lays the variable. In a bare row this is a premise. The card (YtmecfjhdnbgfeaaGreatDoorCards.lean) ties it to the program's text. -/
def laid_unicode_utf8_acceptRanges {H : Type} : DataW H := .agg [.agg [.lit (.int .u8 128), .lit (.int .u8 191)], .agg [.lit (.int .u8 160), .lit (.int .u8 191)], .agg [.lit (.int .u8 128), .lit (.int .u8 159)], .agg [.lit (.int .u8 144), .lit (.int .u8 191)], .agg [.lit (.int .u8 128), .lit (.int .u8 143)], .agg [.lit (.int .u8 0), .lit (.int .u8 0)], .agg [.lit (.int .u8 0), .lit (.int .u8 0)], .agg [.lit (.int .u8 0), .lit (.int .u8 0)], .agg [.lit (.int .u8 0), .lit (.int .u8 0)], .agg [.lit (.int .u8 0), .lit (.int .u8 0)], .agg [.lit (.int .u8 0), .lit (.int .u8 0)], .agg [.lit (.int .u8 0), .lit (.int .u8 0)], .agg [.lit (.int .u8 0), .lit (.int .u8 0)], .agg [.lit (.int .u8 0), .lit (.int .u8 0)], .agg [.lit (.int .u8 0), .lit (.int .u8 0)], .agg [.lit (.int .u8 0), .lit (.int .u8 0)]]
/-- One of Go's own tables, pinned by name: the form's constant. -/
def laid_unicode_utf8_first : DataW Unit := Go.Pinned.utf8First

/-- 'docstorelaw36.ReshapeRoot': WHATEVER THE INPUT: true; the input reads as it did. -/
def reshapeRootSpec : ChangeSpec := { name := "reshapeRoot", fn := fun _ => fun
  | [d1, d2] => { results := [.lit (.bool true)], args := [d1, d2] }
  | _ => none }
def reshapeRootRow : OpenClaim := { program := "ytmecfjhdnbgfeaagreatdoor", sum := "15af6983fb0aba96c1500bb6b054678fad77c8c41c95bbcc8473a72024aa97d8", func := "docstore/docstorelaw36.ReshapeRoot", spec := "reshapeRoot", inPlace := ["internal/bytealg.abigen_runtime_cmpstring", "internal/abi.NoEscape", "slices.overlaps[int]"], unfollowed := true, recurses := true, named := ["unicode/utf8.first", "unicode/utf8.acceptRanges"], loops := true, apart := false, laid := [("unicode/utf8.acceptRanges", laid_unicode_utf8_acceptRanges), ("unicode/utf8.first", laid_unicode_utf8_first)] }
def ReshapeRootSaid : Prop := reshapeRootRow.holds Tryz.pinned (OpenSpec.ofChange reshapeRootSpec)

/-- ITS FALSE NEIGHBOUR: 'it returns false'. Refute it at one input. -/
def reshapeRootWrong : ChangeSpec := { name := "reshapeRoot", fn := fun _ => fun
  | [d1, d2] => { results := [.lit (.bool false)], args := [d1, d2] }
  | _ => none }
def ReshapeRootWrongFalsely : Prop := reshapeRootRow.holds Tryz.pinned (OpenSpec.ofChange reshapeRootWrong)

/-- 'docstorelaw36.ReshapeBucket': WHATEVER THE INPUT: true; the input reads as it did. -/
def reshapeBucketSpec : ChangeSpec := { name := "reshapeBucket", fn := fun _ => fun
  | [d1, d2, d3] => { results := [.lit (.bool true)], args := [d1, d2, d3] }
  | _ => none }
def reshapeBucketRow : OpenClaim := { program := "ytmecfjhdnbgfeaagreatdoor", sum := "15af6983fb0aba96c1500bb6b054678fad77c8c41c95bbcc8473a72024aa97d8", func := "docstore/docstorelaw36.ReshapeBucket", spec := "reshapeBucket", inPlace := ["internal/bytealg.abigen_runtime_cmpstring", "internal/abi.NoEscape", "slices.overlaps[int]"], unfollowed := true, recurses := true, named := ["unicode/utf8.first", "unicode/utf8.acceptRanges"], loops := true, apart := false, laid := [("unicode/utf8.acceptRanges", laid_unicode_utf8_acceptRanges), ("unicode/utf8.first", laid_unicode_utf8_first)] }
def ReshapeBucketSaid : Prop := reshapeBucketRow.holds Tryz.pinned (OpenSpec.ofChange reshapeBucketSpec)

/-- ITS FALSE NEIGHBOUR: 'it returns false'. Refute it at one input. -/
def reshapeBucketWrong : ChangeSpec := { name := "reshapeBucket", fn := fun _ => fun
  | [d1, d2, d3] => { results := [.lit (.bool false)], args := [d1, d2, d3] }
  | _ => none }
def ReshapeBucketWrongFalsely : Prop := reshapeBucketRow.holds Tryz.pinned (OpenSpec.ofChange reshapeBucketWrong)

/-- 'docstorelaw36.ReshapeCounts': WHATEVER THE INPUT: true; the input reads as it did. -/
def reshapeCountsSpec : ChangeSpec := { name := "reshapeCounts", fn := fun _ => fun
  | [d1, d2, d3] => { results := [.lit (.bool true)], args := [d1, d2, d3] }
  | _ => none }
def reshapeCountsRow : OpenClaim := { program := "ytmecfjhdnbgfeaagreatdoor", sum := "15af6983fb0aba96c1500bb6b054678fad77c8c41c95bbcc8473a72024aa97d8", func := "docstore/docstorelaw36.ReshapeCounts", spec := "reshapeCounts", inPlace := ["internal/bytealg.abigen_runtime_cmpstring", "internal/abi.NoEscape", "slices.overlaps[int]"], unfollowed := true, recurses := true, named := ["unicode/utf8.first", "unicode/utf8.acceptRanges"], loops := true, apart := false, laid := [("unicode/utf8.acceptRanges", laid_unicode_utf8_acceptRanges), ("unicode/utf8.first", laid_unicode_utf8_first)] }
def ReshapeCountsSaid : Prop := reshapeCountsRow.holds Tryz.pinned (OpenSpec.ofChange reshapeCountsSpec)

/-- ITS FALSE NEIGHBOUR: 'it returns false'. Refute it at one input. -/
def reshapeCountsWrong : ChangeSpec := { name := "reshapeCounts", fn := fun _ => fun
  | [d1, d2, d3] => { results := [.lit (.bool false)], args := [d1, d2, d3] }
  | _ => none }
def ReshapeCountsWrongFalsely : Prop := reshapeCountsRow.holds Tryz.pinned (OpenSpec.ofChange reshapeCountsWrong)

/-- 'docstorelaw36.ReshapeMerged': WHATEVER THE INPUT: true; the input reads as it did. -/
def reshapeMergedSpec : ChangeSpec := { name := "reshapeMerged", fn := fun _ => fun
  | [d1, d2] => { results := [.lit (.bool true)], args := [d1, d2] }
  | _ => none }
def reshapeMergedRow : OpenClaim := { program := "ytmecfjhdnbgfeaagreatdoor", sum := "15af6983fb0aba96c1500bb6b054678fad77c8c41c95bbcc8473a72024aa97d8", func := "docstore/docstorelaw36.ReshapeMerged", spec := "reshapeMerged", inPlace := ["internal/bytealg.abigen_runtime_cmpstring", "internal/abi.NoEscape", "slices.overlaps[int]"], unfollowed := true, recurses := true, named := ["unicode/utf8.first", "unicode/utf8.acceptRanges"], loops := true, apart := false, laid := [("unicode/utf8.acceptRanges", laid_unicode_utf8_acceptRanges), ("unicode/utf8.first", laid_unicode_utf8_first)] }
def ReshapeMergedSaid : Prop := reshapeMergedRow.holds Tryz.pinned (OpenSpec.ofChange reshapeMergedSpec)

/-- ITS FALSE NEIGHBOUR: 'it returns false'. Refute it at one input. -/
def reshapeMergedWrong : ChangeSpec := { name := "reshapeMerged", fn := fun _ => fun
  | [d1, d2] => { results := [.lit (.bool false)], args := [d1, d2] }
  | _ => none }
def ReshapeMergedWrongFalsely : Prop := reshapeMergedRow.holds Tryz.pinned (OpenSpec.ofChange reshapeMergedWrong)

/-- 'docstorelaw36.ReshapeMerge': WHATEVER THE INPUT: true; the input reads as it did. -/
def reshapeMergeSpec : ChangeSpec := { name := "reshapeMerge", fn := fun _ => fun
  | [d1, d2, d3] => { results := [.lit (.bool true)], args := [d1, d2, d3] }
  | _ => none }
def reshapeMergeRow : OpenClaim := { program := "ytmecfjhdnbgfeaagreatdoor", sum := "15af6983fb0aba96c1500bb6b054678fad77c8c41c95bbcc8473a72024aa97d8", func := "docstore/docstorelaw36.ReshapeMerge", spec := "reshapeMerge", inPlace := ["internal/bytealg.abigen_runtime_cmpstring", "internal/abi.NoEscape", "slices.overlaps[int]"], unfollowed := true, recurses := true, named := ["unicode/utf8.first", "unicode/utf8.acceptRanges"], loops := true, apart := false, laid := [("unicode/utf8.acceptRanges", laid_unicode_utf8_acceptRanges), ("unicode/utf8.first", laid_unicode_utf8_first)] }
def ReshapeMergeSaid : Prop := reshapeMergeRow.holds Tryz.pinned (OpenSpec.ofChange reshapeMergeSpec)

/-- ITS FALSE NEIGHBOUR: 'it returns false'. Refute it at one input. -/
def reshapeMergeWrong : ChangeSpec := { name := "reshapeMerge", fn := fun _ => fun
  | [d1, d2, d3] => { results := [.lit (.bool false)], args := [d1, d2, d3] }
  | _ => none }
def ReshapeMergeWrongFalsely : Prop := reshapeMergeRow.holds Tryz.pinned (OpenSpec.ofChange reshapeMergeWrong)

/- THE SECOND FORM. 'bulk': how many values and letters a reading holds, each counted each time it is reached (what is shared counts as often as it is met; a slice's spare places count too). A statement '..UptoSaid' is the law's where the arguments, and the package variables that the reading takes, are together of bulk at most 1048576: NARROWER than '..Said'. Prove '..Said' where nothing that the law and all that it calls make is longer than what came in: it says more and counts as full. Else prove '..UptoSaid'. A law counts once. -/
mutual
def uptoBulk {H : Type} : DataW H → Nat
  | .lit (.string bytes) => bytes.length + 1
  | .lit _ => 1
  | .nil => 1
  | .ptr d => uptoBulk d + 1
  | .slice elems spare => uptoBulkAll elems + uptoBulkAll spare + 1
  | .agg parts => uptoBulkAll parts + 1
  | .iface _ d => uptoBulk d + 1
  | .map entries => uptoBulkEntries entries + 1
  | .held _ => 1
def uptoBulkAll {H : Type} : List (DataW H) → Nat
  | [] => 0
  | d :: r => uptoBulk d + uptoBulkAll r
def uptoBulkEntries {H : Type} : List (Lit × DataW H) → Nat
  | [] => 0
  | x :: r => uptoBulkEntry x + uptoBulkEntries r
def uptoBulkEntry {H : Type} : Lit × DataW H → Nat
  | (.string bytes, d) => bytes.length + uptoBulk d + 1
  | (_, d) => uptoBulk d + 1
 end
def uptoSmall : (H : Type) → List (DataW H) → Bool := fun _ ds => decide (uptoBulkAll ds ≤ 1048576)
def OpenSpec.upto (s : _root_.Go.ChangeSpec) : _root_.Go.OpenSpec := { _root_.Go.OpenSpec.ofChange s with cond := some uptoSmall }

/-- 'docstorelaw36.ReshapeRoot', WHERE WHAT IT READS IS OF BULK AT MOST 1048576: true; the input reads as it did. -/
def reshapeRootUptoRow : OpenClaim := { program := "ytmecfjhdnbgfeaagreatdoor", sum := "15af6983fb0aba96c1500bb6b054678fad77c8c41c95bbcc8473a72024aa97d8", func := "docstore/docstorelaw36.ReshapeRoot", spec := "reshapeRoot", inPlace := ["internal/bytealg.abigen_runtime_cmpstring", "internal/abi.NoEscape", "slices.overlaps[int]"], unfollowed := true, recurses := true, named := ["unicode/utf8.first", "unicode/utf8.acceptRanges"], loops := true, apart := false, laid := [("unicode/utf8.acceptRanges", laid_unicode_utf8_acceptRanges), ("unicode/utf8.first", laid_unicode_utf8_first)], narrowed := true }
def ReshapeRootUptoSaid : Prop := reshapeRootUptoRow.holds Tryz.pinned (OpenSpec.upto reshapeRootSpec)

/-- 'docstorelaw36.ReshapeBucket', WHERE WHAT IT READS IS OF BULK AT MOST 1048576: true; the input reads as it did. -/
def reshapeBucketUptoRow : OpenClaim := { program := "ytmecfjhdnbgfeaagreatdoor", sum := "15af6983fb0aba96c1500bb6b054678fad77c8c41c95bbcc8473a72024aa97d8", func := "docstore/docstorelaw36.ReshapeBucket", spec := "reshapeBucket", inPlace := ["internal/bytealg.abigen_runtime_cmpstring", "internal/abi.NoEscape", "slices.overlaps[int]"], unfollowed := true, recurses := true, named := ["unicode/utf8.first", "unicode/utf8.acceptRanges"], loops := true, apart := false, laid := [("unicode/utf8.acceptRanges", laid_unicode_utf8_acceptRanges), ("unicode/utf8.first", laid_unicode_utf8_first)], narrowed := true }
def ReshapeBucketUptoSaid : Prop := reshapeBucketUptoRow.holds Tryz.pinned (OpenSpec.upto reshapeBucketSpec)

/-- 'docstorelaw36.ReshapeCounts', WHERE WHAT IT READS IS OF BULK AT MOST 1048576: true; the input reads as it did. -/
def reshapeCountsUptoRow : OpenClaim := { program := "ytmecfjhdnbgfeaagreatdoor", sum := "15af6983fb0aba96c1500bb6b054678fad77c8c41c95bbcc8473a72024aa97d8", func := "docstore/docstorelaw36.ReshapeCounts", spec := "reshapeCounts", inPlace := ["internal/bytealg.abigen_runtime_cmpstring", "internal/abi.NoEscape", "slices.overlaps[int]"], unfollowed := true, recurses := true, named := ["unicode/utf8.first", "unicode/utf8.acceptRanges"], loops := true, apart := false, laid := [("unicode/utf8.acceptRanges", laid_unicode_utf8_acceptRanges), ("unicode/utf8.first", laid_unicode_utf8_first)], narrowed := true }
def ReshapeCountsUptoSaid : Prop := reshapeCountsUptoRow.holds Tryz.pinned (OpenSpec.upto reshapeCountsSpec)

/-- 'docstorelaw36.ReshapeMerged', WHERE WHAT IT READS IS OF BULK AT MOST 1048576: true; the input reads as it did. -/
def reshapeMergedUptoRow : OpenClaim := { program := "ytmecfjhdnbgfeaagreatdoor", sum := "15af6983fb0aba96c1500bb6b054678fad77c8c41c95bbcc8473a72024aa97d8", func := "docstore/docstorelaw36.ReshapeMerged", spec := "reshapeMerged", inPlace := ["internal/bytealg.abigen_runtime_cmpstring", "internal/abi.NoEscape", "slices.overlaps[int]"], unfollowed := true, recurses := true, named := ["unicode/utf8.first", "unicode/utf8.acceptRanges"], loops := true, apart := false, laid := [("unicode/utf8.acceptRanges", laid_unicode_utf8_acceptRanges), ("unicode/utf8.first", laid_unicode_utf8_first)], narrowed := true }
def ReshapeMergedUptoSaid : Prop := reshapeMergedUptoRow.holds Tryz.pinned (OpenSpec.upto reshapeMergedSpec)

/-- 'docstorelaw36.ReshapeMerge', WHERE WHAT IT READS IS OF BULK AT MOST 1048576: true; the input reads as it did. -/
def reshapeMergeUptoRow : OpenClaim := { program := "ytmecfjhdnbgfeaagreatdoor", sum := "15af6983fb0aba96c1500bb6b054678fad77c8c41c95bbcc8473a72024aa97d8", func := "docstore/docstorelaw36.ReshapeMerge", spec := "reshapeMerge", inPlace := ["internal/bytealg.abigen_runtime_cmpstring", "internal/abi.NoEscape", "slices.overlaps[int]"], unfollowed := true, recurses := true, named := ["unicode/utf8.first", "unicode/utf8.acceptRanges"], loops := true, apart := false, laid := [("unicode/utf8.acceptRanges", laid_unicode_utf8_acceptRanges), ("unicode/utf8.first", laid_unicode_utf8_first)], narrowed := true }
def ReshapeMergeUptoSaid : Prop := reshapeMergeUptoRow.holds Tryz.pinned (OpenSpec.upto reshapeMergeSpec)

end Rows
end Go.Proofs.YtmecfjhdnbgfeaaGreatDoor
