/-
  NARROWER THAN 'FOR EVERY INPUT', by the rows' own cells (each row's printed sentence says how): AccumUnpacks: loops · AccumBack: loops · AccumJoins: loops.
  DERIVED. THE GIVEN ROWS OF THIS SEAT. 5 by the template 'for every input the law returns true; each argument reads behind the call as it read before'; 0 by the template 'total and deterministic' (their statements: YtacpcknpliomoaaGreatTotals.lean).
  GIVEN WITH THE SEED: the statements are not yours to turn. If you find one false, say at which input.
  Laid BY PROGRAM, IN A SANDBOX (cutbox-rows.mjs): the forced cells as the released guide's own fill.sh prints them over the translation 76629a8af3987bb0… (all of the seat's roots in one cut). By AI agents, Wed Nov 11 2026. No macro, syntax, notation, axiom, sorry.
-/
import Derived.Test.YtacpcknpliomoaaGreatChecked
import GoSem.Claim
import GoSem.ClaimJoined
import GoSem.ClaimMapViews
import Derived.JoinedTies
import Derived.KernelRfl
namespace Go.Proofs.YtacpcknpliomoaaGreat
/- THE CELL 'sum', in the pinned program and in every row, IS THE sha256 OF THE DUMP (.gsa) THAT YtacpcknpliomoaaGreatProg.lean LOADS. Nothing in Lean hashes anything: it is a label: what it is worth is what the hold of that sum in a sandbox is worth. -/
noncomputable def Tryz.pinned : Pinned := { name := "ytacpcknpliomoaagreat", sum := "76629a8af3987bb00a82c117745c22953662752d8ba98b109f307795308a912a", checked := Tryz.checked }
namespace Rows
def none {H : Type} : Left H := { results := [], args := [] }

/-- 'docstorelaw32.AccumUnpacks': WHATEVER THE INPUT: true; the input reads as it did. -/
def accumUnpacksSpec : ChangeSpec := { name := "accumUnpacks", fn := fun _ => fun
  | [d] => { results := [.lit (.bool true)], args := [d] }
  | _ => none }
def accumUnpacksRow : OpenClaim := { program := "ytacpcknpliomoaagreat", sum := "76629a8af3987bb00a82c117745c22953662752d8ba98b109f307795308a912a", func := "docstore/docstorelaw32.AccumUnpacks", spec := "accumUnpacks", unfollowed := true, recurses := true, loops := true, apart := false }
def AccumUnpacksSaid : Prop := accumUnpacksRow.holds Tryz.pinned (OpenSpec.ofChange accumUnpacksSpec)

/-- ITS FALSE NEIGHBOUR: 'it returns false'. Refute it at one input. -/
def accumUnpacksWrong : ChangeSpec := { name := "accumUnpacks", fn := fun _ => fun
  | [d] => { results := [.lit (.bool false)], args := [d] }
  | _ => none }
def AccumUnpacksWrongFalsely : Prop := accumUnpacksRow.holds Tryz.pinned (OpenSpec.ofChange accumUnpacksWrong)

/-- 'docstorelaw32.AccumBack': WHATEVER THE INPUT: true; the input reads as it did. -/
def accumBackSpec : ChangeSpec := { name := "accumBack", fn := fun _ => fun
  | [d1, d2] => { results := [.lit (.bool true)], args := [d1, d2] }
  | _ => none }
def accumBackRow : OpenClaim := { program := "ytacpcknpliomoaagreat", sum := "76629a8af3987bb00a82c117745c22953662752d8ba98b109f307795308a912a", func := "docstore/docstorelaw32.AccumBack", spec := "accumBack", unfollowed := true, recurses := true, loops := true, apart := false }
def AccumBackSaid : Prop := accumBackRow.holds Tryz.pinned (OpenSpec.ofChange accumBackSpec)

/-- ITS FALSE NEIGHBOUR: 'it returns false'. Refute it at one input. -/
def accumBackWrong : ChangeSpec := { name := "accumBack", fn := fun _ => fun
  | [d1, d2] => { results := [.lit (.bool false)], args := [d1, d2] }
  | _ => none }
def AccumBackWrongFalsely : Prop := accumBackRow.holds Tryz.pinned (OpenSpec.ofChange accumBackWrong)

/-- 'docstorelaw32.AccumNumbers': WHATEVER THE INPUT: true; the input reads as it did. -/
def accumNumbersSpec : ChangeSpec := { name := "accumNumbers", fn := fun _ => fun
  | [d] => { results := [.lit (.bool true)], args := [d] }
  | _ => none }
def accumNumbersRow : OpenClaim := { program := "ytacpcknpliomoaagreat", sum := "76629a8af3987bb00a82c117745c22953662752d8ba98b109f307795308a912a", func := "docstore/docstorelaw32.AccumNumbers", spec := "accumNumbers", unfollowed := true, recurses := true, apart := false }
def AccumNumbersSaid : Prop := accumNumbersRow.holds Tryz.pinned (OpenSpec.ofChange accumNumbersSpec)

/-- ITS FALSE NEIGHBOUR: 'it returns false'. Refute it at one input. -/
def accumNumbersWrong : ChangeSpec := { name := "accumNumbers", fn := fun _ => fun
  | [d] => { results := [.lit (.bool false)], args := [d] }
  | _ => none }
def AccumNumbersWrongFalsely : Prop := accumNumbersRow.holds Tryz.pinned (OpenSpec.ofChange accumNumbersWrong)

/-- 'docstorelaw32.AccumJoins': WHATEVER THE INPUT: true; the input reads as it did. -/
def accumJoinsSpec : ChangeSpec := { name := "accumJoins", fn := fun _ => fun
  | [d1, d2, d3] => { results := [.lit (.bool true)], args := [d1, d2, d3] }
  | _ => none }
def accumJoinsRow : OpenClaim := { program := "ytacpcknpliomoaagreat", sum := "76629a8af3987bb00a82c117745c22953662752d8ba98b109f307795308a912a", func := "docstore/docstorelaw32.AccumJoins", spec := "accumJoins", unfollowed := true, recurses := true, loops := true, apart := false }
def AccumJoinsSaid : Prop := accumJoinsRow.holds Tryz.pinned (OpenSpec.ofChange accumJoinsSpec)

/-- ITS FALSE NEIGHBOUR: 'it returns false'. Refute it at one input. -/
def accumJoinsWrong : ChangeSpec := { name := "accumJoins", fn := fun _ => fun
  | [d1, d2, d3] => { results := [.lit (.bool false)], args := [d1, d2, d3] }
  | _ => none }
def AccumJoinsWrongFalsely : Prop := accumJoinsRow.holds Tryz.pinned (OpenSpec.ofChange accumJoinsWrong)

/-- 'docstorelaw32.AccumMany': WHATEVER THE INPUT: true; the input reads as it did. -/
def accumManySpec : ChangeSpec := { name := "accumMany", fn := fun _ => fun
  | [d1, d2, d3] => { results := [.lit (.bool true)], args := [d1, d2, d3] }
  | _ => none }
def accumManyRow : OpenClaim := { program := "ytacpcknpliomoaagreat", sum := "76629a8af3987bb00a82c117745c22953662752d8ba98b109f307795308a912a", func := "docstore/docstorelaw32.AccumMany", spec := "accumMany", unfollowed := true, recurses := true, apart := false }
def AccumManySaid : Prop := accumManyRow.holds Tryz.pinned (OpenSpec.ofChange accumManySpec)

/-- ITS FALSE NEIGHBOUR: 'it returns false'. Refute it at one input. -/
def accumManyWrong : ChangeSpec := { name := "accumMany", fn := fun _ => fun
  | [d1, d2, d3] => { results := [.lit (.bool false)], args := [d1, d2, d3] }
  | _ => none }
def AccumManyWrongFalsely : Prop := accumManyRow.holds Tryz.pinned (OpenSpec.ofChange accumManyWrong)

/- THE SECOND FORM. 'bulk': how many values and letters a reading holds, each counted each time it is reached (what is shared counts as often as it is met; a slice's spare places count too). A statement '..UptoSaid' is the law's where the arguments, and the package variables that the reading takes, are together of bulk at most 1048576: NARROWER than '..Said'. Prove '..Said' where nothing that the law and all that it calls make is longer than what came in: it says more and counts as full. Else prove '..UptoSaid'. A law counts once. -/
mutual
def uptoBulk {H : Type} : DataW H → Nat
  | .lit (.string bytes) => bytes.length + 1
  | .lit _ => 1
  | .nil => 1
  | .ptr d => uptoBulk d + 1
  | .slice elems spare => uptoBulkAll elems + uptoBulkAll spare + 1
  | .agg parts => uptoBulkAll parts + 1
  | .iface _ d => uptoBulk d + 1
  | .map entries => uptoBulkEntries entries + 1
  | .held _ => 1
def uptoBulkAll {H : Type} : List (DataW H) → Nat
  | [] => 0
  | d :: r => uptoBulk d + uptoBulkAll r
def uptoBulkEntries {H : Type} : List (Lit × DataW H) → Nat
  | [] => 0
  | x :: r => uptoBulkEntry x + uptoBulkEntries r
def uptoBulkEntry {H : Type} : Lit × DataW H → Nat
  | (.string bytes, d) => bytes.length + uptoBulk d + 1
  | (_, d) => uptoBulk d + 1
 end
def uptoSmall : (H : Type) → List (DataW H) → Bool := fun _ ds => decide (uptoBulkAll ds ≤ 1048576)
def OpenSpec.upto (s : _root_.Go.ChangeSpec) : _root_.Go.OpenSpec := { _root_.Go.OpenSpec.ofChange s with cond := some uptoSmall }

/-- 'docstorelaw32.AccumUnpacks', WHERE WHAT IT READS IS OF BULK AT MOST 1048576: true; the input reads as it did. -/
def accumUnpacksUptoRow : OpenClaim := { program := "ytacpcknpliomoaagreat", sum := "76629a8af3987bb00a82c117745c22953662752d8ba98b109f307795308a912a", func := "docstore/docstorelaw32.AccumUnpacks", spec := "accumUnpacks", unfollowed := true, recurses := true, loops := true, apart := false, narrowed := true }
def AccumUnpacksUptoSaid : Prop := accumUnpacksUptoRow.holds Tryz.pinned (OpenSpec.upto accumUnpacksSpec)

/-- 'docstorelaw32.AccumBack', WHERE WHAT IT READS IS OF BULK AT MOST 1048576: true; the input reads as it did. -/
def accumBackUptoRow : OpenClaim := { program := "ytacpcknpliomoaagreat", sum := "76629a8af3987bb00a82c117745c22953662752d8ba98b109f307795308a912a", func := "docstore/docstorelaw32.AccumBack", spec := "accumBack", unfollowed := true, recurses := true, loops := true, apart := false, narrowed := true }
def AccumBackUptoSaid : Prop := accumBackUptoRow.holds Tryz.pinned (OpenSpec.upto accumBackSpec)

/-- 'docstorelaw32.AccumNumbers', WHERE WHAT IT READS IS OF BULK AT MOST 1048576: true; the input reads as it did. -/
def accumNumbersUptoRow : OpenClaim := { program := "ytacpcknpliomoaagreat", sum := "76629a8af3987bb00a82c117745c22953662752d8ba98b109f307795308a912a", func := "docstore/docstorelaw32.AccumNumbers", spec := "accumNumbers", unfollowed := true, recurses := true, apart := false, narrowed := true }
def AccumNumbersUptoSaid : Prop := accumNumbersUptoRow.holds Tryz.pinned (OpenSpec.upto accumNumbersSpec)

/-- 'docstorelaw32.AccumJoins', WHERE WHAT IT READS IS OF BULK AT MOST 1048576: true; the input reads as it did. -/
def accumJoinsUptoRow : OpenClaim := { program := "ytacpcknpliomoaagreat", sum := "76629a8af3987bb00a82c117745c22953662752d8ba98b109f307795308a912a", func := "docstore/docstorelaw32.AccumJoins", spec := "accumJoins", unfollowed := true, recurses := true, loops := true, apart := false, narrowed := true }
def AccumJoinsUptoSaid : Prop := accumJoinsUptoRow.holds Tryz.pinned (OpenSpec.upto accumJoinsSpec)

/-- 'docstorelaw32.AccumMany', WHERE WHAT IT READS IS OF BULK AT MOST 1048576: true; the input reads as it did. -/
def accumManyUptoRow : OpenClaim := { program := "ytacpcknpliomoaagreat", sum := "76629a8af3987bb00a82c117745c22953662752d8ba98b109f307795308a912a", func := "docstore/docstorelaw32.AccumMany", spec := "accumMany", unfollowed := true, recurses := true, apart := false, narrowed := true }
def AccumManyUptoSaid : Prop := accumManyUptoRow.holds Tryz.pinned (OpenSpec.upto accumManySpec)

end Rows
end Go.Proofs.YtacpcknpliomoaaGreat
