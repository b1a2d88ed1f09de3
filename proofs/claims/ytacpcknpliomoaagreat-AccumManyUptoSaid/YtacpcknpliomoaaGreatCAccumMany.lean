/- The law docstore/docstorelaw32.AccumMany: for every input the law returns true, and its arguments read as before. -/
import Derived.Test.YtacpcknpliomoaaGreatRows
import Derived.Test.YtacpcknpliomoaaGreatAm21
import Derived.Test.YtacpcknpliomoaaGreatYMc
import Derived.WalkKit
import Derived.ProofKit
import Derived.OpenShut
import Derived.JoinedCond
set_option linter.unusedVariables false
set_option linter.unusedSimpArgs false
namespace Go.Proofs.YtacpcknpliomoaaGreat.accumMany
open Go.ChangeShapes Go.WideShapes Go.ChangeAt Go.RowKit Go.Am

theorem bulkOK {H : Type} : BulkOK (H := H) Rows.uptoBulk Rows.uptoBulkAll := {
  str := fun _ => rfl
  lit := fun l => by cases l <;> simp [Rows.uptoBulk]
  nil := Nat.le_refl _
  slice := fun _ _ => rfl
  agg := fun _ => rfl
  none := rfl
  cons := fun _ _ => rfl }
theorem own : ownKnob Tryz.prog.godebug = none := by kernel_rfl
set_option maxRecDepth 100000 in
theorem contract (H : Type) (enc : TypeId × Value → H) (W : World) (base : Nat) (args : Array Value) (ds gs : List (DataW H)) (before : List MemPlace)
    (hval : ∀ (j : Nat) t v, Tryz.f7.params[j]? = some t → args[j]? = some v → Value.okWide Tryz.prog W .any base t v)
    (hW : DataW.Whole enc Tryz.prog Tryz.f7.params.toList Rows.accumManySpec.vars false W args.toList ds gs before)
    (hk : Rows.uptoSmall H (ds ++ gs) = true) :
    Calls Tryz.prog 7 args W fun e W' => ∃ v, e = .returned v ∧ Rows.accumManySpec.post enc Tryz.prog Tryz.f7 false true false false W args v W' :=
  have notab : TabOK (fun b => b < W.heap.size) W := ⟨fun _ ht => (List.not_mem_nil ht).elim, fun _ hg => (List.not_mem_nil hg).elim⟩
  law_post bulkOK (Ts := [54, 5, 4]) (TB := 4) (N := 1048576) (by kernel_rfl) (by kernel_rfl) (by kernel_rfl) (by kernel_rfl) Tryz.underlying4 rfl rfl (fun Ds h => by
    have h' : Ds.length = 3 := h
    match Ds, h' with
    | [d0, d1, d2], _ => rfl) (fun ds h hb => many_fx h hb) hval notab (by
    have hg : gs = [] := by
      obtain ⟨p, q, _, hV, _⟩ := hW
      exact (trodVars_none hV).1
    subst hg
    rw [List.append_nil] at hk
    exact of_decide_eq_true hk) hW

set_option maxRecDepth 100000 in
theorem lifted (os : Os) (started : os.Started) (H : Type) (enc : TypeId × Value → H) (F : Stop.Interp) :
    ReturnsInHanded {} Tryz.checked os 7 .any ((Rows.OpenSpec.upto Rows.accumManySpec).pre6 enc Tryz.prog Tryz.f7 Rows.accumManyUptoRow.domain false) (((Rows.OpenSpec.upto Rows.accumManySpec).at F).post enc Tryz.prog Tryz.f7 false true false false) := by
  refine returnsInHanded_of_cond (C := Tryz.checked) (s := Rows.OpenSpec.upto Rows.accumManySpec) (k := Rows.uptoSmall) rfl own started (by kernel_rfl) Tryz.func7
    (OpenSpec.witness (enc := enc) (C := Tryz.checked) (s := Rows.OpenSpec.upto Rows.accumManySpec) (k := Rows.uptoSmall) rfl false ⟨#[], #[.int .u16 0, .int .u16 0, .int .u8 0], []⟩ 8 (by kernel_rfl) (by kernel_rfl) (by kernel_rfl)
      (x := ([.lit (.int .u16 0), .lit (.int .u16 0), .lit (.int .u8 0)], [], [])) (by kernel_rfl) rfl (by kernel_rfl)) ?_
  intro W base args ds gs before hval hW _ hk _
  exact contract H enc W base args ds gs before hval hW hk
theorem said : Rows.AccumManyUptoSaid :=
  OpenClaim.holds_of_cond 7 Tryz.f7 rfl rfl rfl rfl rfl rfl rfl ⟨rfl, rfl, rfl, rfl, rfl⟩ rfl rfl rfl rfl rfl (by kernel_rfl) Tryz.func7 (by kernel_rfl)
    (of_decide_eq_true (by kernel_rfl)) (by unfold Func.isWrapper; first | (rw [if_pos (by decide +kernel)]; kernel_rfl) | (rw [if_neg (by decide +kernel)]; exact ⟨rfl, rfl⟩))
    (fun os started H enc _ F => lifted os started H enc F)
end Go.Proofs.YtacpcknpliomoaaGreat.accumMany
