/- The law on the first error of schemas, in plain Lean. -/
import Derived.Test.YtfneddmmeadacaaDoorMCnt
import Derived.Test.YtfneddmmeadacaaDoorFx
set_option linter.unusedVariables false
set_option linter.unusedSimpArgs false
namespace Go.Proofs.YtfneddmmeadacaaDoor
open Go.Am
theorem law_svalid (s : Dt) (hw : WS s) (hb : s.bulk ≤ 1048576) : law14_SchemaValid (400000000000 + 1) s = some true := by
  obtain ⟨r, hr⟩ := sc_tot s.bulk s (Nat.le_refl _) (by omega) 399999999999 (by omega) 201
  have hr' : ref14_Count 400000000000 s 201 = some r := hr
  obtain ⟨e, h1, h2⟩ := sValid_sim hw (by omega) 399999999989 399999999989 (by omega) (by omega) (by omega)
  have h1' : schema_Valid 400000000000 s = some e := h1
  have h2' : ref14_Valid 400000000000 s = some e := h2
  rw [law14_SchemaValid]
  simp only [law14_SchemaValid_j0, hr', h1', h2', Option.bind_some, awakeC, beq_self_eq_true, cond_true]
  cases decide ((200 : Int) < r) <;> rfl
theorem svalid_fx {ds : List Dt} (h : HasTys Tryd.prog Tryd.f3.params.toList ds) (hb : Dt.bulkL ds ≤ 1048576) : FX Tryd.prog 3 (dats Tryd.f3.params.toList ds) [] (.dat 4 (.bool true)) [] := by
  have h' : HasTys Tryd.prog [30] ds := h
  cases h' with
  | @cons _ d _ _ h1 r =>
    cases r
    simp only [Dt.bulkL] at hb
    exact law14_SchemaValid_fx 400000000000 (ct_ok 400000000000) _ (law_svalid d (ws_of d.bulk d (Nat.le_refl _) h1) (by omega))
end Go.Proofs.YtfneddmmeadacaaDoor
