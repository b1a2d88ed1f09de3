/- The law on schemas of one kind, in plain Lean. -/
import Derived.Test.YtfneddmmeadacaaDoorMKind
import Derived.Test.YtfneddmmeadacaaDoorSh
set_option linter.unusedVariables false
set_option linter.unusedSimpArgs false
namespace Go.Proofs.YtfneddmmeadacaaDoor
open Go.Am
def spc (k lv : Int) : Dt := .agg [.str (ByteArray.mk (List.toArray [])), .lst [], SK k, .int lv, .int 0]
theorem law_skinds (n : Int) (hn : 0 ≤ n ∧ n ≤ 255) (v : Dt) (hw : WV v) (hb : v.bulk ≤ 1048576) : law14_SchemaKinds (400000000000 + 1) n v = some true := by
  obtain ⟨b, hf⟩ := few_tot hw (by omega) 399999999998 (by omega) 300
  have hf' : ref02_Few 400000000000 v 300 = some b := hf
  have hk : IntKind.wrap .i64 (1 + Int.tmod (IntKind.wrap .i64 n) 11) = 1 + n % 11 ∧ 1 ≤ 1 + n % 11 ∧ 1 + n % 11 ≤ 11 := by
    have w1 : IntKind.wrap .i64 n = n := wrap64 (by omega) (by omega)
    rw [w1, Int.tmod_eq_emod_of_nonneg hn.1, wrap64 (by omega) (by omega)]
    omega
  obtain ⟨ek, k1, k2⟩ := hk
  rw [law14_SchemaKinds, hf', ek]
  generalize 1 + n % 11 = k at k1 k2
  have hc : ∀ x : Dt, WV x → x.bulk ≤ 1048576 → schema_Check 399999999999 (SK k) x = some (bif decide (Dt.I x 0 = k) then [] else [vio1]) := fun x hx hbx => sk_check 399999999998 (by omega) ⟨k1, k2⟩ hx (by omega) (by omega)
  have hz : WV kza2373 := .mk (fun e he => by cases he) (fun e he => by cases he)
  have a2 : schema_Admit 400000000000 (spc k 2) kza2373 v = some (bif decide (Dt.I v 0 = k) then 0 else 17, []) := by
    have e2 : Dt.I (spc k 2) 3 = 2 := rfl
    have e4 : Dt.I (spc k 2) 4 = 0 := rfl
    have ef : Dt.fld (spc k 2) 2 = SK k := rfl
    rw [schema_Admit]
    simp only [e2, e4, ef, schema_Admit_j5, schema_Admit_j4, schema_Admit_j3, schema_Admit_j2, schema_Admit_j1, schema_Admit_j0, hc v hw hb, Option.bind_some]
    cases decide (Dt.I v 0 = k) <;> rfl
  have a1 : schema_Admit 400000000000 (spc k 1) v v = some (bif decide (Dt.I v 0 = k) then 0 else (bif Dt.I v 0 == 5 then 0 else 17), []) := by
    have e2 : Dt.I (spc k 1) 3 = 1 := rfl
    have e4 : Dt.I (spc k 1) 4 = 0 := rfl
    have ef : Dt.fld (spc k 1) 2 = SK k := rfl
    rw [schema_Admit]
    simp only [e2, e4, ef, schema_Admit_j5, schema_Admit_j4, schema_Admit_j3, schema_Admit_j2, schema_Admit_j1, schema_Admit_j0, hc v hw hb, Option.bind_some]
    cases decide (Dt.I v 0 = k) <;> cases (Dt.I v 0 == 5) <;> rfl
  have d0 : decide ((0 : Int) ≤ k) = true := decide_eq_true (by omega)
  have be : (Dt.I v 0 == k) = decide (Dt.I v 0 = k) := by rw [Bool.eq_iff_iff]; simp
  have a2' := a2
  have a1' := a1
  unfold spc SK at a2' a1'
  simp only [Option.bind_some, law14_SchemaKinds_j0, d0, cond_true, a2', a1', be, awakeC]
  cases b
  · rfl
  · cases decide (Dt.I v 0 = k) <;> cases (Dt.I v 0 == 5) <;> rfl
end Go.Proofs.YtfneddmmeadacaaDoor
