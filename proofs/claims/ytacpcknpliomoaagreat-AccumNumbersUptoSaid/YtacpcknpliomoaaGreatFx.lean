/- Generated: the contracts. -/
import Derived.Test.YtacpcknpliomoaaGreatEq0
set_option linter.unusedVariables false
set_option linter.unusedSimpArgs false
namespace Go.Proofs.YtacpcknpliomoaaGreat
open Go.Am
set_option maxRecDepth 100000
theorem mixed : Tryz.prog.follows .mixedOrders = true := by kernel_rfl
theorem ref01_Int_fx (m : Nat) (hct : ∀ R, CallOK (R := R) Tryz.prog (ct m)) (a0 : Int) {r : Dt} (h : ref01_Int (m + 1) a0 = some r) : FX Tryz.prog 23 [(.dat 3 (.int a0))] [] (.dat 25 r) [] :=
  FX_of (q := ((.dat 25 r), [])) (E := env) (m := m + 1) (dec := d5) jn_ok (hct _) mixed Tryz.func23 rfl (Nat.le_of_ble_eq_true rfl) (fun b hb => d5_sim hb) ((ref01_Int_eq m a0).trans h)
theorem law32_doc_fx (m : Nat) (hct : ∀ R, CallOK (R := R) Tryz.prog (ct m)) (a0 : Int) {r : Dt} (h : law32_doc (m + 1) a0 = some r) : FX Tryz.prog 16 [(.dat 3 (.int a0))] [] (.dat 25 r) [] :=
  FX_of (q := ((.dat 25 r), [])) (E := env) (m := m + 1) (dec := d5) jn_ok (hct _) mixed Tryz.func16 rfl (Nat.le_of_ble_eq_true rfl) (fun b hb => d5_sim hb) ((law32_doc_eq m a0).trans h)
theorem accum_Start_fx (m : Nat) (hct : ∀ R, CallOK (R := R) Tryz.prog (ct m)) (a0 : Dt) {r : Dt} (h : accum_Start (m + 1) a0 = some r) : FX Tryz.prog 19 [(.dat 41 a0)] [] (.dat 29 r) [] :=
  FX_of (q := ((.dat 29 r), [])) (E := env) (m := m + 1) (dec := d6) jn_ok (hct _) mixed Tryz.func19 rfl (Nat.le_of_ble_eq_true rfl) (fun b hb => d6_sim hb) ((accum_Start_eq m a0).trans h)
theorem accum_copyValue_fx (m : Nat) (hct : ∀ R, CallOK (R := R) Tryz.prog (ct m)) (a0 : Dt) {r : Dt} (h : accum_copyValue (m + 1) a0 = some r) : FX Tryz.prog 25 [(.dat 25 a0)] [] (.dat 25 r) [] :=
  FX_of (q := ((.dat 25 r), [])) (E := env) (m := m + 1) (dec := d5) jn_ok (hct _) mixed Tryz.func25 rfl (Nat.le_of_ble_eq_true rfl) (fun b hb => d5_sim hb) ((accum_copyValue_eq m a0).trans h)
theorem accum_copyList_fx (m : Nat) (hct : ∀ R, CallOK (R := R) Tryz.prog (ct m)) (a0 : List Dt) {r : List Dt} (h : accum_copyList (m + 1) a0 = some r) : FX Tryz.prog 27 [(.dat 22 (.lst a0))] [] (.dat 22 (.lst r)) [] :=
  FX_of (q := ((.dat 22 (.lst r)), [])) (E := env) (m := m + 1) (dec := d29) jn_ok (hct _) mixed Tryz.func27 rfl (Nat.le_of_ble_eq_true rfl) (fun b hb => d29_sim hb) ((accum_copyList_eq m a0).trans h)
theorem accum_copyPart_fx (m : Nat) (hct : ∀ R, CallOK (R := R) Tryz.prog (ct m)) (a0 : Dt) {r : Dt} (h : accum_copyPart (m + 1) a0 = some r) : FX Tryz.prog 38 [(.dat 29 a0)] [] (.dat 29 r) [] :=
  FX_of (q := ((.dat 29 r), [])) (E := env) (m := m + 1) (dec := d6) jn_ok (hct _) mixed Tryz.func38 rfl (Nat.le_of_ble_eq_true rfl) (fun b hb => d6_sim hb) ((accum_copyPart_eq m a0).trans h)
theorem accum_sumRule_add_fx (m : Nat) (hct : ∀ R, CallOK (R := R) Tryz.prog (ct m)) (a0 a1 a2 a3 : Dt) {r : Dt} (h : accum_sumRule_add (m + 1) a0 a1 a2 a3 = some r) : FX Tryz.prog 76 [(.dat 85 a0), (.dat 41 a1), (.dat 29 a2), (.dat 25 a3)] [] (.dat 29 r) [] :=
  FX_of (q := ((.dat 29 r), [])) (E := env) (m := m + 1) (dec := d6) jn_ok (hct _) mixed Tryz.func76 rfl (Nat.le_of_ble_eq_true rfl) (fun b hb => d6_sim hb) ((accum_sumRule_add_eq m a0 a1 a2 a3).trans h)
theorem accum_countRule_add_fx (m : Nat) (hct : ∀ R, CallOK (R := R) Tryz.prog (ct m)) (a0 a1 a2 a3 : Dt) {r : Dt} (h : accum_countRule_add (m + 1) a0 a1 a2 a3 = some r) : FX Tryz.prog 140 [(.dat 86 a0), (.dat 41 a1), (.dat 29 a2), (.dat 25 a3)] [] (.dat 29 r) [] :=
  FX_of (q := ((.dat 29 r), [])) (E := env) (m := m + 1) (dec := d6) jn_ok (hct _) mixed Tryz.func140 rfl (Nat.le_of_ble_eq_true rfl) (fun b hb => d6_sim hb) ((accum_countRule_add_eq m a0 a1 a2 a3).trans h)
theorem accum_avgRule_add_fx (m : Nat) (hct : ∀ R, CallOK (R := R) Tryz.prog (ct m)) (a0 a1 a2 a3 : Dt) {r : Dt} (h : accum_avgRule_add (m + 1) a0 a1 a2 a3 = some r) : FX Tryz.prog 143 [(.dat 87 a0), (.dat 41 a1), (.dat 29 a2), (.dat 25 a3)] [] (.dat 29 r) [] :=
  FX_of (q := ((.dat 29 r), [])) (E := env) (m := m + 1) (dec := d6) jn_ok (hct _) mixed Tryz.func143 rfl (Nat.le_of_ble_eq_true rfl) (fun b hb => d6_sim hb) ((accum_avgRule_add_eq m a0 a1 a2 a3).trans h)
theorem accum_firstRule_add_fx (m : Nat) (hct : ∀ R, CallOK (R := R) Tryz.prog (ct m)) (a0 a1 a2 a3 : Dt) {r : Dt} (h : accum_firstRule_add (m + 1) a0 a1 a2 a3 = some r) : FX Tryz.prog 151 [(.dat 90 a0), (.dat 41 a1), (.dat 29 a2), (.dat 25 a3)] [] (.dat 29 r) [] :=
  FX_of (q := ((.dat 29 r), [])) (E := env) (m := m + 1) (dec := d6) jn_ok (hct _) mixed Tryz.func151 rfl (Nat.le_of_ble_eq_true rfl) (fun b hb => d6_sim hb) ((accum_firstRule_add_eq m a0 a1 a2 a3).trans h)
theorem accum_lastRule_add_fx (m : Nat) (hct : ∀ R, CallOK (R := R) Tryz.prog (ct m)) (a0 a1 a2 a3 : Dt) {r : Dt} (h : accum_lastRule_add (m + 1) a0 a1 a2 a3 = some r) : FX Tryz.prog 154 [(.dat 91 a0), (.dat 41 a1), (.dat 29 a2), (.dat 25 a3)] [] (.dat 29 r) [] :=
  FX_of (q := ((.dat 29 r), [])) (E := env) (m := m + 1) (dec := d6) jn_ok (hct _) mixed Tryz.func154 rfl (Nat.le_of_ble_eq_true rfl) (fun b hb => d6_sim hb) ((accum_lastRule_add_eq m a0 a1 a2 a3).trans h)
theorem accum_integer_fx (m : Nat) (hct : ∀ R, CallOK (R := R) Tryz.prog (ct m)) (a0 : Int) {r : Dt} (h : accum_integer (m + 1) a0 = some r) : FX Tryz.prog 35 [(.dat 3 (.int a0))] [] (.dat 25 r) [] :=
  FX_of (q := ((.dat 25 r), [])) (E := env) (m := m + 1) (dec := d5) jn_ok (hct _) mixed Tryz.func35 rfl (Nat.le_of_ble_eq_true rfl) (fun b hb => d5_sim hb) ((accum_integer_eq m a0).trans h)
theorem accum_sumRule_result_fx (m : Nat) (hct : ∀ R, CallOK (R := R) Tryz.prog (ct m)) (a0 a1 : Dt) {r : Dt} (h : accum_sumRule_result (m + 1) a0 a1 = some r) : FX Tryz.prog 78 [(.dat 85 a0), (.dat 29 a1)] [] (.dat 25 r) [] :=
  FX_of (q := ((.dat 25 r), [])) (E := env) (m := m + 1) (dec := d5) jn_ok (hct _) mixed Tryz.func78 rfl (Nat.le_of_ble_eq_true rfl) (fun b hb => d5_sim hb) ((accum_sumRule_result_eq m a0 a1).trans h)
theorem accum_countRule_result_fx (m : Nat) (hct : ∀ R, CallOK (R := R) Tryz.prog (ct m)) (a0 a1 : Dt) {r : Dt} (h : accum_countRule_result (m + 1) a0 a1 = some r) : FX Tryz.prog 142 [(.dat 86 a0), (.dat 29 a1)] [] (.dat 25 r) [] :=
  FX_of (q := ((.dat 25 r), [])) (E := env) (m := m + 1) (dec := d5) jn_ok (hct _) mixed Tryz.func142 rfl (Nat.le_of_ble_eq_true rfl) (fun b hb => d5_sim hb) ((accum_countRule_result_eq m a0 a1).trans h)
theorem accum_orNull_fx (m : Nat) (hct : ∀ R, CallOK (R := R) Tryz.prog (ct m)) (a0 : Dt) {r : Dt} (h : accum_orNull (m + 1) a0 = some r) : FX Tryz.prog 146 [(.dat 25 a0)] [] (.dat 25 r) [] :=
  FX_of (q := ((.dat 25 r), [])) (E := env) (m := m + 1) (dec := d5) jn_ok (hct _) mixed Tryz.func146 rfl (Nat.le_of_ble_eq_true rfl) (fun b hb => d5_sim hb) ((accum_orNull_eq m a0).trans h)
theorem accum_avgRule_result_fx (m : Nat) (hct : ∀ R, CallOK (R := R) Tryz.prog (ct m)) (a0 a1 : Dt) {r : Dt} (h : accum_avgRule_result (m + 1) a0 a1 = some r) : FX Tryz.prog 145 [(.dat 87 a0), (.dat 29 a1)] [] (.dat 25 r) [] :=
  FX_of (q := ((.dat 25 r), [])) (E := env) (m := m + 1) (dec := d5) jn_ok (hct _) mixed Tryz.func145 rfl (Nat.le_of_ble_eq_true rfl) (fun b hb => d5_sim hb) ((accum_avgRule_result_eq m a0 a1).trans h)
theorem accum_extremeRule_result_fx (m : Nat) (hct : ∀ R, CallOK (R := R) Tryz.prog (ct m)) (a0 a1 : Dt) {r : Dt} (h : accum_extremeRule_result (m + 1) a0 a1 = some r) : FX Tryz.prog 149 [(.dat 89 a0), (.dat 29 a1)] [] (.dat 25 r) [] :=
  FX_of (q := ((.dat 25 r), [])) (E := env) (m := m + 1) (dec := d5) jn_ok (hct _) mixed Tryz.func149 rfl (Nat.le_of_ble_eq_true rfl) (fun b hb => d5_sim hb) ((accum_extremeRule_result_eq m a0 a1).trans h)
theorem accum_firstRule_result_fx (m : Nat) (hct : ∀ R, CallOK (R := R) Tryz.prog (ct m)) (a0 a1 : Dt) {r : Dt} (h : accum_firstRule_result (m + 1) a0 a1 = some r) : FX Tryz.prog 153 [(.dat 90 a0), (.dat 29 a1)] [] (.dat 25 r) [] :=
  FX_of (q := ((.dat 25 r), [])) (E := env) (m := m + 1) (dec := d5) jn_ok (hct _) mixed Tryz.func153 rfl (Nat.le_of_ble_eq_true rfl) (fun b hb => d5_sim hb) ((accum_firstRule_result_eq m a0 a1).trans h)
theorem accum_lastRule_result_fx (m : Nat) (hct : ∀ R, CallOK (R := R) Tryz.prog (ct m)) (a0 a1 : Dt) {r : Dt} (h : accum_lastRule_result (m + 1) a0 a1 = some r) : FX Tryz.prog 156 [(.dat 91 a0), (.dat 29 a1)] [] (.dat 25 r) [] :=
  FX_of (q := ((.dat 25 r), [])) (E := env) (m := m + 1) (dec := d5) jn_ok (hct _) mixed Tryz.func156 rfl (Nat.le_of_ble_eq_true rfl) (fun b hb => d5_sim hb) ((accum_lastRule_result_eq m a0 a1).trans h)
theorem accum_Result_fx (m : Nat) (hct : ∀ R, CallOK (R := R) Tryz.prog (ct m)) (a0 a1 : Dt) {r : Dt} (h : accum_Result (m + 1) a0 a1 = some r) : FX Tryz.prog 17 [(.dat 41 a0), (.dat 29 a1)] [] (.dat 25 r) [] :=
  FX_of (q := ((.dat 25 r), [])) (E := env) (m := m + 1) (dec := d5) jn_ok (hct _) mixed Tryz.func17 rfl (Nat.le_of_ble_eq_true rfl) (fun b hb => d5_sim hb) ((accum_Result_eq m a0 a1).trans h)
theorem cmp_isNaN_fx (m : Nat) (hct : ∀ R, CallOK (R := R) Tryz.prog (ct m)) (a0 : Int) {r : Bool} (h : cmp_isNaN (m + 1) a0 = some r) : FX Tryz.prog 127 [(.dat 3 (.int a0))] [] (.dat 4 (.bool r)) [] :=
  FX_of (q := ((.dat 4 (.bool r)), [])) (E := env) (m := m + 1) (dec := d36) jn_ok (hct _) mixed Tryz.func127 rfl (Nat.le_of_ble_eq_true rfl) (fun b hb => d36_sim hb) ((cmp_isNaN_eq m a0).trans h)
theorem cmp_Compare_fx (m : Nat) (hct : ∀ R, CallOK (R := R) Tryz.prog (ct m)) (a0 a1 : Int) {r : Int} (h : cmp_Compare (m + 1) a0 a1 = some r) : FX Tryz.prog 112 [(.dat 3 (.int a0)), (.dat 3 (.int a1))] [] (.dat 3 (.int r)) [] :=
  FX_of (q := ((.dat 3 (.int r)), [])) (E := env) (m := m + 1) (dec := d34) jn_ok (hct _) mixed Tryz.func112 rfl (Nat.le_of_ble_eq_true rfl) (fun b hb => d34_sim hb) ((cmp_Compare_eq m a0 a1).trans h)
theorem value_Compare_fx (m : Nat) (hct : ∀ R, CallOK (R := R) Tryz.prog (ct m)) (a0 a1 : Dt) {r : Int} (h : value_Compare (m + 1) a0 a1 = some r) : FX Tryz.prog 92 [(.dat 25 a0), (.dat 25 a1)] [] (.dat 3 (.int r)) [] :=
  FX_of (q := ((.dat 3 (.int r)), [])) (E := env) (m := m + 1) (dec := d34) jn_ok (hct _) mixed Tryz.func92 rfl (Nat.le_of_ble_eq_true rfl) (fun b hb => d34_sim hb) ((value_Compare_eq m a0 a1).trans h)
theorem accum_extremeRule_better_fx (m : Nat) (hct : ∀ R, CallOK (R := R) Tryz.prog (ct m)) (a0 a1 a2 : Dt) {r : Dt} (h : accum_extremeRule_better (m + 1) a0 a1 a2 = some r) : FX Tryz.prog 150 [(.dat 89 a0), (.dat 25 a1), (.dat 25 a2)] [] (.dat 25 r) [] :=
  FX_of (q := ((.dat 25 r), [])) (E := env) (m := m + 1) (dec := d5) jn_ok (hct _) mixed Tryz.func150 rfl (Nat.le_of_ble_eq_true rfl) (fun b hb => d5_sim hb) ((accum_extremeRule_better_eq m a0 a1 a2).trans h)
theorem accum_extremeRule_add_fx (m : Nat) (hct : ∀ R, CallOK (R := R) Tryz.prog (ct m)) (a0 a1 a2 a3 : Dt) {r : Dt} (h : accum_extremeRule_add (m + 1) a0 a1 a2 a3 = some r) : FX Tryz.prog 147 [(.dat 89 a0), (.dat 41 a1), (.dat 29 a2), (.dat 25 a3)] [] (.dat 29 r) [] :=
  FX_of (q := ((.dat 29 r), [])) (E := env) (m := m + 1) (dec := d6) jn_ok (hct _) mixed Tryz.func147 rfl (Nat.le_of_ble_eq_true rfl) (fun b hb => d6_sim hb) ((accum_extremeRule_add_eq m a0 a1 a2 a3).trans h)
theorem accum_Add_fx (m : Nat) (hct : ∀ R, CallOK (R := R) Tryz.prog (ct m)) (a0 a1 a2 : Dt) {r : Dt} (h : accum_Add (m + 1) a0 a1 a2 = some r) : FX Tryz.prog 22 [(.dat 41 a0), (.dat 29 a1), (.dat 25 a2)] [] (.dat 29 r) [] :=
  FX_of (q := ((.dat 29 r), [])) (E := env) (m := m + 1) (dec := d6) jn_ok (hct _) mixed Tryz.func22 rfl (Nat.le_of_ble_eq_true rfl) (fun b hb => d6_sim hb) ((accum_Add_eq m a0 a1 a2).trans h)
theorem law32_run_fx (m : Nat) (hct : ∀ R, CallOK (R := R) Tryz.prog (ct m)) (a0 : Dt) (a1 : List Dt) {r : Dt} (h : law32_run (m + 1) a0 a1 = some r) : FX Tryz.prog 14 [(.dat 41 a0), (.dat 22 (.lst a1))] [] (.dat 29 r) [] :=
  FX_of (q := ((.dat 29 r), [])) (E := env) (m := m + 1) (dec := d6) jn_ok (hct _) mixed Tryz.func14 rfl (Nat.le_of_ble_eq_true rfl) (fun b hb => d6_sim hb) ((law32_run_eq m a0 a1).trans h)
theorem law32_AccumNumbers_fx (m : Nat) (hct : ∀ R, CallOK (R := R) Tryz.prog (ct m)) (a0 : List Dt) {r : Bool} (h : law32_AccumNumbers (m + 1) a0 = some r) : FX Tryz.prog 5 [(.dat 46 (.lst a0))] [] (.dat 4 (.bool r)) [] :=
  FX_of (q := ((.dat 4 (.bool r)), [])) (E := env) (m := m + 1) (dec := d36) jn_ok (hct _) mixed Tryz.func5 rfl (Nat.le_of_ble_eq_true rfl) (fun b hb => d36_sim hb) ((law32_AccumNumbers_eq m a0).trans h)
theorem ct37_ok (m : Nat) (hct : ∀ k, k < m → ∀ R, CallOK (R := R) Tryz.prog (ct k)) {R : Type} {args : List AV} {objs : List Ob} {K : Res → Option R} {r : R} (h : ct37 m args objs K = some r) : ∃ q : Res, K q = some r ∧ FX Tryz.prog 37 args objs q.1 q.2 ∧ HasBody Tryz.prog 37 := ruleOfM_ok h
theorem ct5_ok (m : Nat) (hct : ∀ k, k < m → ∀ R, CallOK (R := R) Tryz.prog (ct k)) {R : Type} {args : List AV} {objs : List Ob} {K : Res → Option R} {r : R} (h : ct5 m args objs K = some r) : ∃ q : Res, K q = some r ∧ FX Tryz.prog 5 args objs q.1 q.2 ∧ HasBody Tryz.prog 5 := by
  unfold ct5 at h
  split at h
  · rename_i l hl
    obtain ⟨x, hx, hk⟩ := Option.bind_eq_some_iff.1 h
    obtain ⟨h1, h2⟩ := sel0_ok hl
    cases m with
    | zero => cases hx
    | succ m => exact ⟨_, hk, (law32_AccumNumbers_fx m (hct m (Nat.lt_succ_self m)) _ hx).conv h1 h2, ⟨_, Tryz.func5, rfl, by decide⟩⟩
  cases h
theorem ct9_ok (m : Nat) (hct : ∀ k, k < m → ∀ R, CallOK (R := R) Tryz.prog (ct k)) {R : Type} {args : List AV} {objs : List Ob} {K : Res → Option R} {r : R} (h : ct9 m args objs K = some r) : ∃ q : Res, K q = some r ∧ FX Tryz.prog 9 args objs q.1 q.2 ∧ HasBody Tryz.prog 9 := by
  unfold ct9 at h
  split at h
  · rename_i l hl
    obtain ⟨x, hx, hk⟩ := Option.bind_eq_some_iff.1 h
    obtain ⟨h1, h2⟩ := sel1_ok hl
    exact ⟨_, hk, (awakeC_fx hx).conv h1 h2, ⟨_, Tryz.func9, rfl, by decide⟩⟩
  cases h
theorem ct16_ok (m : Nat) (hct : ∀ k, k < m → ∀ R, CallOK (R := R) Tryz.prog (ct k)) {R : Type} {args : List AV} {objs : List Ob} {K : Res → Option R} {r : R} (h : ct16 m args objs K = some r) : ∃ q : Res, K q = some r ∧ FX Tryz.prog 16 args objs q.1 q.2 ∧ HasBody Tryz.prog 16 := by
  unfold ct16 at h
  split at h
  · rename_i l hl
    obtain ⟨x, hx, hk⟩ := Option.bind_eq_some_iff.1 h
    obtain ⟨h1, h2⟩ := sel2_ok hl
    cases m with
    | zero => cases hx
    | succ m => exact ⟨_, hk, (law32_doc_fx m (hct m (Nat.lt_succ_self m)) _ hx).conv h1 h2, ⟨_, Tryz.func16, rfl, by decide⟩⟩
  cases h
theorem ct14_ok (m : Nat) (hct : ∀ k, k < m → ∀ R, CallOK (R := R) Tryz.prog (ct k)) {R : Type} {args : List AV} {objs : List Ob} {K : Res → Option R} {r : R} (h : ct14 m args objs K = some r) : ∃ q : Res, K q = some r ∧ FX Tryz.prog 14 args objs q.1 q.2 ∧ HasBody Tryz.prog 14 := by
  unfold ct14 at h
  split at h
  · rename_i l hl
    obtain ⟨x, hx, hk⟩ := Option.bind_eq_some_iff.1 h
    obtain ⟨h1, h2⟩ := sel3_ok hl
    cases m with
    | zero => cases hx
    | succ m => exact ⟨_, hk, (law32_run_fx m (hct m (Nat.lt_succ_self m)) _ _ hx).conv h1 h2, ⟨_, Tryz.func14, rfl, by decide⟩⟩
  cases h
theorem ct17_ok (m : Nat) (hct : ∀ k, k < m → ∀ R, CallOK (R := R) Tryz.prog (ct k)) {R : Type} {args : List AV} {objs : List Ob} {K : Res → Option R} {r : R} (h : ct17 m args objs K = some r) : ∃ q : Res, K q = some r ∧ FX Tryz.prog 17 args objs q.1 q.2 ∧ HasBody Tryz.prog 17 := by
  unfold ct17 at h
  split at h
  · rename_i l hl
    obtain ⟨x, hx, hk⟩ := Option.bind_eq_some_iff.1 h
    obtain ⟨h1, h2⟩ := sel4_ok hl
    cases m with
    | zero => cases hx
    | succ m => exact ⟨_, hk, (accum_Result_fx m (hct m (Nat.lt_succ_self m)) _ _ hx).conv h1 h2, ⟨_, Tryz.func17, rfl, by decide⟩⟩
  cases h
theorem ct23_ok (m : Nat) (hct : ∀ k, k < m → ∀ R, CallOK (R := R) Tryz.prog (ct k)) {R : Type} {args : List AV} {objs : List Ob} {K : Res → Option R} {r : R} (h : ct23 m args objs K = some r) : ∃ q : Res, K q = some r ∧ FX Tryz.prog 23 args objs q.1 q.2 ∧ HasBody Tryz.prog 23 := by
  unfold ct23 at h
  split at h
  · rename_i l hl
    obtain ⟨x, hx, hk⟩ := Option.bind_eq_some_iff.1 h
    obtain ⟨h1, h2⟩ := sel2_ok hl
    cases m with
    | zero => cases hx
    | succ m => exact ⟨_, hk, (ref01_Int_fx m (hct m (Nat.lt_succ_self m)) _ hx).conv h1 h2, ⟨_, Tryz.func23, rfl, by decide⟩⟩
  cases h
theorem ct19_ok (m : Nat) (hct : ∀ k, k < m → ∀ R, CallOK (R := R) Tryz.prog (ct k)) {R : Type} {args : List AV} {objs : List Ob} {K : Res → Option R} {r : R} (h : ct19 m args objs K = some r) : ∃ q : Res, K q = some r ∧ FX Tryz.prog 19 args objs q.1 q.2 ∧ HasBody Tryz.prog 19 := by
  unfold ct19 at h
  split at h
  · rename_i l hl
    obtain ⟨x, hx, hk⟩ := Option.bind_eq_some_iff.1 h
    obtain ⟨h1, h2⟩ := sel6_ok hl
    cases m with
    | zero => cases hx
    | succ m => exact ⟨_, hk, (accum_Start_fx m (hct m (Nat.lt_succ_self m)) _ hx).conv h1 h2, ⟨_, Tryz.func19, rfl, by decide⟩⟩
  cases h
theorem ct22_ok (m : Nat) (hct : ∀ k, k < m → ∀ R, CallOK (R := R) Tryz.prog (ct k)) {R : Type} {args : List AV} {objs : List Ob} {K : Res → Option R} {r : R} (h : ct22 m args objs K = some r) : ∃ q : Res, K q = some r ∧ FX Tryz.prog 22 args objs q.1 q.2 ∧ HasBody Tryz.prog 22 := by
  unfold ct22 at h
  split at h
  · rename_i l hl
    obtain ⟨x, hx, hk⟩ := Option.bind_eq_some_iff.1 h
    obtain ⟨h1, h2⟩ := sel7_ok hl
    cases m with
    | zero => cases hx
    | succ m => exact ⟨_, hk, (accum_Add_fx m (hct m (Nat.lt_succ_self m)) _ _ _ hx).conv h1 h2, ⟨_, Tryz.func22, rfl, by decide⟩⟩
  cases h
theorem ct78_ok (m : Nat) (hct : ∀ k, k < m → ∀ R, CallOK (R := R) Tryz.prog (ct k)) {R : Type} {args : List AV} {objs : List Ob} {K : Res → Option R} {r : R} (h : ct78 m args objs K = some r) : ∃ q : Res, K q = some r ∧ FX Tryz.prog 78 args objs q.1 q.2 ∧ HasBody Tryz.prog 78 := by
  unfold ct78 at h
  split at h
  · rename_i l hl
    obtain ⟨x, hx, hk⟩ := Option.bind_eq_some_iff.1 h
    obtain ⟨h1, h2⟩ := sel8_ok hl
    cases m with
    | zero => cases hx
    | succ m => exact ⟨_, hk, (accum_sumRule_result_fx m (hct m (Nat.lt_succ_self m)) _ _ hx).conv h1 h2, ⟨_, Tryz.func78, rfl, by decide⟩⟩
  cases h
theorem ct25_ok (m : Nat) (hct : ∀ k, k < m → ∀ R, CallOK (R := R) Tryz.prog (ct k)) {R : Type} {args : List AV} {objs : List Ob} {K : Res → Option R} {r : R} (h : ct25 m args objs K = some r) : ∃ q : Res, K q = some r ∧ FX Tryz.prog 25 args objs q.1 q.2 ∧ HasBody Tryz.prog 25 := by
  unfold ct25 at h
  split at h
  · rename_i l hl
    obtain ⟨x, hx, hk⟩ := Option.bind_eq_some_iff.1 h
    obtain ⟨h1, h2⟩ := sel9_ok hl
    cases m with
    | zero => cases hx
    | succ m => exact ⟨_, hk, (accum_copyValue_fx m (hct m (Nat.lt_succ_self m)) _ hx).conv h1 h2, ⟨_, Tryz.func25, rfl, by decide⟩⟩
  cases h
theorem ct142_ok (m : Nat) (hct : ∀ k, k < m → ∀ R, CallOK (R := R) Tryz.prog (ct k)) {R : Type} {args : List AV} {objs : List Ob} {K : Res → Option R} {r : R} (h : ct142 m args objs K = some r) : ∃ q : Res, K q = some r ∧ FX Tryz.prog 142 args objs q.1 q.2 ∧ HasBody Tryz.prog 142 := by
  unfold ct142 at h
  split at h
  · rename_i l hl
    obtain ⟨x, hx, hk⟩ := Option.bind_eq_some_iff.1 h
    obtain ⟨h1, h2⟩ := sel10_ok hl
    cases m with
    | zero => cases hx
    | succ m => exact ⟨_, hk, (accum_countRule_result_fx m (hct m (Nat.lt_succ_self m)) _ _ hx).conv h1 h2, ⟨_, Tryz.func142, rfl, by decide⟩⟩
  cases h
theorem ct145_ok (m : Nat) (hct : ∀ k, k < m → ∀ R, CallOK (R := R) Tryz.prog (ct k)) {R : Type} {args : List AV} {objs : List Ob} {K : Res → Option R} {r : R} (h : ct145 m args objs K = some r) : ∃ q : Res, K q = some r ∧ FX Tryz.prog 145 args objs q.1 q.2 ∧ HasBody Tryz.prog 145 := by
  unfold ct145 at h
  split at h
  · rename_i l hl
    obtain ⟨x, hx, hk⟩ := Option.bind_eq_some_iff.1 h
    obtain ⟨h1, h2⟩ := sel11_ok hl
    cases m with
    | zero => cases hx
    | succ m => exact ⟨_, hk, (accum_avgRule_result_fx m (hct m (Nat.lt_succ_self m)) _ _ hx).conv h1 h2, ⟨_, Tryz.func145, rfl, by decide⟩⟩
  cases h
theorem ct149_ok (m : Nat) (hct : ∀ k, k < m → ∀ R, CallOK (R := R) Tryz.prog (ct k)) {R : Type} {args : List AV} {objs : List Ob} {K : Res → Option R} {r : R} (h : ct149 m args objs K = some r) : ∃ q : Res, K q = some r ∧ FX Tryz.prog 149 args objs q.1 q.2 ∧ HasBody Tryz.prog 149 := by
  unfold ct149 at h
  split at h
  · rename_i l hl
    obtain ⟨x, hx, hk⟩ := Option.bind_eq_some_iff.1 h
    obtain ⟨h1, h2⟩ := sel12_ok hl
    cases m with
    | zero => cases hx
    | succ m => exact ⟨_, hk, (accum_extremeRule_result_fx m (hct m (Nat.lt_succ_self m)) _ _ hx).conv h1 h2, ⟨_, Tryz.func149, rfl, by decide⟩⟩
  cases h
theorem ct153_ok (m : Nat) (hct : ∀ k, k < m → ∀ R, CallOK (R := R) Tryz.prog (ct k)) {R : Type} {args : List AV} {objs : List Ob} {K : Res → Option R} {r : R} (h : ct153 m args objs K = some r) : ∃ q : Res, K q = some r ∧ FX Tryz.prog 153 args objs q.1 q.2 ∧ HasBody Tryz.prog 153 := by
  unfold ct153 at h
  split at h
  · rename_i l hl
    obtain ⟨x, hx, hk⟩ := Option.bind_eq_some_iff.1 h
    obtain ⟨h1, h2⟩ := sel13_ok hl
    cases m with
    | zero => cases hx
    | succ m => exact ⟨_, hk, (accum_firstRule_result_fx m (hct m (Nat.lt_succ_self m)) _ _ hx).conv h1 h2, ⟨_, Tryz.func153, rfl, by decide⟩⟩
  cases h
theorem ct156_ok (m : Nat) (hct : ∀ k, k < m → ∀ R, CallOK (R := R) Tryz.prog (ct k)) {R : Type} {args : List AV} {objs : List Ob} {K : Res → Option R} {r : R} (h : ct156 m args objs K = some r) : ∃ q : Res, K q = some r ∧ FX Tryz.prog 156 args objs q.1 q.2 ∧ HasBody Tryz.prog 156 := by
  unfold ct156 at h
  split at h
  · rename_i l hl
    obtain ⟨x, hx, hk⟩ := Option.bind_eq_some_iff.1 h
    obtain ⟨h1, h2⟩ := sel14_ok hl
    cases m with
    | zero => cases hx
    | succ m => exact ⟨_, hk, (accum_lastRule_result_fx m (hct m (Nat.lt_succ_self m)) _ _ hx).conv h1 h2, ⟨_, Tryz.func156, rfl, by decide⟩⟩
  cases h
theorem ct159_ok (m : Nat) (hct : ∀ k, k < m → ∀ R, CallOK (R := R) Tryz.prog (ct k)) {R : Type} {args : List AV} {objs : List Ob} {K : Res → Option R} {r : R} (h : ct159 m args objs K = some r) : ∃ q : Res, K q = some r ∧ FX Tryz.prog 159 args objs q.1 q.2 ∧ HasBody Tryz.prog 159 := by
  unfold ct159 at h
  split at h
  · rename_i l hl
    obtain ⟨x, hx, hk⟩ := Option.bind_eq_some_iff.1 h
    obtain ⟨h1, h2⟩ := sel15_ok hl
    exact ⟨_, hk, (resN159_fx hx).conv h1 h2, ⟨_, Tryz.func159, rfl, by decide⟩⟩
  cases h
theorem ct162_ok (m : Nat) (hct : ∀ k, k < m → ∀ R, CallOK (R := R) Tryz.prog (ct k)) {R : Type} {args : List AV} {objs : List Ob} {K : Res → Option R} {r : R} (h : ct162 m args objs K = some r) : ∃ q : Res, K q = some r ∧ FX Tryz.prog 162 args objs q.1 q.2 ∧ HasBody Tryz.prog 162 := by
  unfold ct162 at h
  split at h
  · rename_i l hl
    obtain ⟨x, hx, hk⟩ := Option.bind_eq_some_iff.1 h
    obtain ⟨h1, h2⟩ := sel16_ok hl
    exact ⟨_, hk, (resN162_fx hx).conv h1 h2, ⟨_, Tryz.func162, rfl, by decide⟩⟩
  cases h
theorem ct172_ok (m : Nat) (hct : ∀ k, k < m → ∀ R, CallOK (R := R) Tryz.prog (ct k)) {R : Type} {args : List AV} {objs : List Ob} {K : Res → Option R} {r : R} (h : ct172 m args objs K = some r) : ∃ q : Res, K q = some r ∧ FX Tryz.prog 172 args objs q.1 q.2 ∧ HasBody Tryz.prog 172 := by
  unfold ct172 at h
  split at h
  · rename_i l hl
    obtain ⟨x, hx, hk⟩ := Option.bind_eq_some_iff.1 h
    obtain ⟨h1, h2⟩ := sel17_ok hl
    exact ⟨_, hk, (resN172_fx hx).conv h1 h2, ⟨_, Tryz.func172, rfl, by decide⟩⟩
  cases h
theorem ct38_ok (m : Nat) (hct : ∀ k, k < m → ∀ R, CallOK (R := R) Tryz.prog (ct k)) {R : Type} {args : List AV} {objs : List Ob} {K : Res → Option R} {r : R} (h : ct38 m args objs K = some r) : ∃ q : Res, K q = some r ∧ FX Tryz.prog 38 args objs q.1 q.2 ∧ HasBody Tryz.prog 38 := by
  unfold ct38 at h
  split at h
  · rename_i l hl
    obtain ⟨x, hx, hk⟩ := Option.bind_eq_some_iff.1 h
    obtain ⟨h1, h2⟩ := sel18_ok hl
    cases m with
    | zero => cases hx
    | succ m => exact ⟨_, hk, (accum_copyPart_fx m (hct m (Nat.lt_succ_self m)) _ hx).conv h1 h2, ⟨_, Tryz.func38, rfl, by decide⟩⟩
  cases h
theorem ct76_ok (m : Nat) (hct : ∀ k, k < m → ∀ R, CallOK (R := R) Tryz.prog (ct k)) {R : Type} {args : List AV} {objs : List Ob} {K : Res → Option R} {r : R} (h : ct76 m args objs K = some r) : ∃ q : Res, K q = some r ∧ FX Tryz.prog 76 args objs q.1 q.2 ∧ HasBody Tryz.prog 76 := by
  unfold ct76 at h
  split at h
  · rename_i l hl
    obtain ⟨x, hx, hk⟩ := Option.bind_eq_some_iff.1 h
    obtain ⟨h1, h2⟩ := sel19_ok hl
    cases m with
    | zero => cases hx
    | succ m => exact ⟨_, hk, (accum_sumRule_add_fx m (hct m (Nat.lt_succ_self m)) _ _ _ _ hx).conv h1 h2, ⟨_, Tryz.func76, rfl, by decide⟩⟩
  cases h
theorem ct140_ok (m : Nat) (hct : ∀ k, k < m → ∀ R, CallOK (R := R) Tryz.prog (ct k)) {R : Type} {args : List AV} {objs : List Ob} {K : Res → Option R} {r : R} (h : ct140 m args objs K = some r) : ∃ q : Res, K q = some r ∧ FX Tryz.prog 140 args objs q.1 q.2 ∧ HasBody Tryz.prog 140 := by
  unfold ct140 at h
  split at h
  · rename_i l hl
    obtain ⟨x, hx, hk⟩ := Option.bind_eq_some_iff.1 h
    obtain ⟨h1, h2⟩ := sel20_ok hl
    cases m with
    | zero => cases hx
    | succ m => exact ⟨_, hk, (accum_countRule_add_fx m (hct m (Nat.lt_succ_self m)) _ _ _ _ hx).conv h1 h2, ⟨_, Tryz.func140, rfl, by decide⟩⟩
  cases h
theorem ct143_ok (m : Nat) (hct : ∀ k, k < m → ∀ R, CallOK (R := R) Tryz.prog (ct k)) {R : Type} {args : List AV} {objs : List Ob} {K : Res → Option R} {r : R} (h : ct143 m args objs K = some r) : ∃ q : Res, K q = some r ∧ FX Tryz.prog 143 args objs q.1 q.2 ∧ HasBody Tryz.prog 143 := by
  unfold ct143 at h
  split at h
  · rename_i l hl
    obtain ⟨x, hx, hk⟩ := Option.bind_eq_some_iff.1 h
    obtain ⟨h1, h2⟩ := sel21_ok hl
    cases m with
    | zero => cases hx
    | succ m => exact ⟨_, hk, (accum_avgRule_add_fx m (hct m (Nat.lt_succ_self m)) _ _ _ _ hx).conv h1 h2, ⟨_, Tryz.func143, rfl, by decide⟩⟩
  cases h
theorem ct147_ok (m : Nat) (hct : ∀ k, k < m → ∀ R, CallOK (R := R) Tryz.prog (ct k)) {R : Type} {args : List AV} {objs : List Ob} {K : Res → Option R} {r : R} (h : ct147 m args objs K = some r) : ∃ q : Res, K q = some r ∧ FX Tryz.prog 147 args objs q.1 q.2 ∧ HasBody Tryz.prog 147 := by
  unfold ct147 at h
  split at h
  · rename_i l hl
    obtain ⟨x, hx, hk⟩ := Option.bind_eq_some_iff.1 h
    obtain ⟨h1, h2⟩ := sel22_ok hl
    cases m with
    | zero => cases hx
    | succ m => exact ⟨_, hk, (accum_extremeRule_add_fx m (hct m (Nat.lt_succ_self m)) _ _ _ _ hx).conv h1 h2, ⟨_, Tryz.func147, rfl, by decide⟩⟩
  cases h
theorem ct151_ok (m : Nat) (hct : ∀ k, k < m → ∀ R, CallOK (R := R) Tryz.prog (ct k)) {R : Type} {args : List AV} {objs : List Ob} {K : Res → Option R} {r : R} (h : ct151 m args objs K = some r) : ∃ q : Res, K q = some r ∧ FX Tryz.prog 151 args objs q.1 q.2 ∧ HasBody Tryz.prog 151 := by
  unfold ct151 at h
  split at h
  · rename_i l hl
    obtain ⟨x, hx, hk⟩ := Option.bind_eq_some_iff.1 h
    obtain ⟨h1, h2⟩ := sel23_ok hl
    cases m with
    | zero => cases hx
    | succ m => exact ⟨_, hk, (accum_firstRule_add_fx m (hct m (Nat.lt_succ_self m)) _ _ _ _ hx).conv h1 h2, ⟨_, Tryz.func151, rfl, by decide⟩⟩
  cases h
theorem ct154_ok (m : Nat) (hct : ∀ k, k < m → ∀ R, CallOK (R := R) Tryz.prog (ct k)) {R : Type} {args : List AV} {objs : List Ob} {K : Res → Option R} {r : R} (h : ct154 m args objs K = some r) : ∃ q : Res, K q = some r ∧ FX Tryz.prog 154 args objs q.1 q.2 ∧ HasBody Tryz.prog 154 := by
  unfold ct154 at h
  split at h
  · rename_i l hl
    obtain ⟨x, hx, hk⟩ := Option.bind_eq_some_iff.1 h
    obtain ⟨h1, h2⟩ := sel24_ok hl
    cases m with
    | zero => cases hx
    | succ m => exact ⟨_, hk, (accum_lastRule_add_fx m (hct m (Nat.lt_succ_self m)) _ _ _ _ hx).conv h1 h2, ⟨_, Tryz.func154, rfl, by decide⟩⟩
  cases h
theorem ct157_ok (m : Nat) (hct : ∀ k, k < m → ∀ R, CallOK (R := R) Tryz.prog (ct k)) {R : Type} {args : List AV} {objs : List Ob} {K : Res → Option R} {r : R} (h : ct157 m args objs K = some r) : ∃ q : Res, K q = some r ∧ FX Tryz.prog 157 args objs q.1 q.2 ∧ HasBody Tryz.prog 157 := by
  unfold ct157 at h
  split at h
  · rename_i l hl
    obtain ⟨x, hx, hk⟩ := Option.bind_eq_some_iff.1 h
    obtain ⟨h1, h2⟩ := sel25_ok hl
    exact ⟨_, hk, (addN157_fx hx).conv h1 h2, ⟨_, Tryz.func157, rfl, by decide⟩⟩
  cases h
theorem ct160_ok (m : Nat) (hct : ∀ k, k < m → ∀ R, CallOK (R := R) Tryz.prog (ct k)) {R : Type} {args : List AV} {objs : List Ob} {K : Res → Option R} {r : R} (h : ct160 m args objs K = some r) : ∃ q : Res, K q = some r ∧ FX Tryz.prog 160 args objs q.1 q.2 ∧ HasBody Tryz.prog 160 := by
  unfold ct160 at h
  split at h
  · rename_i l hl
    obtain ⟨x, hx, hk⟩ := Option.bind_eq_some_iff.1 h
    obtain ⟨h1, h2⟩ := sel26_ok hl
    exact ⟨_, hk, (addN160_fx hx).conv h1 h2, ⟨_, Tryz.func160, rfl, by decide⟩⟩
  cases h
theorem ct170_ok (m : Nat) (hct : ∀ k, k < m → ∀ R, CallOK (R := R) Tryz.prog (ct k)) {R : Type} {args : List AV} {objs : List Ob} {K : Res → Option R} {r : R} (h : ct170 m args objs K = some r) : ∃ q : Res, K q = some r ∧ FX Tryz.prog 170 args objs q.1 q.2 ∧ HasBody Tryz.prog 170 := by
  unfold ct170 at h
  split at h
  · rename_i l hl
    obtain ⟨x, hx, hk⟩ := Option.bind_eq_some_iff.1 h
    obtain ⟨h1, h2⟩ := sel27_ok hl
    exact ⟨_, hk, (addN170_fx hx).conv h1 h2, ⟨_, Tryz.func170, rfl, by decide⟩⟩
  cases h
theorem ct35_ok (m : Nat) (hct : ∀ k, k < m → ∀ R, CallOK (R := R) Tryz.prog (ct k)) {R : Type} {args : List AV} {objs : List Ob} {K : Res → Option R} {r : R} (h : ct35 m args objs K = some r) : ∃ q : Res, K q = some r ∧ FX Tryz.prog 35 args objs q.1 q.2 ∧ HasBody Tryz.prog 35 := by
  unfold ct35 at h
  split at h
  · rename_i l hl
    obtain ⟨x, hx, hk⟩ := Option.bind_eq_some_iff.1 h
    obtain ⟨h1, h2⟩ := sel2_ok hl
    cases m with
    | zero => cases hx
    | succ m => exact ⟨_, hk, (accum_integer_fx m (hct m (Nat.lt_succ_self m)) _ hx).conv h1 h2, ⟨_, Tryz.func35, rfl, by decide⟩⟩
  cases h
theorem ct27_ok (m : Nat) (hct : ∀ k, k < m → ∀ R, CallOK (R := R) Tryz.prog (ct k)) {R : Type} {args : List AV} {objs : List Ob} {K : Res → Option R} {r : R} (h : ct27 m args objs K = some r) : ∃ q : Res, K q = some r ∧ FX Tryz.prog 27 args objs q.1 q.2 ∧ HasBody Tryz.prog 27 := by
  unfold ct27 at h
  split at h
  · rename_i l hl
    obtain ⟨x, hx, hk⟩ := Option.bind_eq_some_iff.1 h
    obtain ⟨h1, h2⟩ := sel29_ok hl
    cases m with
    | zero => cases hx
    | succ m => exact ⟨_, hk, (accum_copyList_fx m (hct m (Nat.lt_succ_self m)) _ hx).conv h1 h2, ⟨_, Tryz.func27, rfl, by decide⟩⟩
  cases h
theorem ct146_ok (m : Nat) (hct : ∀ k, k < m → ∀ R, CallOK (R := R) Tryz.prog (ct k)) {R : Type} {args : List AV} {objs : List Ob} {K : Res → Option R} {r : R} (h : ct146 m args objs K = some r) : ∃ q : Res, K q = some r ∧ FX Tryz.prog 146 args objs q.1 q.2 ∧ HasBody Tryz.prog 146 := by
  unfold ct146 at h
  split at h
  · rename_i l hl
    obtain ⟨x, hx, hk⟩ := Option.bind_eq_some_iff.1 h
    obtain ⟨h1, h2⟩ := sel9_ok hl
    cases m with
    | zero => cases hx
    | succ m => exact ⟨_, hk, (accum_orNull_fx m (hct m (Nat.lt_succ_self m)) _ hx).conv h1 h2, ⟨_, Tryz.func146, rfl, by decide⟩⟩
  cases h
theorem ct79_ok (m : Nat) (hct : ∀ k, k < m → ∀ R, CallOK (R := R) Tryz.prog (ct k)) {R : Type} {args : List AV} {objs : List Ob} {K : Res → Option R} {r : R} (h : ct79 m args objs K = some r) : ∃ q : Res, K q = some r ∧ FX Tryz.prog 79 args objs q.1 q.2 ∧ HasBody Tryz.prog 79 := by
  unfold ct79 at h
  split at h
  · rename_i l hl
    obtain ⟨x, hx, hk⟩ := Option.bind_eq_some_iff.1 h
    obtain ⟨h1, h2⟩ := sel31_ok hl
    exact ⟨_, hk, (expr_EvalC_fx hx).conv h1 h2, ⟨_, Tryz.func79, rfl, by decide⟩⟩
  cases h
theorem ct150_ok (m : Nat) (hct : ∀ k, k < m → ∀ R, CallOK (R := R) Tryz.prog (ct k)) {R : Type} {args : List AV} {objs : List Ob} {K : Res → Option R} {r : R} (h : ct150 m args objs K = some r) : ∃ q : Res, K q = some r ∧ FX Tryz.prog 150 args objs q.1 q.2 ∧ HasBody Tryz.prog 150 := by
  unfold ct150 at h
  split at h
  · rename_i l hl
    obtain ⟨x, hx, hk⟩ := Option.bind_eq_some_iff.1 h
    obtain ⟨h1, h2⟩ := sel32_ok hl
    cases m with
    | zero => cases hx
    | succ m => exact ⟨_, hk, (accum_extremeRule_better_fx m (hct m (Nat.lt_succ_self m)) _ _ _ hx).conv h1 h2, ⟨_, Tryz.func150, rfl, by decide⟩⟩
  cases h
theorem ct92_ok (m : Nat) (hct : ∀ k, k < m → ∀ R, CallOK (R := R) Tryz.prog (ct k)) {R : Type} {args : List AV} {objs : List Ob} {K : Res → Option R} {r : R} (h : ct92 m args objs K = some r) : ∃ q : Res, K q = some r ∧ FX Tryz.prog 92 args objs q.1 q.2 ∧ HasBody Tryz.prog 92 := by
  unfold ct92 at h
  split at h
  · rename_i l hl
    obtain ⟨x, hx, hk⟩ := Option.bind_eq_some_iff.1 h
    obtain ⟨h1, h2⟩ := sel33_ok hl
    cases m with
    | zero => cases hx
    | succ m => exact ⟨_, hk, (value_Compare_fx m (hct m (Nat.lt_succ_self m)) _ _ hx).conv h1 h2, ⟨_, Tryz.func92, rfl, by decide⟩⟩
  cases h
theorem ct112_ok (m : Nat) (hct : ∀ k, k < m → ∀ R, CallOK (R := R) Tryz.prog (ct k)) {R : Type} {args : List AV} {objs : List Ob} {K : Res → Option R} {r : R} (h : ct112 m args objs K = some r) : ∃ q : Res, K q = some r ∧ FX Tryz.prog 112 args objs q.1 q.2 ∧ HasBody Tryz.prog 112 := by
  unfold ct112 at h
  split at h
  · rename_i l hl
    obtain ⟨x, hx, hk⟩ := Option.bind_eq_some_iff.1 h
    obtain ⟨h1, h2⟩ := sel34_ok hl
    cases m with
    | zero => cases hx
    | succ m => exact ⟨_, hk, (cmp_Compare_fx m (hct m (Nat.lt_succ_self m)) _ _ hx).conv h1 h2, ⟨_, Tryz.func112, rfl, by decide⟩⟩
  cases h
theorem ct113_ok (m : Nat) (hct : ∀ k, k < m → ∀ R, CallOK (R := R) Tryz.prog (ct k)) {R : Type} {args : List AV} {objs : List Ob} {K : Res → Option R} {r : R} (h : ct113 m args objs K = some r) : ∃ q : Res, K q = some r ∧ FX Tryz.prog 113 args objs q.1 q.2 ∧ HasBody Tryz.prog 113 := by
  unfold ct113 at h
  split at h
  · rename_i l hl
    obtain ⟨x, hx, hk⟩ := Option.bind_eq_some_iff.1 h
    obtain ⟨h1, h2⟩ := sel35_ok hl
    exact ⟨_, hk, (strings_CompareN_fx hx).conv h1 h2, ⟨_, Tryz.func113, rfl, by decide⟩⟩
  cases h
theorem ct127_ok (m : Nat) (hct : ∀ k, k < m → ∀ R, CallOK (R := R) Tryz.prog (ct k)) {R : Type} {args : List AV} {objs : List Ob} {K : Res → Option R} {r : R} (h : ct127 m args objs K = some r) : ∃ q : Res, K q = some r ∧ FX Tryz.prog 127 args objs q.1 q.2 ∧ HasBody Tryz.prog 127 := by
  unfold ct127 at h
  split at h
  · rename_i l hl
    obtain ⟨x, hx, hk⟩ := Option.bind_eq_some_iff.1 h
    obtain ⟨h1, h2⟩ := sel2_ok hl
    cases m with
    | zero => cases hx
    | succ m => exact ⟨_, hk, (cmp_isNaN_fx m (hct m (Nat.lt_succ_self m)) _ hx).conv h1 h2, ⟨_, Tryz.func127, rfl, by decide⟩⟩
  cases h
set_option maxHeartbeats 4000000 in
theorem ct_ok : ∀ (m : Nat) (R : Type), CallOK (R := R) Tryz.prog (ct m) := by
  intro m
  induction m using Nat.strongRecOn with
  | _ m ih =>
    intro R f args objs K r h
    unfold ct at h
    rcases bset_some h with ⟨hb, h1⟩ | ⟨_, h⟩
    · have e := beq_eq hb
      subst e
      exact ct5_ok m ih h1
    rcases bset_some h with ⟨hb, h1⟩ | ⟨_, h⟩
    · have e := beq_eq hb
      subst e
      exact ct9_ok m ih h1
    rcases bset_some h with ⟨hb, h1⟩ | ⟨_, h⟩
    · have e := beq_eq hb
      subst e
      exact ct16_ok m ih h1
    rcases bset_some h with ⟨hb, h1⟩ | ⟨_, h⟩
    · have e := beq_eq hb
      subst e
      exact ct14_ok m ih h1
    rcases bset_some h with ⟨hb, h1⟩ | ⟨_, h⟩
    · have e := beq_eq hb
      subst e
      exact ct17_ok m ih h1
    rcases bset_some h with ⟨hb, h1⟩ | ⟨_, h⟩
    · have e := beq_eq hb
      subst e
      exact ct23_ok m ih h1
    rcases bset_some h with ⟨hb, h1⟩ | ⟨_, h⟩
    · have e := beq_eq hb
      subst e
      exact ct19_ok m ih h1
    rcases bset_some h with ⟨hb, h1⟩ | ⟨_, h⟩
    · have e := beq_eq hb
      subst e
      exact ct22_ok m ih h1
    rcases bset_some h with ⟨hb, h1⟩ | ⟨_, h⟩
    · have e := beq_eq hb
      subst e
      exact ct78_ok m ih h1
    rcases bset_some h with ⟨hb, h1⟩ | ⟨_, h⟩
    · have e := beq_eq hb
      subst e
      exact ct25_ok m ih h1
    rcases bset_some h with ⟨hb, h1⟩ | ⟨_, h⟩
    · have e := beq_eq hb
      subst e
      exact ct142_ok m ih h1
    rcases bset_some h with ⟨hb, h1⟩ | ⟨_, h⟩
    · have e := beq_eq hb
      subst e
      exact ct145_ok m ih h1
    rcases bset_some h with ⟨hb, h1⟩ | ⟨_, h⟩
    · have e := beq_eq hb
      subst e
      exact ct149_ok m ih h1
    rcases bset_some h with ⟨hb, h1⟩ | ⟨_, h⟩
    · have e := beq_eq hb
      subst e
      exact ct153_ok m ih h1
    rcases bset_some h with ⟨hb, h1⟩ | ⟨_, h⟩
    · have e := beq_eq hb
      subst e
      exact ct156_ok m ih h1
    rcases bset_some h with ⟨hb, h1⟩ | ⟨_, h⟩
    · have e := beq_eq hb
      subst e
      exact ct159_ok m ih h1
    rcases bset_some h with ⟨hb, h1⟩ | ⟨_, h⟩
    · have e := beq_eq hb
      subst e
      exact ct162_ok m ih h1
    rcases bset_some h with ⟨hb, h1⟩ | ⟨_, h⟩
    · have e := beq_eq hb
      subst e
      exact ct172_ok m ih h1
    rcases bset_some h with ⟨hb, h1⟩ | ⟨_, h⟩
    · have e := beq_eq hb
      subst e
      exact ct38_ok m ih h1
    rcases bset_some h with ⟨hb, h1⟩ | ⟨_, h⟩
    · have e := beq_eq hb
      subst e
      exact ct76_ok m ih h1
    rcases bset_some h with ⟨hb, h1⟩ | ⟨_, h⟩
    · have e := beq_eq hb
      subst e
      exact ct140_ok m ih h1
    rcases bset_some h with ⟨hb, h1⟩ | ⟨_, h⟩
    · have e := beq_eq hb
      subst e
      exact ct143_ok m ih h1
    rcases bset_some h with ⟨hb, h1⟩ | ⟨_, h⟩
    · have e := beq_eq hb
      subst e
      exact ct147_ok m ih h1
    rcases bset_some h with ⟨hb, h1⟩ | ⟨_, h⟩
    · have e := beq_eq hb
      subst e
      exact ct151_ok m ih h1
    rcases bset_some h with ⟨hb, h1⟩ | ⟨_, h⟩
    · have e := beq_eq hb
      subst e
      exact ct154_ok m ih h1
    rcases bset_some h with ⟨hb, h1⟩ | ⟨_, h⟩
    · have e := beq_eq hb
      subst e
      exact ct157_ok m ih h1
    rcases bset_some h with ⟨hb, h1⟩ | ⟨_, h⟩
    · have e := beq_eq hb
      subst e
      exact ct160_ok m ih h1
    rcases bset_some h with ⟨hb, h1⟩ | ⟨_, h⟩
    · have e := beq_eq hb
      subst e
      exact ct170_ok m ih h1
    rcases bset_some h with ⟨hb, h1⟩ | ⟨_, h⟩
    · have e := beq_eq hb
      subst e
      exact ct35_ok m ih h1
    rcases bset_some h with ⟨hb, h1⟩ | ⟨_, h⟩
    · have e := beq_eq hb
      subst e
      exact ct27_ok m ih h1
    rcases bset_some h with ⟨hb, h1⟩ | ⟨_, h⟩
    · have e := beq_eq hb
      subst e
      exact ct146_ok m ih h1
    rcases bset_some h with ⟨hb, h1⟩ | ⟨_, h⟩
    · have e := beq_eq hb
      subst e
      exact ct79_ok m ih h1
    rcases bset_some h with ⟨hb, h1⟩ | ⟨_, h⟩
    · have e := beq_eq hb
      subst e
      exact ct150_ok m ih h1
    rcases bset_some h with ⟨hb, h1⟩ | ⟨_, h⟩
    · have e := beq_eq hb
      subst e
      exact ct92_ok m ih h1
    rcases bset_some h with ⟨hb, h1⟩ | ⟨_, h⟩
    · have e := beq_eq hb
      subst e
      exact ct112_ok m ih h1
    rcases bset_some h with ⟨hb, h1⟩ | ⟨_, h⟩
    · have e := beq_eq hb
      subst e
      exact ct113_ok m ih h1
    rcases bset_some h with ⟨hb, h1⟩ | ⟨_, h⟩
    · have e := beq_eq hb
      subst e
      exact ct127_ok m ih h1
    rcases bset_some h with ⟨hb, h1⟩ | ⟨_, h⟩
    · have e := beq_eq hb
      subst e
      exact ct37_ok m ih h1
    cases h
end Go.Proofs.YtacpcknpliomoaaGreat
