/- Generated: the contracts. -/
import Derived.Test.YtacpcknpliomoaaGreatEq0
set_option linter.unusedVariables false
set_option linter.unusedSimpArgs false
namespace Go.Proofs.YtacpcknpliomoaaGreat
open Go.Am
set_option maxRecDepth 100000
theorem mixed : Tryz.prog.follows .mixedOrders = true := by kernel_rfl
theorem ref01_Same_fx (m : Nat) (hct : ∀ R, CallOK (R := R) Tryz.prog (ct m)) (a0 a1 : Dt) {r : Bool} (h : ref01_Same (m + 1) a0 a1 = some r) : FX Tryz.prog 20 [(.dat 25 a0), (.dat 25 a1)] [] (.dat 4 (.bool r)) [] :=
  FX_of (q := ((.dat 4 (.bool r)), [])) (E := env) (m := m + 1) (dec := d4) jn_ok (hct _) mixed Tryz.func20 rfl (Nat.le_of_ble_eq_true rfl) (fun b hb => d4_sim hb) ((ref01_Same_eq m a0 a1).trans h)
theorem ref01_Int_fx (m : Nat) (hct : ∀ R, CallOK (R := R) Tryz.prog (ct m)) (a0 : Int) {r : Dt} (h : ref01_Int (m + 1) a0 = some r) : FX Tryz.prog 23 [(.dat 3 (.int a0))] [] (.dat 25 r) [] :=
  FX_of (q := ((.dat 25 r), [])) (E := env) (m := m + 1) (dec := d6) jn_ok (hct _) mixed Tryz.func23 rfl (Nat.le_of_ble_eq_true rfl) (fun b hb => d6_sim hb) ((ref01_Int_eq m a0).trans h)
theorem law32_doc_fx (m : Nat) (hct : ∀ R, CallOK (R := R) Tryz.prog (ct m)) (a0 : Int) {r : Dt} (h : law32_doc (m + 1) a0 = some r) : FX Tryz.prog 16 [(.dat 3 (.int a0))] [] (.dat 25 r) [] :=
  FX_of (q := ((.dat 25 r), [])) (E := env) (m := m + 1) (dec := d6) jn_ok (hct _) mixed Tryz.func16 rfl (Nat.le_of_ble_eq_true rfl) (fun b hb => d6_sim hb) ((law32_doc_eq m a0).trans h)
theorem accum_Start_fx (m : Nat) (hct : ∀ R, CallOK (R := R) Tryz.prog (ct m)) (a0 : Dt) {r : Dt} (h : accum_Start (m + 1) a0 = some r) : FX Tryz.prog 19 [(.dat 41 a0)] [] (.dat 29 r) [] :=
  FX_of (q := ((.dat 29 r), [])) (E := env) (m := m + 1) (dec := d7) jn_ok (hct _) mixed Tryz.func19 rfl (Nat.le_of_ble_eq_true rfl) (fun b hb => d7_sim hb) ((accum_Start_eq m a0).trans h)
theorem accum_copyValue_fx (m : Nat) (hct : ∀ R, CallOK (R := R) Tryz.prog (ct m)) (a0 : Dt) {r : Dt} (h : accum_copyValue (m + 1) a0 = some r) : FX Tryz.prog 25 [(.dat 25 a0)] [] (.dat 25 r) [] :=
  FX_of (q := ((.dat 25 r), [])) (E := env) (m := m + 1) (dec := d6) jn_ok (hct _) mixed Tryz.func25 rfl (Nat.le_of_ble_eq_true rfl) (fun b hb => d6_sim hb) ((accum_copyValue_eq m a0).trans h)
theorem accum_copyList_fx (m : Nat) (hct : ∀ R, CallOK (R := R) Tryz.prog (ct m)) (a0 : List Dt) {r : List Dt} (h : accum_copyList (m + 1) a0 = some r) : FX Tryz.prog 27 [(.dat 22 (.lst a0))] [] (.row 0) [(.row 22 r)] :=
  FX_of (q := ((.row 0), [(.row 22 r)])) (E := env) (m := m + 1) (dec := d11) jn_ok (hct _) mixed Tryz.func27 rfl (Nat.le_of_ble_eq_true rfl) (fun b hb => d11_sim hb) ((accum_copyList_eq m a0).trans h)
theorem accum_copyPart_fx (m : Nat) (hct : ∀ R, CallOK (R := R) Tryz.prog (ct m)) (a0 : Dt) {r : Int × Int × Int × Dt × List Dt × List Dt} (h : accum_copyPart (m + 1) a0 = some r) : FX Tryz.prog 38 [(.dat 29 a0)] [] (.agg 29 [(.dat 3 (.int r.1)), (.dat 3 (.int r.2.1)), (.dat 3 (.int r.2.2.1)), (.dat 25 r.2.2.2.1), (.row 0), (.row 1)]) [(.row 22 r.2.2.2.2.1), (.row 22 r.2.2.2.2.2)] :=
  FX_of (q := ((.agg 29 [(.dat 3 (.int r.1)), (.dat 3 (.int r.2.1)), (.dat 3 (.int r.2.2.1)), (.dat 25 r.2.2.2.1), (.row 0), (.row 1)]), [(.row 22 r.2.2.2.2.1), (.row 22 r.2.2.2.2.2)])) (E := env) (m := m + 1) (dec := d9) jn_ok (hct _) mixed Tryz.func38 rfl (Nat.le_of_ble_eq_true rfl) (fun b hb => d9_sim hb) ((accum_copyPart_eq m a0).trans h)
theorem i12_fx (m : Nat) (hct : ∀ R, CallOK (R := R) Tryz.prog (ct m)) (a0 : Dt) (a1 a2 a3 : Int) (a4 : Dt) (a5 a6 a7 : Int) (a8 : Dt) (a9 a10 a11 a12 : List Dt) {r : Dt × List Dt × List Dt} (h : i12 (m + 1) a0 a1 a2 a3 a4 a5 a6 a7 a8 a9 a10 a11 a12 = some r) : FX Tryz.prog 158 [(.agg 92 []), (.dat 41 a0), (.agg 29 [(.dat 3 (.int a1)), (.dat 3 (.int a2)), (.dat 3 (.int a3)), (.dat 25 a4), (.row 0), (.row 1)]), (.agg 29 [(.dat 3 (.int a5)), (.dat 3 (.int a6)), (.dat 3 (.int a7)), (.dat 25 a8), (.row 2), (.row 3)])] [(.row 22 a9), (.row 22 a10), (.row 22 a11), (.row 22 a12)] (.dat 29 r.1) [.gone, .gone, (.frz 22 r.2.1), (.row 22 r.2.2)] :=
  FX_of (q := ((.dat 29 r.1), [.gone, .gone, (.frz 22 r.2.1), (.row 22 r.2.2)])) (E := env) (m := m + 1) (dec := d12) jn_ok (hct _) mixed Tryz.func158 rfl (Nat.le_of_ble_eq_true rfl) (fun b hb => d12_sim hb) ((i12_eq m a0 a1 a2 a3 a4 a5 a6 a7 a8 a9 a10 a11 a12).trans h)
theorem accum_orNull_fx (m : Nat) (hct : ∀ R, CallOK (R := R) Tryz.prog (ct m)) (a0 : Dt) {r : Dt} (h : accum_orNull (m + 1) a0 = some r) : FX Tryz.prog 146 [(.dat 25 a0)] [] (.dat 25 r) [] :=
  FX_of (q := ((.dat 25 r), [])) (E := env) (m := m + 1) (dec := d6) jn_ok (hct _) mixed Tryz.func146 rfl (Nat.le_of_ble_eq_true rfl) (fun b hb => d6_sim hb) ((accum_orNull_eq m a0).trans h)
theorem i18_fx (m : Nat) (hct : ∀ R, CallOK (R := R) Tryz.prog (ct m)) (a0 : Dt) (a1 a2 a3 : Int) (a4 a5 : Dt) (a6 a7 : List Dt) {r : Dt} (h : i18 (m + 1) a0 a1 a2 a3 a4 a5 a6 a7 = some r) : FX Tryz.prog 157 [(.agg 92 []), (.dat 41 a0), (.agg 29 [(.dat 3 (.int a1)), (.dat 3 (.int a2)), (.dat 3 (.int a3)), (.dat 25 a4), (.row 0), (.row 1)]), (.dat 25 a5)] [(.row 22 a6), (.row 22 a7)] (.dat 29 r) [.gone, .gone] :=
  FX_of (q := ((.dat 29 r), [.gone, .gone])) (E := env) (m := m + 1) (dec := d18) jn_ok (hct _) mixed Tryz.func157 rfl (Nat.le_of_ble_eq_true rfl) (fun b hb => d18_sim hb) ((i18_eq m a0 a1 a2 a3 a4 a5 a6 a7).trans h)
theorem cmp_isNaN_fx (m : Nat) (hct : ∀ R, CallOK (R := R) Tryz.prog (ct m)) (a0 : Int) {r : Bool} (h : cmp_isNaN (m + 1) a0 = some r) : FX Tryz.prog 127 [(.dat 3 (.int a0))] [] (.dat 4 (.bool r)) [] :=
  FX_of (q := ((.dat 4 (.bool r)), [])) (E := env) (m := m + 1) (dec := d4) jn_ok (hct _) mixed Tryz.func127 rfl (Nat.le_of_ble_eq_true rfl) (fun b hb => d4_sim hb) ((cmp_isNaN_eq m a0).trans h)
theorem cmp_Compare_fx (m : Nat) (hct : ∀ R, CallOK (R := R) Tryz.prog (ct m)) (a0 a1 : Int) {r : Int} (h : cmp_Compare (m + 1) a0 a1 = some r) : FX Tryz.prog 112 [(.dat 3 (.int a0)), (.dat 3 (.int a1))] [] (.dat 3 (.int r)) [] :=
  FX_of (q := ((.dat 3 (.int r)), [])) (E := env) (m := m + 1) (dec := d23) jn_ok (hct _) mixed Tryz.func112 rfl (Nat.le_of_ble_eq_true rfl) (fun b hb => d23_sim hb) ((cmp_Compare_eq m a0 a1).trans h)
theorem value_Compare_fx (m : Nat) (hct : ∀ R, CallOK (R := R) Tryz.prog (ct m)) (a0 a1 : Dt) {r : Int} (h : value_Compare (m + 1) a0 a1 = some r) : FX Tryz.prog 92 [(.dat 25 a0), (.dat 25 a1)] [] (.dat 3 (.int r)) [] :=
  FX_of (q := ((.dat 3 (.int r)), [])) (E := env) (m := m + 1) (dec := d23) jn_ok (hct _) mixed Tryz.func92 rfl (Nat.le_of_ble_eq_true rfl) (fun b hb => d23_sim hb) ((value_Compare_eq m a0 a1).trans h)
theorem i15_fx (m : Nat) (hct : ∀ R, CallOK (R := R) Tryz.prog (ct m)) (a0 : List Dt) (a1 : Dt) {r : Int × Bool} (h : i15 (m + 1) a0 a1 = some r) : FX Tryz.prog 164 [(.dat 22 (.lst a0)), (.dat 25 a1), (.fn 92 [])] [] (.tup [(.dat 3 (.int r.1)), (.dat 4 (.bool r.2))]) [] :=
  FX_of (q := ((.tup [(.dat 3 (.int r.1)), (.dat 4 (.bool r.2))]), [])) (E := env) (m := m + 1) (dec := d15) jn_ok (hct _) mixed Tryz.func164 rfl (Nat.le_of_ble_eq_true rfl) (fun b hb => d15_sim hb) ((i15_eq m a0 a1).trans h)
theorem i14_fx (m : Nat) (hct : ∀ R, CallOK (R := R) Tryz.prog (ct m)) (a0 a1 : Dt) (a2 : List Dt) {r : List Dt} (h : i14 (m + 1) a0 a1 a2 = some r) : FX Tryz.prog 163 [(.dat 93 a0), (.row 0), (.dat 25 a1)] [(.row 22 a2)] (.row 1) [.gone, (.row 22 r)] :=
  FX_of (q := ((.row 1), [.gone, (.row 22 r)])) (E := env) (m := m + 1) (dec := d14) jn_ok (hct _) mixed Tryz.func163 rfl (Nat.le_of_ble_eq_true rfl) (fun b hb => d14_sim hb) ((i14_eq m a0 a1 a2).trans h)
theorem i13_fx (m : Nat) (hct : ∀ R, CallOK (R := R) Tryz.prog (ct m)) (a0 : Dt) (a1 a2 a3 : Int) (a4 : Dt) (a5 a6 a7 : Int) (a8 : Dt) (a9 a10 a11 a12 : List Dt) {r : Dt × List Dt × List Dt} (h : i13 (m + 1) a0 a1 a2 a3 a4 a5 a6 a7 a8 a9 a10 a11 a12 = some r) : FX Tryz.prog 161 [(.agg 93 []), (.dat 41 a0), (.agg 29 [(.dat 3 (.int a1)), (.dat 3 (.int a2)), (.dat 3 (.int a3)), (.dat 25 a4), (.row 0), (.row 1)]), (.agg 29 [(.dat 3 (.int a5)), (.dat 3 (.int a6)), (.dat 3 (.int a7)), (.dat 25 a8), (.row 2), (.row 3)])] [(.row 22 a9), (.row 22 a10), (.row 22 a11), (.row 22 a12)] (.dat 29 r.1) [.gone, .gone, (.frz 22 r.2.1), (.row 22 r.2.2)] :=
  FX_of (q := ((.dat 29 r.1), [.gone, .gone, (.frz 22 r.2.1), (.row 22 r.2.2)])) (E := env) (m := m + 1) (dec := d12) jn_ok (hct _) mixed Tryz.func161 rfl (Nat.le_of_ble_eq_true rfl) (fun b hb => d12_sim hb) ((i13_eq m a0 a1 a2 a3 a4 a5 a6 a7 a8 a9 a10 a11 a12).trans h)
theorem accum_Join_fx (m : Nat) (hct : ∀ R, CallOK (R := R) Tryz.prog (ct m)) (a0 a1 a2 : Dt) {r : Dt} (h : accum_Join (m + 1) a0 a1 a2 = some r) : FX Tryz.prog 18 [(.dat 41 a0), (.dat 29 a1), (.dat 29 a2)] [] (.dat 29 r) [] :=
  FX_of (q := ((.dat 29 r), [])) (E := env) (m := m + 1) (dec := d7) jn_ok (hct _) mixed Tryz.func18 rfl (Nat.le_of_ble_eq_true rfl) (fun b hb => d7_sim hb) ((accum_Join_eq m a0 a1 a2).trans h)
theorem i22_fx (m : Nat) (hct : ∀ R, CallOK (R := R) Tryz.prog (ct m)) (a0 : Dt) (a1 : List Dt) {r : List Dt} (h : i22 (m + 1) a0 a1 = some r) : FX Tryz.prog 163 [(.agg 93 []), (.row 0), (.dat 25 a0)] [(.row 22 a1)] (.row 1) [.gone, (.row 22 r)] :=
  FX_of (q := ((.row 1), [.gone, (.row 22 r)])) (E := env) (m := m + 1) (dec := d14) jn_ok (hct _) mixed Tryz.func163 rfl (Nat.le_of_ble_eq_true rfl) (fun b hb => d14_sim hb) ((i22_eq m a0 a1).trans h)
theorem i21_fx (m : Nat) (hct : ∀ R, CallOK (R := R) Tryz.prog (ct m)) (a0 : Dt) (a1 a2 a3 : Int) (a4 a5 : Dt) (a6 a7 : List Dt) {r : Dt × List Dt} (h : i21 (m + 1) a0 a1 a2 a3 a4 a5 a6 a7 = some r) : FX Tryz.prog 160 [(.agg 93 []), (.dat 41 a0), (.agg 29 [(.dat 3 (.int a1)), (.dat 3 (.int a2)), (.dat 3 (.int a3)), (.dat 25 a4), (.row 0), (.row 1)]), (.dat 25 a5)] [(.row 22 a6), (.row 22 a7)] (.dat 29 r.1) [.gone, (.frz 22 r.2)] :=
  FX_of (q := ((.dat 29 r.1), [.gone, (.frz 22 r.2)])) (E := env) (m := m + 1) (dec := d21) jn_ok (hct _) mixed Tryz.func160 rfl (Nat.le_of_ble_eq_true rfl) (fun b hb => d21_sim hb) ((i21_eq m a0 a1 a2 a3 a4 a5 a6 a7).trans h)
theorem accum_Add_fx (m : Nat) (hct : ∀ R, CallOK (R := R) Tryz.prog (ct m)) (a0 a1 a2 : Dt) {r : Dt} (h : accum_Add (m + 1) a0 a1 a2 = some r) : FX Tryz.prog 22 [(.dat 41 a0), (.dat 29 a1), (.dat 25 a2)] [] (.dat 29 r) [] :=
  FX_of (q := ((.dat 29 r), [])) (E := env) (m := m + 1) (dec := d7) jn_ok (hct _) mixed Tryz.func22 rfl (Nat.le_of_ble_eq_true rfl) (fun b hb => d7_sim hb) ((accum_Add_eq m a0 a1 a2).trans h)
theorem law32_run_fx (m : Nat) (hct : ∀ R, CallOK (R := R) Tryz.prog (ct m)) (a0 : Dt) (a1 : List Dt) {r : Dt} (h : law32_run (m + 1) a0 a1 = some r) : FX Tryz.prog 14 [(.dat 41 a0), (.dat 22 (.lst a1))] [] (.dat 29 r) [] :=
  FX_of (q := ((.dat 29 r), [])) (E := env) (m := m + 1) (dec := d7) jn_ok (hct _) mixed Tryz.func14 rfl (Nat.le_of_ble_eq_true rfl) (fun b hb => d7_sim hb) ((law32_run_eq m a0 a1).trans h)
theorem law32_AccumMany_fx (m : Nat) (hct : ∀ R, CallOK (R := R) Tryz.prog (ct m)) (a0 a1 a2 : Int) {r : Bool} (h : law32_AccumMany (m + 1) a0 a1 a2 = some r) : FX Tryz.prog 7 [(.dat 54 (.int a0)), (.dat 54 (.int a1)), (.dat 5 (.int a2))] [] (.dat 4 (.bool r)) [] :=
  FX_of (q := ((.dat 4 (.bool r)), [])) (E := env) (m := m + 1) (dec := d4) jn_ok (hct _) mixed Tryz.func7 rfl (Nat.le_of_ble_eq_true rfl) (fun b hb => d4_sim hb) ((law32_AccumMany_eq m a0 a1 a2).trans h)
theorem ct37_ok (m : Nat) (hct : ∀ k, k < m → ∀ R, CallOK (R := R) Tryz.prog (ct k)) {R : Type} {args : List AV} {objs : List Ob} {K : Res → Option R} {r : R} (h : ct37 m args objs K = some r) : ∃ q : Res, K q = some r ∧ FX Tryz.prog 37 args objs q.1 q.2 ∧ HasBody Tryz.prog 37 := ruleOfM_ok h
theorem ct7_ok (m : Nat) (hct : ∀ k, k < m → ∀ R, CallOK (R := R) Tryz.prog (ct k)) {R : Type} {args : List AV} {objs : List Ob} {K : Res → Option R} {r : R} (h : ct7 m args objs K = some r) : ∃ q : Res, K q = some r ∧ FX Tryz.prog 7 args objs q.1 q.2 ∧ HasBody Tryz.prog 7 := by
  unfold ct7 at h
  split at h
  · rename_i l hl
    obtain ⟨x, hx, hk⟩ := Option.bind_eq_some_iff.1 h
    obtain ⟨h1, h2⟩ := sel0_ok hl
    cases m with
    | zero => cases hx
    | succ m => exact ⟨_, hk, (law32_AccumMany_fx m (hct m (Nat.lt_succ_self m)) _ _ _ hx).conv h1 h2, ⟨_, Tryz.func7, rfl, by decide⟩⟩
  cases h
theorem ct16_ok (m : Nat) (hct : ∀ k, k < m → ∀ R, CallOK (R := R) Tryz.prog (ct k)) {R : Type} {args : List AV} {objs : List Ob} {K : Res → Option R} {r : R} (h : ct16 m args objs K = some r) : ∃ q : Res, K q = some r ∧ FX Tryz.prog 16 args objs q.1 q.2 ∧ HasBody Tryz.prog 16 := by
  unfold ct16 at h
  split at h
  · rename_i l hl
    obtain ⟨x, hx, hk⟩ := Option.bind_eq_some_iff.1 h
    obtain ⟨h1, h2⟩ := sel1_ok hl
    cases m with
    | zero => cases hx
    | succ m => exact ⟨_, hk, (law32_doc_fx m (hct m (Nat.lt_succ_self m)) _ hx).conv h1 h2, ⟨_, Tryz.func16, rfl, by decide⟩⟩
  cases h
theorem ct14_ok (m : Nat) (hct : ∀ k, k < m → ∀ R, CallOK (R := R) Tryz.prog (ct k)) {R : Type} {args : List AV} {objs : List Ob} {K : Res → Option R} {r : R} (h : ct14 m args objs K = some r) : ∃ q : Res, K q = some r ∧ FX Tryz.prog 14 args objs q.1 q.2 ∧ HasBody Tryz.prog 14 := by
  unfold ct14 at h
  split at h
  · rename_i l hl
    obtain ⟨x, hx, hk⟩ := Option.bind_eq_some_iff.1 h
    obtain ⟨h1, h2⟩ := sel2_ok hl
    cases m with
    | zero => cases hx
    | succ m => exact ⟨_, hk, (law32_run_fx m (hct m (Nat.lt_succ_self m)) _ _ hx).conv h1 h2, ⟨_, Tryz.func14, rfl, by decide⟩⟩
  cases h
theorem ct18_ok (m : Nat) (hct : ∀ k, k < m → ∀ R, CallOK (R := R) Tryz.prog (ct k)) {R : Type} {args : List AV} {objs : List Ob} {K : Res → Option R} {r : R} (h : ct18 m args objs K = some r) : ∃ q : Res, K q = some r ∧ FX Tryz.prog 18 args objs q.1 q.2 ∧ HasBody Tryz.prog 18 := by
  unfold ct18 at h
  split at h
  · rename_i l hl
    obtain ⟨x, hx, hk⟩ := Option.bind_eq_some_iff.1 h
    obtain ⟨h1, h2⟩ := sel3_ok hl
    cases m with
    | zero => cases hx
    | succ m => exact ⟨_, hk, (accum_Join_fx m (hct m (Nat.lt_succ_self m)) _ _ _ hx).conv h1 h2, ⟨_, Tryz.func18, rfl, by decide⟩⟩
  cases h
theorem ct20_ok (m : Nat) (hct : ∀ k, k < m → ∀ R, CallOK (R := R) Tryz.prog (ct k)) {R : Type} {args : List AV} {objs : List Ob} {K : Res → Option R} {r : R} (h : ct20 m args objs K = some r) : ∃ q : Res, K q = some r ∧ FX Tryz.prog 20 args objs q.1 q.2 ∧ HasBody Tryz.prog 20 := by
  unfold ct20 at h
  split at h
  · rename_i l hl
    obtain ⟨x, hx, hk⟩ := Option.bind_eq_some_iff.1 h
    obtain ⟨h1, h2⟩ := sel4_ok hl
    cases m with
    | zero => cases hx
    | succ m => exact ⟨_, hk, (ref01_Same_fx m (hct m (Nat.lt_succ_self m)) _ _ hx).conv h1 h2, ⟨_, Tryz.func20, rfl, by decide⟩⟩
  cases h
theorem ct9_ok (m : Nat) (hct : ∀ k, k < m → ∀ R, CallOK (R := R) Tryz.prog (ct k)) {R : Type} {args : List AV} {objs : List Ob} {K : Res → Option R} {r : R} (h : ct9 m args objs K = some r) : ∃ q : Res, K q = some r ∧ FX Tryz.prog 9 args objs q.1 q.2 ∧ HasBody Tryz.prog 9 := by
  unfold ct9 at h
  split at h
  · rename_i l hl
    obtain ⟨x, hx, hk⟩ := Option.bind_eq_some_iff.1 h
    obtain ⟨h1, h2⟩ := sel5_ok hl
    exact ⟨_, hk, (awakeC_fx hx).conv h1 h2, ⟨_, Tryz.func9, rfl, by decide⟩⟩
  cases h
theorem ct23_ok (m : Nat) (hct : ∀ k, k < m → ∀ R, CallOK (R := R) Tryz.prog (ct k)) {R : Type} {args : List AV} {objs : List Ob} {K : Res → Option R} {r : R} (h : ct23 m args objs K = some r) : ∃ q : Res, K q = some r ∧ FX Tryz.prog 23 args objs q.1 q.2 ∧ HasBody Tryz.prog 23 := by
  unfold ct23 at h
  split at h
  · rename_i l hl
    obtain ⟨x, hx, hk⟩ := Option.bind_eq_some_iff.1 h
    obtain ⟨h1, h2⟩ := sel1_ok hl
    cases m with
    | zero => cases hx
    | succ m => exact ⟨_, hk, (ref01_Int_fx m (hct m (Nat.lt_succ_self m)) _ hx).conv h1 h2, ⟨_, Tryz.func23, rfl, by decide⟩⟩
  cases h
theorem ct19_ok (m : Nat) (hct : ∀ k, k < m → ∀ R, CallOK (R := R) Tryz.prog (ct k)) {R : Type} {args : List AV} {objs : List Ob} {K : Res → Option R} {r : R} (h : ct19 m args objs K = some r) : ∃ q : Res, K q = some r ∧ FX Tryz.prog 19 args objs q.1 q.2 ∧ HasBody Tryz.prog 19 := by
  unfold ct19 at h
  split at h
  · rename_i l hl
    obtain ⟨x, hx, hk⟩ := Option.bind_eq_some_iff.1 h
    obtain ⟨h1, h2⟩ := sel7_ok hl
    cases m with
    | zero => cases hx
    | succ m => exact ⟨_, hk, (accum_Start_fx m (hct m (Nat.lt_succ_self m)) _ hx).conv h1 h2, ⟨_, Tryz.func19, rfl, by decide⟩⟩
  cases h
theorem ct22_ok (m : Nat) (hct : ∀ k, k < m → ∀ R, CallOK (R := R) Tryz.prog (ct k)) {R : Type} {args : List AV} {objs : List Ob} {K : Res → Option R} {r : R} (h : ct22 m args objs K = some r) : ∃ q : Res, K q = some r ∧ FX Tryz.prog 22 args objs q.1 q.2 ∧ HasBody Tryz.prog 22 := by
  unfold ct22 at h
  split at h
  · rename_i l hl
    obtain ⟨x, hx, hk⟩ := Option.bind_eq_some_iff.1 h
    obtain ⟨h1, h2⟩ := sel8_ok hl
    cases m with
    | zero => cases hx
    | succ m => exact ⟨_, hk, (accum_Add_fx m (hct m (Nat.lt_succ_self m)) _ _ _ hx).conv h1 h2, ⟨_, Tryz.func22, rfl, by decide⟩⟩
  cases h
theorem ct38_ok (m : Nat) (hct : ∀ k, k < m → ∀ R, CallOK (R := R) Tryz.prog (ct k)) {R : Type} {args : List AV} {objs : List Ob} {K : Res → Option R} {r : R} (h : ct38 m args objs K = some r) : ∃ q : Res, K q = some r ∧ FX Tryz.prog 38 args objs q.1 q.2 ∧ HasBody Tryz.prog 38 := by
  unfold ct38 at h
  split at h
  · rename_i l hl
    obtain ⟨x, hx, hk⟩ := Option.bind_eq_some_iff.1 h
    obtain ⟨h1, h2⟩ := sel9_ok hl
    cases m with
    | zero => cases hx
    | succ m => exact ⟨_, hk, (accum_copyPart_fx m (hct m (Nat.lt_succ_self m)) _ hx).conv h1 h2, ⟨_, Tryz.func38, rfl, by decide⟩⟩
  cases h
theorem ct25_ok (m : Nat) (hct : ∀ k, k < m → ∀ R, CallOK (R := R) Tryz.prog (ct k)) {R : Type} {args : List AV} {objs : List Ob} {K : Res → Option R} {r : R} (h : ct25 m args objs K = some r) : ∃ q : Res, K q = some r ∧ FX Tryz.prog 25 args objs q.1 q.2 ∧ HasBody Tryz.prog 25 := by
  unfold ct25 at h
  split at h
  · rename_i l hl
    obtain ⟨x, hx, hk⟩ := Option.bind_eq_some_iff.1 h
    obtain ⟨h1, h2⟩ := sel10_ok hl
    cases m with
    | zero => cases hx
    | succ m => exact ⟨_, hk, (accum_copyValue_fx m (hct m (Nat.lt_succ_self m)) _ hx).conv h1 h2, ⟨_, Tryz.func25, rfl, by decide⟩⟩
  cases h
theorem ct27_ok (m : Nat) (hct : ∀ k, k < m → ∀ R, CallOK (R := R) Tryz.prog (ct k)) {R : Type} {args : List AV} {objs : List Ob} {K : Res → Option R} {r : R} (h : ct27 m args objs K = some r) : ∃ q : Res, K q = some r ∧ FX Tryz.prog 27 args objs q.1 q.2 ∧ HasBody Tryz.prog 27 := by
  unfold ct27 at h
  split at h
  · rename_i l hl
    obtain ⟨x, hx, hk⟩ := Option.bind_eq_some_iff.1 h
    obtain ⟨h1, h2⟩ := sel11_ok hl
    cases m with
    | zero => cases hx
    | succ m => exact ⟨_, hk, (accum_copyList_fx m (hct m (Nat.lt_succ_self m)) _ hx).conv h1 h2, ⟨_, Tryz.func27, rfl, by decide⟩⟩
  cases h
theorem ct158_ok (m : Nat) (hct : ∀ k, k < m → ∀ R, CallOK (R := R) Tryz.prog (ct k)) {R : Type} {args : List AV} {objs : List Ob} {K : Res → Option R} {r : R} (h : ct158 m args objs K = some r) : ∃ q : Res, K q = some r ∧ FX Tryz.prog 158 args objs q.1 q.2 ∧ HasBody Tryz.prog 158 := by
  unfold ct158 at h
  split at h
  · rename_i l hl
    obtain ⟨x, hx, hk⟩ := Option.bind_eq_some_iff.1 h
    obtain ⟨h1, h2⟩ := sel12_ok hl
    cases m with
    | zero => cases hx
    | succ m => exact ⟨_, hk, (i12_fx m (hct m (Nat.lt_succ_self m)) _ _ _ _ _ _ _ _ _ _ _ _ _ hx).conv h1 h2, ⟨_, Tryz.func158, rfl, by decide⟩⟩
  cases h
theorem ct161_ok (m : Nat) (hct : ∀ k, k < m → ∀ R, CallOK (R := R) Tryz.prog (ct k)) {R : Type} {args : List AV} {objs : List Ob} {K : Res → Option R} {r : R} (h : ct161 m args objs K = some r) : ∃ q : Res, K q = some r ∧ FX Tryz.prog 161 args objs q.1 q.2 ∧ HasBody Tryz.prog 161 := by
  unfold ct161 at h
  split at h
  · rename_i l hl
    obtain ⟨x, hx, hk⟩ := Option.bind_eq_some_iff.1 h
    obtain ⟨h1, h2⟩ := sel13_ok hl
    cases m with
    | zero => cases hx
    | succ m => exact ⟨_, hk, (i13_fx m (hct m (Nat.lt_succ_self m)) _ _ _ _ _ _ _ _ _ _ _ _ _ hx).conv h1 h2, ⟨_, Tryz.func161, rfl, by decide⟩⟩
  cases h
theorem ct163_ok (m : Nat) (hct : ∀ k, k < m → ∀ R, CallOK (R := R) Tryz.prog (ct k)) {R : Type} {args : List AV} {objs : List Ob} {K : Res → Option R} {r : R} (h : ct163 m args objs K = some r) : ∃ q : Res, K q = some r ∧ FX Tryz.prog 163 args objs q.1 q.2 ∧ HasBody Tryz.prog 163 := by
  unfold ct163 at h
  split at h
  · rename_i l hl
    obtain ⟨x, hx, hk⟩ := Option.bind_eq_some_iff.1 h
    obtain ⟨h1, h2⟩ := sel14_ok hl
    cases m with
    | zero => cases hx
    | succ m => exact ⟨_, hk, (i14_fx m (hct m (Nat.lt_succ_self m)) _ _ _ hx).conv h1 h2, ⟨_, Tryz.func163, rfl, by decide⟩⟩
  split at h
  · rename_i l hl
    obtain ⟨x, hx, hk⟩ := Option.bind_eq_some_iff.1 h
    obtain ⟨h1, h2⟩ := sel22_ok hl
    cases m with
    | zero => cases hx
    | succ m => exact ⟨_, hk, (i22_fx m (hct m (Nat.lt_succ_self m)) _ _ hx).conv h1 h2, ⟨_, Tryz.func163, rfl, by decide⟩⟩
  cases h
theorem ct164_ok (m : Nat) (hct : ∀ k, k < m → ∀ R, CallOK (R := R) Tryz.prog (ct k)) {R : Type} {args : List AV} {objs : List Ob} {K : Res → Option R} {r : R} (h : ct164 m args objs K = some r) : ∃ q : Res, K q = some r ∧ FX Tryz.prog 164 args objs q.1 q.2 ∧ HasBody Tryz.prog 164 := by
  unfold ct164 at h
  split at h
  · rename_i l hl
    obtain ⟨x, hx, hk⟩ := Option.bind_eq_some_iff.1 h
    obtain ⟨h1, h2⟩ := sel15_ok hl
    cases m with
    | zero => cases hx
    | succ m => exact ⟨_, hk, (i15_fx m (hct m (Nat.lt_succ_self m)) _ _ hx).conv h1 h2, ⟨_, Tryz.func164, rfl, by decide⟩⟩
  cases h
theorem ct92_ok (m : Nat) (hct : ∀ k, k < m → ∀ R, CallOK (R := R) Tryz.prog (ct k)) {R : Type} {args : List AV} {objs : List Ob} {K : Res → Option R} {r : R} (h : ct92 m args objs K = some r) : ∃ q : Res, K q = some r ∧ FX Tryz.prog 92 args objs q.1 q.2 ∧ HasBody Tryz.prog 92 := by
  unfold ct92 at h
  split at h
  · rename_i l hl
    obtain ⟨x, hx, hk⟩ := Option.bind_eq_some_iff.1 h
    obtain ⟨h1, h2⟩ := sel4_ok hl
    cases m with
    | zero => cases hx
    | succ m => exact ⟨_, hk, (value_Compare_fx m (hct m (Nat.lt_succ_self m)) _ _ hx).conv h1 h2, ⟨_, Tryz.func92, rfl, by decide⟩⟩
  cases h
theorem ct165_ok (m : Nat) (hct : ∀ k, k < m → ∀ R, CallOK (R := R) Tryz.prog (ct k)) {R : Type} {args : List AV} {objs : List Ob} {K : Res → Option R} {r : R} (h : ct165 m args objs K = some r) : ∃ q : Res, K q = some r ∧ FX Tryz.prog 165 args objs q.1 q.2 ∧ HasBody Tryz.prog 165 := by
  unfold ct165 at h
  split at h
  · rename_i l hl
    obtain ⟨x, hx, hk⟩ := Option.bind_eq_some_iff.1 h
    obtain ⟨h1, h2⟩ := sel17_ok hl
    exact ⟨_, hk, (Insert_fx hx).conv h1 h2, ⟨_, Tryz.func165, rfl, by decide⟩⟩
  cases h
theorem ct157_ok (m : Nat) (hct : ∀ k, k < m → ∀ R, CallOK (R := R) Tryz.prog (ct k)) {R : Type} {args : List AV} {objs : List Ob} {K : Res → Option R} {r : R} (h : ct157 m args objs K = some r) : ∃ q : Res, K q = some r ∧ FX Tryz.prog 157 args objs q.1 q.2 ∧ HasBody Tryz.prog 157 := by
  unfold ct157 at h
  split at h
  · rename_i l hl
    obtain ⟨x, hx, hk⟩ := Option.bind_eq_some_iff.1 h
    obtain ⟨h1, h2⟩ := sel18_ok hl
    cases m with
    | zero => cases hx
    | succ m => exact ⟨_, hk, (i18_fx m (hct m (Nat.lt_succ_self m)) _ _ _ _ _ _ _ _ hx).conv h1 h2, ⟨_, Tryz.func157, rfl, by decide⟩⟩
  cases h
theorem ct79_ok (m : Nat) (hct : ∀ k, k < m → ∀ R, CallOK (R := R) Tryz.prog (ct k)) {R : Type} {args : List AV} {objs : List Ob} {K : Res → Option R} {r : R} (h : ct79 m args objs K = some r) : ∃ q : Res, K q = some r ∧ FX Tryz.prog 79 args objs q.1 q.2 ∧ HasBody Tryz.prog 79 := by
  unfold ct79 at h
  split at h
  · rename_i l hl
    obtain ⟨x, hx, hk⟩ := Option.bind_eq_some_iff.1 h
    obtain ⟨h1, h2⟩ := sel19_ok hl
    exact ⟨_, hk, (expr_EvalC_fx hx).conv h1 h2, ⟨_, Tryz.func79, rfl, by decide⟩⟩
  cases h
theorem ct146_ok (m : Nat) (hct : ∀ k, k < m → ∀ R, CallOK (R := R) Tryz.prog (ct k)) {R : Type} {args : List AV} {objs : List Ob} {K : Res → Option R} {r : R} (h : ct146 m args objs K = some r) : ∃ q : Res, K q = some r ∧ FX Tryz.prog 146 args objs q.1 q.2 ∧ HasBody Tryz.prog 146 := by
  unfold ct146 at h
  split at h
  · rename_i l hl
    obtain ⟨x, hx, hk⟩ := Option.bind_eq_some_iff.1 h
    obtain ⟨h1, h2⟩ := sel10_ok hl
    cases m with
    | zero => cases hx
    | succ m => exact ⟨_, hk, (accum_orNull_fx m (hct m (Nat.lt_succ_self m)) _ hx).conv h1 h2, ⟨_, Tryz.func146, rfl, by decide⟩⟩
  cases h
theorem ct160_ok (m : Nat) (hct : ∀ k, k < m → ∀ R, CallOK (R := R) Tryz.prog (ct k)) {R : Type} {args : List AV} {objs : List Ob} {K : Res → Option R} {r : R} (h : ct160 m args objs K = some r) : ∃ q : Res, K q = some r ∧ FX Tryz.prog 160 args objs q.1 q.2 ∧ HasBody Tryz.prog 160 := by
  unfold ct160 at h
  split at h
  · rename_i l hl
    obtain ⟨x, hx, hk⟩ := Option.bind_eq_some_iff.1 h
    obtain ⟨h1, h2⟩ := sel21_ok hl
    cases m with
    | zero => cases hx
    | succ m => exact ⟨_, hk, (i21_fx m (hct m (Nat.lt_succ_self m)) _ _ _ _ _ _ _ _ hx).conv h1 h2, ⟨_, Tryz.func160, rfl, by decide⟩⟩
  cases h
theorem ct112_ok (m : Nat) (hct : ∀ k, k < m → ∀ R, CallOK (R := R) Tryz.prog (ct k)) {R : Type} {args : List AV} {objs : List Ob} {K : Res → Option R} {r : R} (h : ct112 m args objs K = some r) : ∃ q : Res, K q = some r ∧ FX Tryz.prog 112 args objs q.1 q.2 ∧ HasBody Tryz.prog 112 := by
  unfold ct112 at h
  split at h
  · rename_i l hl
    obtain ⟨x, hx, hk⟩ := Option.bind_eq_some_iff.1 h
    obtain ⟨h1, h2⟩ := sel23_ok hl
    cases m with
    | zero => cases hx
    | succ m => exact ⟨_, hk, (cmp_Compare_fx m (hct m (Nat.lt_succ_self m)) _ _ hx).conv h1 h2, ⟨_, Tryz.func112, rfl, by decide⟩⟩
  cases h
theorem ct113_ok (m : Nat) (hct : ∀ k, k < m → ∀ R, CallOK (R := R) Tryz.prog (ct k)) {R : Type} {args : List AV} {objs : List Ob} {K : Res → Option R} {r : R} (h : ct113 m args objs K = some r) : ∃ q : Res, K q = some r ∧ FX Tryz.prog 113 args objs q.1 q.2 ∧ HasBody Tryz.prog 113 := by
  unfold ct113 at h
  split at h
  · rename_i l hl
    obtain ⟨x, hx, hk⟩ := Option.bind_eq_some_iff.1 h
    obtain ⟨h1, h2⟩ := sel24_ok hl
    exact ⟨_, hk, (strings_CompareN_fx hx).conv h1 h2, ⟨_, Tryz.func113, rfl, by decide⟩⟩
  cases h
theorem ct127_ok (m : Nat) (hct : ∀ k, k < m → ∀ R, CallOK (R := R) Tryz.prog (ct k)) {R : Type} {args : List AV} {objs : List Ob} {K : Res → Option R} {r : R} (h : ct127 m args objs K = some r) : ∃ q : Res, K q = some r ∧ FX Tryz.prog 127 args objs q.1 q.2 ∧ HasBody Tryz.prog 127 := by
  unfold ct127 at h
  split at h
  · rename_i l hl
    obtain ⟨x, hx, hk⟩ := Option.bind_eq_some_iff.1 h
    obtain ⟨h1, h2⟩ := sel1_ok hl
    cases m with
    | zero => cases hx
    | succ m => exact ⟨_, hk, (cmp_isNaN_fx m (hct m (Nat.lt_succ_self m)) _ hx).conv h1 h2, ⟨_, Tryz.func127, rfl, by decide⟩⟩
  cases h
set_option maxHeartbeats 4000000 in
theorem ct_ok : ∀ (m : Nat) (R : Type), CallOK (R := R) Tryz.prog (ct m) := by
  intro m
  induction m using Nat.strongRecOn with
  | _ m ih =>
    intro R f args objs K r h
    unfold ct at h
    rcases bset_some h with ⟨hb, h1⟩ | ⟨_, h⟩
    · have e := beq_eq hb
      subst e
      exact ct7_ok m ih h1
    rcases bset_some h with ⟨hb, h1⟩ | ⟨_, h⟩
    · have e := beq_eq hb
      subst e
      exact ct16_ok m ih h1
    rcases bset_some h with ⟨hb, h1⟩ | ⟨_, h⟩
    · have e := beq_eq hb
      subst e
      exact ct14_ok m ih h1
    rcases bset_some h with ⟨hb, h1⟩ | ⟨_, h⟩
    · have e := beq_eq hb
      subst e
      exact ct18_ok m ih h1
    rcases bset_some h with ⟨hb, h1⟩ | ⟨_, h⟩
    · have e := beq_eq hb
      subst e
      exact ct20_ok m ih h1
    rcases bset_some h with ⟨hb, h1⟩ | ⟨_, h⟩
    · have e := beq_eq hb
      subst e
      exact ct9_ok m ih h1
    rcases bset_some h with ⟨hb, h1⟩ | ⟨_, h⟩
    · have e := beq_eq hb
      subst e
      exact ct23_ok m ih h1
    rcases bset_some h with ⟨hb, h1⟩ | ⟨_, h⟩
    · have e := beq_eq hb
      subst e
      exact ct19_ok m ih h1
    rcases bset_some h with ⟨hb, h1⟩ | ⟨_, h⟩
    · have e := beq_eq hb
      subst e
      exact ct22_ok m ih h1
    rcases bset_some h with ⟨hb, h1⟩ | ⟨_, h⟩
    · have e := beq_eq hb
      subst e
      exact ct38_ok m ih h1
    rcases bset_some h with ⟨hb, h1⟩ | ⟨_, h⟩
    · have e := beq_eq hb
      subst e
      exact ct25_ok m ih h1
    rcases bset_some h with ⟨hb, h1⟩ | ⟨_, h⟩
    · have e := beq_eq hb
      subst e
      exact ct27_ok m ih h1
    rcases bset_some h with ⟨hb, h1⟩ | ⟨_, h⟩
    · have e := beq_eq hb
      subst e
      exact ct158_ok m ih h1
    rcases bset_some h with ⟨hb, h1⟩ | ⟨_, h⟩
    · have e := beq_eq hb
      subst e
      exact ct161_ok m ih h1
    rcases bset_some h with ⟨hb, h1⟩ | ⟨_, h⟩
    · have e := beq_eq hb
      subst e
      exact ct163_ok m ih h1
    rcases bset_some h with ⟨hb, h1⟩ | ⟨_, h⟩
    · have e := beq_eq hb
      subst e
      exact ct164_ok m ih h1
    rcases bset_some h with ⟨hb, h1⟩ | ⟨_, h⟩
    · have e := beq_eq hb
      subst e
      exact ct92_ok m ih h1
    rcases bset_some h with ⟨hb, h1⟩ | ⟨_, h⟩
    · have e := beq_eq hb
      subst e
      exact ct165_ok m ih h1
    rcases bset_some h with ⟨hb, h1⟩ | ⟨_, h⟩
    · have e := beq_eq hb
      subst e
      exact ct157_ok m ih h1
    rcases bset_some h with ⟨hb, h1⟩ | ⟨_, h⟩
    · have e := beq_eq hb
      subst e
      exact ct79_ok m ih h1
    rcases bset_some h with ⟨hb, h1⟩ | ⟨_, h⟩
    · have e := beq_eq hb
      subst e
      exact ct146_ok m ih h1
    rcases bset_some h with ⟨hb, h1⟩ | ⟨_, h⟩
    · have e := beq_eq hb
      subst e
      exact ct160_ok m ih h1
    rcases bset_some h with ⟨hb, h1⟩ | ⟨_, h⟩
    · have e := beq_eq hb
      subst e
      exact ct112_ok m ih h1
    rcases bset_some h with ⟨hb, h1⟩ | ⟨_, h⟩
    · have e := beq_eq hb
      subst e
      exact ct113_ok m ih h1
    rcases bset_some h with ⟨hb, h1⟩ | ⟨_, h⟩
    · have e := beq_eq hb
      subst e
      exact ct127_ok m ih h1
    rcases bset_some h with ⟨hb, h1⟩ | ⟨_, h⟩
    · have e := beq_eq hb
      subst e
      exact ct37_ok m ih h1
    cases h
end Go.Proofs.YtacpcknpliomoaaGreat
