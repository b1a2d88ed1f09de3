/- Generated: the contracts. -/
import Derived.Test.YtacpcknpliomoaaGreatEq0
set_option linter.unusedVariables false
set_option linter.unusedSimpArgs false
namespace Go.Proofs.YtacpcknpliomoaaGreat
open Go.Am
set_option maxRecDepth 100000
theorem mixed : Tryz.prog.follows .mixedOrders = true := by kernel_rfl
theorem ref02_count_fx (m : Nat) (hct : ∀ R, CallOK (R := R) Tryz.prog (ct m)) (a0 : Dt) (a1 a2 : Int) {r : Int} (h : ref02_count (m + 1) a0 a1 a2 = some r) : FX Tryz.prog 21 [(.dat 25 a0), (.dat 3 (.int a1)), (.dat 3 (.int a2))] [] (.dat 3 (.int r)) [] :=
  FX_of (q := ((.dat 3 (.int r)), [])) (E := env) (m := m + 1) (dec := d6) jn_ok (hct _) mixed Tryz.func21 rfl (Nat.le_of_ble_eq_true rfl) (fun b hb => d6_sim hb) ((ref02_count_eq m a0 a1 a2).trans h)
theorem ref02_Few_fx (m : Nat) (hct : ∀ R, CallOK (R := R) Tryz.prog (ct m)) (a0 : Dt) (a1 : Int) {r : Bool} (h : ref02_Few (m + 1) a0 a1 = some r) : FX Tryz.prog 8 [(.dat 25 a0), (.dat 3 (.int a1))] [] (.dat 4 (.bool r)) [] :=
  FX_of (q := ((.dat 4 (.bool r)), [])) (E := env) (m := m + 1) (dec := d1) jn_ok (hct _) mixed Tryz.func8 rfl (Nat.le_of_ble_eq_true rfl) (fun b hb => d1_sim hb) ((ref02_Few_eq m a0 a1).trans h)
theorem accum_isInteger_fx (m : Nat) (hct : ∀ R, CallOK (R := R) Tryz.prog (ct m)) (a0 : Dt) {r : Bool} (h : accum_isInteger (m + 1) a0 = some r) : FX Tryz.prog 24 [(.dat 25 a0)] [] (.dat 4 (.bool r)) [] :=
  FX_of (q := ((.dat 4 (.bool r)), [])) (E := env) (m := m + 1) (dec := d1) jn_ok (hct _) mixed Tryz.func24 rfl (Nat.le_of_ble_eq_true rfl) (fun b hb => d1_sim hb) ((accum_isInteger_eq m a0).trans h)
theorem accum_copyValue_fx (m : Nat) (hct : ∀ R, CallOK (R := R) Tryz.prog (ct m)) (a0 : Dt) {r : Dt} (h : accum_copyValue (m + 1) a0 = some r) : FX Tryz.prog 25 [(.dat 25 a0)] [] (.dat 25 r) [] :=
  FX_of (q := ((.dat 25 r), [])) (E := env) (m := m + 1) (dec := d8) jn_ok (hct _) mixed Tryz.func25 rfl (Nat.le_of_ble_eq_true rfl) (fun b hb => d8_sim hb) ((accum_copyValue_eq m a0).trans h)
theorem accum_copyList_fx (m : Nat) (hct : ∀ R, CallOK (R := R) Tryz.prog (ct m)) (a0 : List Dt) {r : List Dt} (h : accum_copyList (m + 1) a0 = some r) : FX Tryz.prog 27 [(.dat 22 (.lst a0))] [] (.dat 22 (.lst r)) [] :=
  FX_of (q := ((.dat 22 (.lst r)), [])) (E := env) (m := m + 1) (dec := d10) jn_ok (hct _) mixed Tryz.func27 rfl (Nat.le_of_ble_eq_true rfl) (fun b hb => d10_sim hb) ((accum_copyList_eq m a0).trans h)
theorem accum_isList_fx (m : Nat) (hct : ∀ R, CallOK (R := R) Tryz.prog (ct m)) (a0 : Dt) {r : Bool} (h : accum_isList (m + 1) a0 = some r) : FX Tryz.prog 26 [(.dat 25 a0)] [] (.dat 4 (.bool r)) [] :=
  FX_of (q := ((.dat 4 (.bool r)), [])) (E := env) (m := m + 1) (dec := d1) jn_ok (hct _) mixed Tryz.func26 rfl (Nat.le_of_ble_eq_true rfl) (fun b hb => d1_sim hb) ((accum_isList_eq m a0).trans h)
theorem accum_keysFit_fx (m : Nat) (hct : ∀ R, CallOK (R := R) Tryz.prog (ct m)) (a0 : Dt) {r : Bool} (h : accum_keysFit (m + 1) a0 = some r) : FX Tryz.prog 28 [(.dat 29 a0)] [] (.dat 4 (.bool r)) [] :=
  FX_of (q := ((.dat 4 (.bool r)), [])) (E := env) (m := m + 1) (dec := d1) jn_ok (hct _) mixed Tryz.func28 rfl (Nat.le_of_ble_eq_true rfl) (fun b hb => d1_sim hb) ((accum_keysFit_eq m a0).trans h)
theorem accum_Unpack_fx (m : Nat) (hct : ∀ R, CallOK (R := R) Tryz.prog (ct m)) (a0 : Dt) {r : Dt × Int} (h : accum_Unpack (m + 1) a0 = some r) : FX Tryz.prog 10 [(.dat 25 a0)] [] (.tup [(.dat 29 r.1), (.dat 30 (.int r.2))]) [] :=
  FX_of (q := ((.tup [(.dat 29 r.1), (.dat 30 (.int r.2))]), [])) (E := env) (m := m + 1) (dec := d3) jn_ok (hct _) mixed Tryz.func10 rfl (Nat.le_of_ble_eq_true rfl) (fun b hb => d3_sim hb) ((accum_Unpack_eq m a0).trans h)
theorem ref01_Same_fx (m : Nat) (hct : ∀ R, CallOK (R := R) Tryz.prog (ct m)) (a0 a1 : Dt) {r : Bool} (h : ref01_Same (m + 1) a0 a1 = some r) : FX Tryz.prog 20 [(.dat 25 a0), (.dat 25 a1)] [] (.dat 4 (.bool r)) [] :=
  FX_of (q := ((.dat 4 (.bool r)), [])) (E := env) (m := m + 1) (dec := d1) jn_ok (hct _) mixed Tryz.func20 rfl (Nat.le_of_ble_eq_true rfl) (fun b hb => d1_sim hb) ((ref01_Same_eq m a0 a1).trans h)
theorem ref01_SameList_fx (m : Nat) (hct : ∀ R, CallOK (R := R) Tryz.prog (ct m)) (a0 a1 : List Dt) {r : Bool} (h : ref01_SameList (m + 1) a0 a1 = some r) : FX Tryz.prog 30 [(.dat 22 (.lst a0)), (.dat 22 (.lst a1))] [] (.dat 4 (.bool r)) [] :=
  FX_of (q := ((.dat 4 (.bool r)), [])) (E := env) (m := m + 1) (dec := d1) jn_ok (hct _) mixed Tryz.func30 rfl (Nat.le_of_ble_eq_true rfl) (fun b hb => d1_sim hb) ((ref01_SameList_eq m a0 a1).trans h)
theorem ref32_Same_fx (m : Nat) (hct : ∀ R, CallOK (R := R) Tryz.prog (ct m)) (a0 a1 : Dt) {r : Bool} (h : ref32_Same (m + 1) a0 a1 = some r) : FX Tryz.prog 12 [(.dat 29 a0), (.dat 29 a1)] [] (.dat 4 (.bool r)) [] :=
  FX_of (q := ((.dat 4 (.bool r)), [])) (E := env) (m := m + 1) (dec := d1) jn_ok (hct _) mixed Tryz.func12 rfl (Nat.le_of_ble_eq_true rfl) (fun b hb => d1_sim hb) ((ref32_Same_eq m a0 a1).trans h)
theorem ref01_Int_fx (m : Nat) (hct : ∀ R, CallOK (R := R) Tryz.prog (ct m)) (a0 : Int) {r : Dt} (h : ref01_Int (m + 1) a0 = some r) : FX Tryz.prog 23 [(.dat 3 (.int a0))] [] (.dat 25 r) [] :=
  FX_of (q := ((.dat 25 r), [])) (E := env) (m := m + 1) (dec := d8) jn_ok (hct _) mixed Tryz.func23 rfl (Nat.le_of_ble_eq_true rfl) (fun b hb => d8_sim hb) ((ref01_Int_eq m a0).trans h)
theorem ref01_List_fx (m : Nat) (hct : ∀ R, CallOK (R := R) Tryz.prog (ct m)) (a0 : List Dt) {r : Dt} (h : ref01_List (m + 1) a0 = some r) : FX Tryz.prog 39 [(.dat 22 (.lst a0))] [] (.dat 25 r) [] :=
  FX_of (q := ((.dat 25 r), [])) (E := env) (m := m + 1) (dec := d8) jn_ok (hct _) mixed Tryz.func39 rfl (Nat.le_of_ble_eq_true rfl) (fun b hb => d8_sim hb) ((ref01_List_eq m a0).trans h)
theorem ref32_Pack_fx (m : Nat) (hct : ∀ R, CallOK (R := R) Tryz.prog (ct m)) (a0 : Dt) {r : Dt} (h : ref32_Pack (m + 1) a0 = some r) : FX Tryz.prog 29 [(.dat 29 a0)] [] (.dat 25 r) [] :=
  FX_of (q := ((.dat 25 r), [])) (E := env) (m := m + 1) (dec := d8) jn_ok (hct _) mixed Tryz.func29 rfl (Nat.le_of_ble_eq_true rfl) (fun b hb => d8_sim hb) ((ref32_Pack_eq m a0).trans h)
theorem ref32_Unpack_fx (m : Nat) (hct : ∀ R, CallOK (R := R) Tryz.prog (ct m)) (a0 : Dt) {r : Dt × Int} (h : ref32_Unpack (m + 1) a0 = some r) : FX Tryz.prog 11 [(.dat 25 a0)] [] (.tup [(.dat 29 r.1), (.dat 30 (.int r.2))]) [] :=
  FX_of (q := ((.tup [(.dat 29 r.1), (.dat 30 (.int r.2))]), [])) (E := env) (m := m + 1) (dec := d3) jn_ok (hct _) mixed Tryz.func11 rfl (Nat.le_of_ble_eq_true rfl) (fun b hb => d3_sim hb) ((ref32_Unpack_eq m a0).trans h)
theorem law32_AccumUnpacks_fx (m : Nat) (hct : ∀ R, CallOK (R := R) Tryz.prog (ct m)) (a0 : Dt) {r : Bool} (h : law32_AccumUnpacks (m + 1) a0 = some r) : FX Tryz.prog 3 [(.dat 25 a0)] [] (.dat 4 (.bool r)) [] :=
  FX_of (q := ((.dat 4 (.bool r)), [])) (E := env) (m := m + 1) (dec := d1) jn_ok (hct _) mixed Tryz.func3 rfl (Nat.le_of_ble_eq_true rfl) (fun b hb => d1_sim hb) ((law32_AccumUnpacks_eq m a0).trans h)
theorem ct3_ok (m : Nat) (hct : ∀ k, k < m → ∀ R, CallOK (R := R) Tryz.prog (ct k)) {R : Type} {args : List AV} {objs : List Ob} {K : Res → Option R} {r : R} (h : ct3 m args objs K = some r) : ∃ q : Res, K q = some r ∧ FX Tryz.prog 3 args objs q.1 q.2 ∧ HasBody Tryz.prog 3 := by
  unfold ct3 at h
  split at h
  · rename_i l hl
    obtain ⟨x, hx, hk⟩ := Option.bind_eq_some_iff.1 h
    obtain ⟨h1, h2⟩ := sel0_ok hl
    cases m with
    | zero => cases hx
    | succ m => exact ⟨_, hk, (law32_AccumUnpacks_fx m (hct m (Nat.lt_succ_self m)) _ hx).conv h1 h2, ⟨_, Tryz.func3, rfl, by decide⟩⟩
  cases h
theorem ct8_ok (m : Nat) (hct : ∀ k, k < m → ∀ R, CallOK (R := R) Tryz.prog (ct k)) {R : Type} {args : List AV} {objs : List Ob} {K : Res → Option R} {r : R} (h : ct8 m args objs K = some r) : ∃ q : Res, K q = some r ∧ FX Tryz.prog 8 args objs q.1 q.2 ∧ HasBody Tryz.prog 8 := by
  unfold ct8 at h
  split at h
  · rename_i l hl
    obtain ⟨x, hx, hk⟩ := Option.bind_eq_some_iff.1 h
    obtain ⟨h1, h2⟩ := sel1_ok hl
    cases m with
    | zero => cases hx
    | succ m => exact ⟨_, hk, (ref02_Few_fx m (hct m (Nat.lt_succ_self m)) _ _ hx).conv h1 h2, ⟨_, Tryz.func8, rfl, by decide⟩⟩
  cases h
theorem ct9_ok (m : Nat) (hct : ∀ k, k < m → ∀ R, CallOK (R := R) Tryz.prog (ct k)) {R : Type} {args : List AV} {objs : List Ob} {K : Res → Option R} {r : R} (h : ct9 m args objs K = some r) : ∃ q : Res, K q = some r ∧ FX Tryz.prog 9 args objs q.1 q.2 ∧ HasBody Tryz.prog 9 := by
  unfold ct9 at h
  split at h
  · rename_i l hl
    obtain ⟨x, hx, hk⟩ := Option.bind_eq_some_iff.1 h
    obtain ⟨h1, h2⟩ := sel2_ok hl
    exact ⟨_, hk, (awakeC_fx hx).conv h1 h2, ⟨_, Tryz.func9, rfl, by decide⟩⟩
  cases h
theorem ct10_ok (m : Nat) (hct : ∀ k, k < m → ∀ R, CallOK (R := R) Tryz.prog (ct k)) {R : Type} {args : List AV} {objs : List Ob} {K : Res → Option R} {r : R} (h : ct10 m args objs K = some r) : ∃ q : Res, K q = some r ∧ FX Tryz.prog 10 args objs q.1 q.2 ∧ HasBody Tryz.prog 10 := by
  unfold ct10 at h
  split at h
  · rename_i l hl
    obtain ⟨x, hx, hk⟩ := Option.bind_eq_some_iff.1 h
    obtain ⟨h1, h2⟩ := sel0_ok hl
    cases m with
    | zero => cases hx
    | succ m => exact ⟨_, hk, (accum_Unpack_fx m (hct m (Nat.lt_succ_self m)) _ hx).conv h1 h2, ⟨_, Tryz.func10, rfl, by decide⟩⟩
  cases h
theorem ct11_ok (m : Nat) (hct : ∀ k, k < m → ∀ R, CallOK (R := R) Tryz.prog (ct k)) {R : Type} {args : List AV} {objs : List Ob} {K : Res → Option R} {r : R} (h : ct11 m args objs K = some r) : ∃ q : Res, K q = some r ∧ FX Tryz.prog 11 args objs q.1 q.2 ∧ HasBody Tryz.prog 11 := by
  unfold ct11 at h
  split at h
  · rename_i l hl
    obtain ⟨x, hx, hk⟩ := Option.bind_eq_some_iff.1 h
    obtain ⟨h1, h2⟩ := sel0_ok hl
    cases m with
    | zero => cases hx
    | succ m => exact ⟨_, hk, (ref32_Unpack_fx m (hct m (Nat.lt_succ_self m)) _ hx).conv h1 h2, ⟨_, Tryz.func11, rfl, by decide⟩⟩
  cases h
theorem ct12_ok (m : Nat) (hct : ∀ k, k < m → ∀ R, CallOK (R := R) Tryz.prog (ct k)) {R : Type} {args : List AV} {objs : List Ob} {K : Res → Option R} {r : R} (h : ct12 m args objs K = some r) : ∃ q : Res, K q = some r ∧ FX Tryz.prog 12 args objs q.1 q.2 ∧ HasBody Tryz.prog 12 := by
  unfold ct12 at h
  split at h
  · rename_i l hl
    obtain ⟨x, hx, hk⟩ := Option.bind_eq_some_iff.1 h
    obtain ⟨h1, h2⟩ := sel5_ok hl
    cases m with
    | zero => cases hx
    | succ m => exact ⟨_, hk, (ref32_Same_fx m (hct m (Nat.lt_succ_self m)) _ _ hx).conv h1 h2, ⟨_, Tryz.func12, rfl, by decide⟩⟩
  cases h
theorem ct21_ok (m : Nat) (hct : ∀ k, k < m → ∀ R, CallOK (R := R) Tryz.prog (ct k)) {R : Type} {args : List AV} {objs : List Ob} {K : Res → Option R} {r : R} (h : ct21 m args objs K = some r) : ∃ q : Res, K q = some r ∧ FX Tryz.prog 21 args objs q.1 q.2 ∧ HasBody Tryz.prog 21 := by
  unfold ct21 at h
  split at h
  · rename_i l hl
    obtain ⟨x, hx, hk⟩ := Option.bind_eq_some_iff.1 h
    obtain ⟨h1, h2⟩ := sel6_ok hl
    cases m with
    | zero => cases hx
    | succ m => exact ⟨_, hk, (ref02_count_fx m (hct m (Nat.lt_succ_self m)) _ _ _ hx).conv h1 h2, ⟨_, Tryz.func21, rfl, by decide⟩⟩
  cases h
theorem ct24_ok (m : Nat) (hct : ∀ k, k < m → ∀ R, CallOK (R := R) Tryz.prog (ct k)) {R : Type} {args : List AV} {objs : List Ob} {K : Res → Option R} {r : R} (h : ct24 m args objs K = some r) : ∃ q : Res, K q = some r ∧ FX Tryz.prog 24 args objs q.1 q.2 ∧ HasBody Tryz.prog 24 := by
  unfold ct24 at h
  split at h
  · rename_i l hl
    obtain ⟨x, hx, hk⟩ := Option.bind_eq_some_iff.1 h
    obtain ⟨h1, h2⟩ := sel0_ok hl
    cases m with
    | zero => cases hx
    | succ m => exact ⟨_, hk, (accum_isInteger_fx m (hct m (Nat.lt_succ_self m)) _ hx).conv h1 h2, ⟨_, Tryz.func24, rfl, by decide⟩⟩
  cases h
theorem ct25_ok (m : Nat) (hct : ∀ k, k < m → ∀ R, CallOK (R := R) Tryz.prog (ct k)) {R : Type} {args : List AV} {objs : List Ob} {K : Res → Option R} {r : R} (h : ct25 m args objs K = some r) : ∃ q : Res, K q = some r ∧ FX Tryz.prog 25 args objs q.1 q.2 ∧ HasBody Tryz.prog 25 := by
  unfold ct25 at h
  split at h
  · rename_i l hl
    obtain ⟨x, hx, hk⟩ := Option.bind_eq_some_iff.1 h
    obtain ⟨h1, h2⟩ := sel0_ok hl
    cases m with
    | zero => cases hx
    | succ m => exact ⟨_, hk, (accum_copyValue_fx m (hct m (Nat.lt_succ_self m)) _ hx).conv h1 h2, ⟨_, Tryz.func25, rfl, by decide⟩⟩
  cases h
theorem ct26_ok (m : Nat) (hct : ∀ k, k < m → ∀ R, CallOK (R := R) Tryz.prog (ct k)) {R : Type} {args : List AV} {objs : List Ob} {K : Res → Option R} {r : R} (h : ct26 m args objs K = some r) : ∃ q : Res, K q = some r ∧ FX Tryz.prog 26 args objs q.1 q.2 ∧ HasBody Tryz.prog 26 := by
  unfold ct26 at h
  split at h
  · rename_i l hl
    obtain ⟨x, hx, hk⟩ := Option.bind_eq_some_iff.1 h
    obtain ⟨h1, h2⟩ := sel0_ok hl
    cases m with
    | zero => cases hx
    | succ m => exact ⟨_, hk, (accum_isList_fx m (hct m (Nat.lt_succ_self m)) _ hx).conv h1 h2, ⟨_, Tryz.func26, rfl, by decide⟩⟩
  cases h
theorem ct27_ok (m : Nat) (hct : ∀ k, k < m → ∀ R, CallOK (R := R) Tryz.prog (ct k)) {R : Type} {args : List AV} {objs : List Ob} {K : Res → Option R} {r : R} (h : ct27 m args objs K = some r) : ∃ q : Res, K q = some r ∧ FX Tryz.prog 27 args objs q.1 q.2 ∧ HasBody Tryz.prog 27 := by
  unfold ct27 at h
  split at h
  · rename_i l hl
    obtain ⟨x, hx, hk⟩ := Option.bind_eq_some_iff.1 h
    obtain ⟨h1, h2⟩ := sel10_ok hl
    cases m with
    | zero => cases hx
    | succ m => exact ⟨_, hk, (accum_copyList_fx m (hct m (Nat.lt_succ_self m)) _ hx).conv h1 h2, ⟨_, Tryz.func27, rfl, by decide⟩⟩
  cases h
theorem ct28_ok (m : Nat) (hct : ∀ k, k < m → ∀ R, CallOK (R := R) Tryz.prog (ct k)) {R : Type} {args : List AV} {objs : List Ob} {K : Res → Option R} {r : R} (h : ct28 m args objs K = some r) : ∃ q : Res, K q = some r ∧ FX Tryz.prog 28 args objs q.1 q.2 ∧ HasBody Tryz.prog 28 := by
  unfold ct28 at h
  split at h
  · rename_i l hl
    obtain ⟨x, hx, hk⟩ := Option.bind_eq_some_iff.1 h
    obtain ⟨h1, h2⟩ := sel11_ok hl
    cases m with
    | zero => cases hx
    | succ m => exact ⟨_, hk, (accum_keysFit_fx m (hct m (Nat.lt_succ_self m)) _ hx).conv h1 h2, ⟨_, Tryz.func28, rfl, by decide⟩⟩
  cases h
theorem ct29_ok (m : Nat) (hct : ∀ k, k < m → ∀ R, CallOK (R := R) Tryz.prog (ct k)) {R : Type} {args : List AV} {objs : List Ob} {K : Res → Option R} {r : R} (h : ct29 m args objs K = some r) : ∃ q : Res, K q = some r ∧ FX Tryz.prog 29 args objs q.1 q.2 ∧ HasBody Tryz.prog 29 := by
  unfold ct29 at h
  split at h
  · rename_i l hl
    obtain ⟨x, hx, hk⟩ := Option.bind_eq_some_iff.1 h
    obtain ⟨h1, h2⟩ := sel11_ok hl
    cases m with
    | zero => cases hx
    | succ m => exact ⟨_, hk, (ref32_Pack_fx m (hct m (Nat.lt_succ_self m)) _ hx).conv h1 h2, ⟨_, Tryz.func29, rfl, by decide⟩⟩
  cases h
theorem ct20_ok (m : Nat) (hct : ∀ k, k < m → ∀ R, CallOK (R := R) Tryz.prog (ct k)) {R : Type} {args : List AV} {objs : List Ob} {K : Res → Option R} {r : R} (h : ct20 m args objs K = some r) : ∃ q : Res, K q = some r ∧ FX Tryz.prog 20 args objs q.1 q.2 ∧ HasBody Tryz.prog 20 := by
  unfold ct20 at h
  split at h
  · rename_i l hl
    obtain ⟨x, hx, hk⟩ := Option.bind_eq_some_iff.1 h
    obtain ⟨h1, h2⟩ := sel13_ok hl
    cases m with
    | zero => cases hx
    | succ m => exact ⟨_, hk, (ref01_Same_fx m (hct m (Nat.lt_succ_self m)) _ _ hx).conv h1 h2, ⟨_, Tryz.func20, rfl, by decide⟩⟩
  cases h
theorem ct30_ok (m : Nat) (hct : ∀ k, k < m → ∀ R, CallOK (R := R) Tryz.prog (ct k)) {R : Type} {args : List AV} {objs : List Ob} {K : Res → Option R} {r : R} (h : ct30 m args objs K = some r) : ∃ q : Res, K q = some r ∧ FX Tryz.prog 30 args objs q.1 q.2 ∧ HasBody Tryz.prog 30 := by
  unfold ct30 at h
  split at h
  · rename_i l hl
    obtain ⟨x, hx, hk⟩ := Option.bind_eq_some_iff.1 h
    obtain ⟨h1, h2⟩ := sel14_ok hl
    cases m with
    | zero => cases hx
    | succ m => exact ⟨_, hk, (ref01_SameList_fx m (hct m (Nat.lt_succ_self m)) _ _ hx).conv h1 h2, ⟨_, Tryz.func30, rfl, by decide⟩⟩
  cases h
theorem ct23_ok (m : Nat) (hct : ∀ k, k < m → ∀ R, CallOK (R := R) Tryz.prog (ct k)) {R : Type} {args : List AV} {objs : List Ob} {K : Res → Option R} {r : R} (h : ct23 m args objs K = some r) : ∃ q : Res, K q = some r ∧ FX Tryz.prog 23 args objs q.1 q.2 ∧ HasBody Tryz.prog 23 := by
  unfold ct23 at h
  split at h
  · rename_i l hl
    obtain ⟨x, hx, hk⟩ := Option.bind_eq_some_iff.1 h
    obtain ⟨h1, h2⟩ := sel15_ok hl
    cases m with
    | zero => cases hx
    | succ m => exact ⟨_, hk, (ref01_Int_fx m (hct m (Nat.lt_succ_self m)) _ hx).conv h1 h2, ⟨_, Tryz.func23, rfl, by decide⟩⟩
  cases h
theorem ct39_ok (m : Nat) (hct : ∀ k, k < m → ∀ R, CallOK (R := R) Tryz.prog (ct k)) {R : Type} {args : List AV} {objs : List Ob} {K : Res → Option R} {r : R} (h : ct39 m args objs K = some r) : ∃ q : Res, K q = some r ∧ FX Tryz.prog 39 args objs q.1 q.2 ∧ HasBody Tryz.prog 39 := by
  unfold ct39 at h
  split at h
  · rename_i l hl
    obtain ⟨x, hx, hk⟩ := Option.bind_eq_some_iff.1 h
    obtain ⟨h1, h2⟩ := sel10_ok hl
    cases m with
    | zero => cases hx
    | succ m => exact ⟨_, hk, (ref01_List_fx m (hct m (Nat.lt_succ_self m)) _ hx).conv h1 h2, ⟨_, Tryz.func39, rfl, by decide⟩⟩
  cases h
set_option maxHeartbeats 4000000 in
theorem ct_ok : ∀ (m : Nat) (R : Type), CallOK (R := R) Tryz.prog (ct m) := by
  intro m
  induction m using Nat.strongRecOn with
  | _ m ih =>
    intro R f args objs K r h
    unfold ct at h
    rcases bset_some h with ⟨hb, h1⟩ | ⟨_, h⟩
    · have e := beq_eq hb
      subst e
      exact ct3_ok m ih h1
    rcases bset_some h with ⟨hb, h1⟩ | ⟨_, h⟩
    · have e := beq_eq hb
      subst e
      exact ct8_ok m ih h1
    rcases bset_some h with ⟨hb, h1⟩ | ⟨_, h⟩
    · have e := beq_eq hb
      subst e
      exact ct9_ok m ih h1
    rcases bset_some h with ⟨hb, h1⟩ | ⟨_, h⟩
    · have e := beq_eq hb
      subst e
      exact ct10_ok m ih h1
    rcases bset_some h with ⟨hb, h1⟩ | ⟨_, h⟩
    · have e := beq_eq hb
      subst e
      exact ct11_ok m ih h1
    rcases bset_some h with ⟨hb, h1⟩ | ⟨_, h⟩
    · have e := beq_eq hb
      subst e
      exact ct12_ok m ih h1
    rcases bset_some h with ⟨hb, h1⟩ | ⟨_, h⟩
    · have e := beq_eq hb
      subst e
      exact ct21_ok m ih h1
    rcases bset_some h with ⟨hb, h1⟩ | ⟨_, h⟩
    · have e := beq_eq hb
      subst e
      exact ct24_ok m ih h1
    rcases bset_some h with ⟨hb, h1⟩ | ⟨_, h⟩
    · have e := beq_eq hb
      subst e
      exact ct25_ok m ih h1
    rcases bset_some h with ⟨hb, h1⟩ | ⟨_, h⟩
    · have e := beq_eq hb
      subst e
      exact ct26_ok m ih h1
    rcases bset_some h with ⟨hb, h1⟩ | ⟨_, h⟩
    · have e := beq_eq hb
      subst e
      exact ct27_ok m ih h1
    rcases bset_some h with ⟨hb, h1⟩ | ⟨_, h⟩
    · have e := beq_eq hb
      subst e
      exact ct28_ok m ih h1
    rcases bset_some h with ⟨hb, h1⟩ | ⟨_, h⟩
    · have e := beq_eq hb
      subst e
      exact ct29_ok m ih h1
    rcases bset_some h with ⟨hb, h1⟩ | ⟨_, h⟩
    · have e := beq_eq hb
      subst e
      exact ct20_ok m ih h1
    rcases bset_some h with ⟨hb, h1⟩ | ⟨_, h⟩
    · have e := beq_eq hb
      subst e
      exact ct30_ok m ih h1
    rcases bset_some h with ⟨hb, h1⟩ | ⟨_, h⟩
    · have e := beq_eq hb
      subst e
      exact ct23_ok m ih h1
    rcases bset_some h with ⟨hb, h1⟩ | ⟨_, h⟩
    · have e := beq_eq hb
      subst e
      exact ct39_ok m ih h1
    cases h
end Go.Proofs.YtacpcknpliomoaaGreat
