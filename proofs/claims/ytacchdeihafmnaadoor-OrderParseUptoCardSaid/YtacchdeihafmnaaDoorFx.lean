/- Generated: the contracts. -/
import Derived.Test.YtacchdeihafmnaaDoorEq0
set_option linter.unusedVariables false
set_option linter.unusedSimpArgs false
namespace Go.Proofs.YtacchdeihafmnaaDoor
open Go.Am
set_option maxRecDepth 100000
theorem mixed : Tryd.prog.follows .mixedOrders = true := by kernel_rfl
theorem slices_Equal_fx (m : Nat) (hct : ∀ R, CallOK (R := R) Tryd.prog (ct m)) (a0 : List Dt) (a1 : List Dt) {r : Bool} (h : slices_Equal (m + 1) a0 a1 = some r) : FX Tryd.prog 29 [(.dat 45 (.lst a0)), (.dat 45 (.lst a1))] [] (.dat 4 (.bool r)) [] :=
  FX_of (q := ((.dat 4 (.bool r)), [])) (E := env) (m := m + 1) (dec := d9) jn_ok (hct _) mixed Tryd.func29 rfl (Nat.le_of_ble_eq_true rfl) (fun b hb => d9_sim hb) ((slices_Equal_eq m a0 a1).trans h)
theorem law12_Same_fx (m : Nat) (hct : ∀ R, CallOK (R := R) Tryd.prog (ct m)) (a0 : List Dt) (a1 : List Dt) {r : Bool} (h : law12_Same (m + 1) a0 a1 = some r) : FX Tryd.prog 15 [(.dat 22 (.lst a0)), (.dat 22 (.lst a1))] [] (.dat 4 (.bool r)) [] :=
  FX_of (q := ((.dat 4 (.bool r)), [])) (E := env) (m := m + 1) (dec := d7) jn_ok (hct _) mixed Tryd.func15 rfl (Nat.le_of_ble_eq_true rfl) (fun b hb => d7_sim hb) ((law12_Same_eq m a0 a1).trans h)
theorem ref12_same_fx (m : Nat) (hct : ∀ R, CallOK (R := R) Tryd.prog (ct m)) (a0 : List Dt) (a1 : List Dt) {r : Bool} (h : ref12_same (m + 1) a0 a1 = some r) : FX Tryd.prog 31 [(.dat 45 (.lst a0)), (.dat 45 (.lst a1))] [] (.dat 4 (.bool r)) [] :=
  FX_of (q := ((.dat 4 (.bool r)), [])) (E := env) (m := m + 1) (dec := d11) jn_ok (hct _) mixed Tryd.func31 rfl (Nat.le_of_ble_eq_true rfl) (fun b hb => d11_sim hb) ((ref12_same_eq m a0 a1).trans h)
theorem path_notName_fx (m : Nat) (hct : ∀ R, CallOK (R := R) Tryd.prog (ct m)) (a0 : ByteArray) {r : Bool} (h : path_notName (m + 1) a0 = some r) : FX Tryd.prog 43 [(.dat 9 (.str a0))] [] (.dat 4 (.bool r)) [] :=
  FX_of (q := ((.dat 4 (.bool r)), [])) (E := env) (m := m + 1) (dec := d16) jn_ok (hct _) mixed Tryd.func43 rfl (Nat.le_of_ble_eq_true rfl) (fun b hb => d16_sim hb) ((path_notName_eq m a0).trans h)
theorem slices_IndexFunc_i15_fx (m : Nat) (hct : ∀ R, CallOK (R := R) Tryd.prog (ct m)) (a0 : List Dt) {r : Int} (h : slices_IndexFunc_i15 (m + 1) a0 = some r) : FX Tryd.prog 58 [(.dat 45 (.lst a0)), (.fn 43 [])] [] (.dat 3 (.int r)) [] :=
  FX_of (q := ((.dat 3 (.int r)), [])) (E := env) (m := m + 1) (dec := d15) jn_ok (hct _) mixed Tryd.func58 rfl (Nat.le_of_ble_eq_true rfl) (fun b hb => d15_sim hb) ((slices_IndexFunc_i15_eq m a0).trans h)
theorem slices_ContainsFunc_i14_fx (m : Nat) (hct : ∀ R, CallOK (R := R) Tryd.prog (ct m)) (a0 : List Dt) {r : Bool} (h : slices_ContainsFunc_i14 (m + 1) a0 = some r) : FX Tryd.prog 42 [(.dat 45 (.lst a0)), (.fn 43 [])] [] (.dat 4 (.bool r)) [] :=
  FX_of (q := ((.dat 4 (.bool r)), [])) (E := env) (m := m + 1) (dec := d14) jn_ok (hct _) mixed Tryd.func42 rfl (Nat.le_of_ble_eq_true rfl) (fun b hb => d14_sim hb) ((slices_ContainsFunc_i14_eq m a0).trans h)
theorem path_Valid_fx (m : Nat) (hct : ∀ R, CallOK (R := R) Tryd.prog (ct m)) (a0 : List Dt) {r : Bool} (h : path_Valid (m + 1) a0 = some r) : FX Tryd.prog 28 [(.dat 45 (.lst a0))] [] (.dat 4 (.bool r)) [] :=
  FX_of (q := ((.dat 4 (.bool r)), [])) (E := env) (m := m + 1) (dec := d8) jn_ok (hct _) mixed Tryd.func28 rfl (Nat.le_of_ble_eq_true rfl) (fun b hb => d8_sim hb) ((path_Valid_eq m a0).trans h)
theorem order_Valid_fx (m : Nat) (hct : ∀ R, CallOK (R := R) Tryd.prog (ct m)) (a0 : List Dt) {r : Int} (h : order_Valid (m + 1) a0 = some r) : FX Tryd.prog 10 [(.dat 22 (.lst a0))] [] (.dat 23 (.int r)) [] :=
  FX_of (q := ((.dat 23 (.int r)), [])) (E := env) (m := m + 1) (dec := d2) jn_ok (hct _) mixed Tryd.func10 rfl (Nat.le_of_ble_eq_true rfl) (fun b hb => d2_sim hb) ((order_Valid_eq m a0).trans h)
theorem path_Parse_fx (m : Nat) (hct : ∀ R, CallOK (R := R) Tryd.prog (ct m)) (a0 : ByteArray) {r : List Dt × Int} (h : path_Parse (m + 1) a0 = some r) : FX Tryd.prog 34 [(.dat 9 (.str a0))] [] (.tup [(.dat 45 (.lst r.1)), (.dat 23 (.int r.2))]) [] :=
  FX_of (q := ((.tup [(.dat 45 (.lst r.1)), (.dat 23 (.int r.2))]), [])) (E := env) (m := m + 1) (dec := d12) jn_ok (hct _) mixed Tryd.func34 rfl (Nat.le_of_ble_eq_true rfl) (fun b hb => d12_sim hb) ((path_Parse_eq m a0).trans h)
theorem order_Parse_fx (m : Nat) (hct : ∀ R, CallOK (R := R) Tryd.prog (ct m)) (a0 : Dt) {r : List Dt × Int} (h : order_Parse (m + 1) a0 = some r) : FX Tryd.prog 13 [(.dat 30 a0)] [] (.tup [(.dat 22 (.lst r.1)), (.dat 23 (.int r.2))]) [] :=
  FX_of (q := ((.tup [(.dat 22 (.lst r.1)), (.dat 23 (.int r.2))]), [])) (E := env) (m := m + 1) (dec := d5) jn_ok (hct _) mixed Tryd.func13 rfl (Nat.le_of_ble_eq_true rfl) (fun b hb => d5_sim hb) ((order_Parse_eq m a0).trans h)
theorem ref01_Name_fx (m : Nat) (hct : ∀ R, CallOK (R := R) Tryd.prog (ct m)) (a0 : ByteArray) {r : Bool} (h : ref01_Name (m + 1) a0 = some r) : FX Tryd.prog 44 [(.dat 9 (.str a0))] [] (.dat 4 (.bool r)) [] :=
  FX_of (q := ((.dat 4 (.bool r)), [])) (E := env) (m := m + 1) (dec := d17) jn_ok (hct _) mixed Tryd.func44 rfl (Nat.le_of_ble_eq_true rfl) (fun b hb => d17_sim hb) ((ref01_Name_eq m a0).trans h)
theorem ref04_Valid_fx (m : Nat) (hct : ∀ R, CallOK (R := R) Tryd.prog (ct m)) (a0 : List Dt) {r : Bool} (h : ref04_Valid (m + 1) a0 = some r) : FX Tryd.prog 30 [(.dat 45 (.lst a0))] [] (.dat 4 (.bool r)) [] :=
  FX_of (q := ((.dat 4 (.bool r)), [])) (E := env) (m := m + 1) (dec := d10) jn_ok (hct _) mixed Tryd.func30 rfl (Nat.le_of_ble_eq_true rfl) (fun b hb => d10_sim hb) ((ref04_Valid_eq m a0).trans h)
theorem ref12_Valid_fx (m : Nat) (hct : ∀ R, CallOK (R := R) Tryd.prog (ct m)) (a0 : List Dt) {r : Int} (h : ref12_Valid (m + 1) a0 = some r) : FX Tryd.prog 11 [(.dat 22 (.lst a0))] [] (.dat 23 (.int r)) [] :=
  FX_of (q := ((.dat 23 (.int r)), [])) (E := env) (m := m + 1) (dec := d3) jn_ok (hct _) mixed Tryd.func11 rfl (Nat.le_of_ble_eq_true rfl) (fun b hb => d3_sim hb) ((ref12_Valid_eq m a0).trans h)
theorem law12_OrderValid_fx (m : Nat) (hct : ∀ R, CallOK (R := R) Tryd.prog (ct m)) (a0 : List Dt) {r : Bool} (h : law12_OrderValid (m + 1) a0 = some r) : FX Tryd.prog 3 [(.dat 22 (.lst a0))] [] (.dat 4 (.bool r)) [] :=
  FX_of (q := ((.dat 4 (.bool r)), [])) (E := env) (m := m + 1) (dec := d0) jn_ok (hct _) mixed Tryd.func3 rfl (Nat.le_of_ble_eq_true rfl) (fun b hb => d0_sim hb) ((law12_OrderValid_eq m a0).trans h)
theorem ref04_split_fx (m : Nat) (hct : ∀ R, CallOK (R := R) Tryd.prog (ct m)) (a0 : ByteArray) {r : List Dt} (h : ref04_split (m + 1) a0 = some r) : FX Tryd.prog 46 [(.dat 9 (.str a0))] [] (.dat 45 (.lst r)) [] :=
  FX_of (q := ((.dat 45 (.lst r)), [])) (E := env) (m := m + 1) (dec := d19) jn_ok (hct _) mixed Tryd.func46 rfl (Nat.le_of_ble_eq_true rfl) (fun b hb => d19_sim hb) ((ref04_split_eq m a0).trans h)
theorem ref04_Parse_fx (m : Nat) (hct : ∀ R, CallOK (R := R) Tryd.prog (ct m)) (a0 : ByteArray) {r : List Dt × Int} (h : ref04_Parse (m + 1) a0 = some r) : FX Tryd.prog 35 [(.dat 9 (.str a0))] [] (.tup [(.dat 45 (.lst r.1)), (.dat 23 (.int r.2))]) [] :=
  FX_of (q := ((.tup [(.dat 45 (.lst r.1)), (.dat 23 (.int r.2))]), [])) (E := env) (m := m + 1) (dec := d13) jn_ok (hct _) mixed Tryd.func35 rfl (Nat.le_of_ble_eq_true rfl) (fun b hb => d13_sim hb) ((ref04_Parse_eq m a0).trans h)
theorem ref12_Parse_fx (m : Nat) (hct : ∀ R, CallOK (R := R) Tryd.prog (ct m)) (a0 : Dt) {r : List Dt × Int} (h : ref12_Parse (m + 1) a0 = some r) : FX Tryd.prog 14 [(.dat 30 a0)] [] (.tup [(.dat 22 (.lst r.1)), (.dat 23 (.int r.2))]) [] :=
  FX_of (q := ((.tup [(.dat 22 (.lst r.1)), (.dat 23 (.int r.2))]), [])) (E := env) (m := m + 1) (dec := d6) jn_ok (hct _) mixed Tryd.func14 rfl (Nat.le_of_ble_eq_true rfl) (fun b hb => d6_sim hb) ((ref12_Parse_eq m a0).trans h)
theorem law12_OrderParse_fx (m : Nat) (hct : ∀ R, CallOK (R := R) Tryd.prog (ct m)) (a0 : Dt) {r : Bool} (h : law12_OrderParse (m + 1) a0 = some r) : FX Tryd.prog 4 [(.dat 30 a0)] [] (.dat 4 (.bool r)) [] :=
  FX_of (q := ((.dat 4 (.bool r)), [])) (E := env) (m := m + 1) (dec := d1) jn_ok (hct _) mixed Tryd.func4 rfl (Nat.le_of_ble_eq_true rfl) (fun b hb => d1_sim hb) ((law12_OrderParse_eq m a0).trans h)
theorem ct3_ok (m : Nat) (hct : ∀ k, k < m → ∀ R, CallOK (R := R) Tryd.prog (ct k)) {R : Type} {args : List AV} {objs : List Ob} {K : Res → Option R} {r : R} (h : ct3 m args objs K = some r) : ∃ q : Res, K q = some r ∧ FX Tryd.prog 3 args objs q.1 q.2 ∧ HasBody Tryd.prog 3 := by
  unfold ct3 at h
  split at h
  · rename_i l hl
    obtain ⟨x, hx, hk⟩ := Option.bind_eq_some_iff.1 h
    obtain ⟨h1, h2⟩ := sel0_ok hl
    cases m with
    | zero => cases hx
    | succ m => exact ⟨_, hk, (law12_OrderValid_fx m (hct m (Nat.lt_succ_self m)) _ hx).conv h1 h2, ⟨_, Tryd.func3, rfl, by decide⟩⟩
  cases h
theorem ct4_ok (m : Nat) (hct : ∀ k, k < m → ∀ R, CallOK (R := R) Tryd.prog (ct k)) {R : Type} {args : List AV} {objs : List Ob} {K : Res → Option R} {r : R} (h : ct4 m args objs K = some r) : ∃ q : Res, K q = some r ∧ FX Tryd.prog 4 args objs q.1 q.2 ∧ HasBody Tryd.prog 4 := by
  unfold ct4 at h
  split at h
  · rename_i l hl
    obtain ⟨x, hx, hk⟩ := Option.bind_eq_some_iff.1 h
    obtain ⟨h1, h2⟩ := sel1_ok hl
    cases m with
    | zero => cases hx
    | succ m => exact ⟨_, hk, (law12_OrderParse_fx m (hct m (Nat.lt_succ_self m)) _ hx).conv h1 h2, ⟨_, Tryd.func4, rfl, by decide⟩⟩
  cases h
theorem ct10_ok (m : Nat) (hct : ∀ k, k < m → ∀ R, CallOK (R := R) Tryd.prog (ct k)) {R : Type} {args : List AV} {objs : List Ob} {K : Res → Option R} {r : R} (h : ct10 m args objs K = some r) : ∃ q : Res, K q = some r ∧ FX Tryd.prog 10 args objs q.1 q.2 ∧ HasBody Tryd.prog 10 := by
  unfold ct10 at h
  split at h
  · rename_i l hl
    obtain ⟨x, hx, hk⟩ := Option.bind_eq_some_iff.1 h
    obtain ⟨h1, h2⟩ := sel2_ok hl
    cases m with
    | zero => cases hx
    | succ m => exact ⟨_, hk, (order_Valid_fx m (hct m (Nat.lt_succ_self m)) _ hx).conv h1 h2, ⟨_, Tryd.func10, rfl, by decide⟩⟩
  cases h
theorem ct11_ok (m : Nat) (hct : ∀ k, k < m → ∀ R, CallOK (R := R) Tryd.prog (ct k)) {R : Type} {args : List AV} {objs : List Ob} {K : Res → Option R} {r : R} (h : ct11 m args objs K = some r) : ∃ q : Res, K q = some r ∧ FX Tryd.prog 11 args objs q.1 q.2 ∧ HasBody Tryd.prog 11 := by
  unfold ct11 at h
  split at h
  · rename_i l hl
    obtain ⟨x, hx, hk⟩ := Option.bind_eq_some_iff.1 h
    obtain ⟨h1, h2⟩ := sel3_ok hl
    cases m with
    | zero => cases hx
    | succ m => exact ⟨_, hk, (ref12_Valid_fx m (hct m (Nat.lt_succ_self m)) _ hx).conv h1 h2, ⟨_, Tryd.func11, rfl, by decide⟩⟩
  cases h
theorem ct12_ok (m : Nat) (hct : ∀ k, k < m → ∀ R, CallOK (R := R) Tryd.prog (ct k)) {R : Type} {args : List AV} {objs : List Ob} {K : Res → Option R} {r : R} (h : ct12 m args objs K = some r) : ∃ q : Res, K q = some r ∧ FX Tryd.prog 12 args objs q.1 q.2 ∧ HasBody Tryd.prog 12 := by
  unfold ct12 at h
  split at h
  · rename_i l hl
    obtain ⟨x, hx, hk⟩ := Option.bind_eq_some_iff.1 h
    obtain ⟨h1, h2⟩ := sel4_ok hl
    exact ⟨_, hk, (awakeC_fx hx).conv h1 h2, ⟨_, Tryd.func12, rfl, by decide⟩⟩
  cases h
theorem ct13_ok (m : Nat) (hct : ∀ k, k < m → ∀ R, CallOK (R := R) Tryd.prog (ct k)) {R : Type} {args : List AV} {objs : List Ob} {K : Res → Option R} {r : R} (h : ct13 m args objs K = some r) : ∃ q : Res, K q = some r ∧ FX Tryd.prog 13 args objs q.1 q.2 ∧ HasBody Tryd.prog 13 := by
  unfold ct13 at h
  split at h
  · rename_i l hl
    obtain ⟨x, hx, hk⟩ := Option.bind_eq_some_iff.1 h
    obtain ⟨h1, h2⟩ := sel5_ok hl
    cases m with
    | zero => cases hx
    | succ m => exact ⟨_, hk, (order_Parse_fx m (hct m (Nat.lt_succ_self m)) _ hx).conv h1 h2, ⟨_, Tryd.func13, rfl, by decide⟩⟩
  cases h
theorem ct14_ok (m : Nat) (hct : ∀ k, k < m → ∀ R, CallOK (R := R) Tryd.prog (ct k)) {R : Type} {args : List AV} {objs : List Ob} {K : Res → Option R} {r : R} (h : ct14 m args objs K = some r) : ∃ q : Res, K q = some r ∧ FX Tryd.prog 14 args objs q.1 q.2 ∧ HasBody Tryd.prog 14 := by
  unfold ct14 at h
  split at h
  · rename_i l hl
    obtain ⟨x, hx, hk⟩ := Option.bind_eq_some_iff.1 h
    obtain ⟨h1, h2⟩ := sel6_ok hl
    cases m with
    | zero => cases hx
    | succ m => exact ⟨_, hk, (ref12_Parse_fx m (hct m (Nat.lt_succ_self m)) _ hx).conv h1 h2, ⟨_, Tryd.func14, rfl, by decide⟩⟩
  cases h
theorem ct15_ok (m : Nat) (hct : ∀ k, k < m → ∀ R, CallOK (R := R) Tryd.prog (ct k)) {R : Type} {args : List AV} {objs : List Ob} {K : Res → Option R} {r : R} (h : ct15 m args objs K = some r) : ∃ q : Res, K q = some r ∧ FX Tryd.prog 15 args objs q.1 q.2 ∧ HasBody Tryd.prog 15 := by
  unfold ct15 at h
  split at h
  · rename_i l hl
    obtain ⟨x, hx, hk⟩ := Option.bind_eq_some_iff.1 h
    obtain ⟨h1, h2⟩ := sel7_ok hl
    cases m with
    | zero => cases hx
    | succ m => exact ⟨_, hk, (law12_Same_fx m (hct m (Nat.lt_succ_self m)) _ _ hx).conv h1 h2, ⟨_, Tryd.func15, rfl, by decide⟩⟩
  cases h
theorem ct28_ok (m : Nat) (hct : ∀ k, k < m → ∀ R, CallOK (R := R) Tryd.prog (ct k)) {R : Type} {args : List AV} {objs : List Ob} {K : Res → Option R} {r : R} (h : ct28 m args objs K = some r) : ∃ q : Res, K q = some r ∧ FX Tryd.prog 28 args objs q.1 q.2 ∧ HasBody Tryd.prog 28 := by
  unfold ct28 at h
  split at h
  · rename_i l hl
    obtain ⟨x, hx, hk⟩ := Option.bind_eq_some_iff.1 h
    obtain ⟨h1, h2⟩ := sel8_ok hl
    cases m with
    | zero => cases hx
    | succ m => exact ⟨_, hk, (path_Valid_fx m (hct m (Nat.lt_succ_self m)) _ hx).conv h1 h2, ⟨_, Tryd.func28, rfl, by decide⟩⟩
  cases h
theorem ct29_ok (m : Nat) (hct : ∀ k, k < m → ∀ R, CallOK (R := R) Tryd.prog (ct k)) {R : Type} {args : List AV} {objs : List Ob} {K : Res → Option R} {r : R} (h : ct29 m args objs K = some r) : ∃ q : Res, K q = some r ∧ FX Tryd.prog 29 args objs q.1 q.2 ∧ HasBody Tryd.prog 29 := by
  unfold ct29 at h
  split at h
  · rename_i l hl
    obtain ⟨x, hx, hk⟩ := Option.bind_eq_some_iff.1 h
    obtain ⟨h1, h2⟩ := sel9_ok hl
    cases m with
    | zero => cases hx
    | succ m => exact ⟨_, hk, (slices_Equal_fx m (hct m (Nat.lt_succ_self m)) _ _ hx).conv h1 h2, ⟨_, Tryd.func29, rfl, by decide⟩⟩
  cases h
theorem ct30_ok (m : Nat) (hct : ∀ k, k < m → ∀ R, CallOK (R := R) Tryd.prog (ct k)) {R : Type} {args : List AV} {objs : List Ob} {K : Res → Option R} {r : R} (h : ct30 m args objs K = some r) : ∃ q : Res, K q = some r ∧ FX Tryd.prog 30 args objs q.1 q.2 ∧ HasBody Tryd.prog 30 := by
  unfold ct30 at h
  split at h
  · rename_i l hl
    obtain ⟨x, hx, hk⟩ := Option.bind_eq_some_iff.1 h
    obtain ⟨h1, h2⟩ := sel10_ok hl
    cases m with
    | zero => cases hx
    | succ m => exact ⟨_, hk, (ref04_Valid_fx m (hct m (Nat.lt_succ_self m)) _ hx).conv h1 h2, ⟨_, Tryd.func30, rfl, by decide⟩⟩
  cases h
theorem ct31_ok (m : Nat) (hct : ∀ k, k < m → ∀ R, CallOK (R := R) Tryd.prog (ct k)) {R : Type} {args : List AV} {objs : List Ob} {K : Res → Option R} {r : R} (h : ct31 m args objs K = some r) : ∃ q : Res, K q = some r ∧ FX Tryd.prog 31 args objs q.1 q.2 ∧ HasBody Tryd.prog 31 := by
  unfold ct31 at h
  split at h
  · rename_i l hl
    obtain ⟨x, hx, hk⟩ := Option.bind_eq_some_iff.1 h
    obtain ⟨h1, h2⟩ := sel11_ok hl
    cases m with
    | zero => cases hx
    | succ m => exact ⟨_, hk, (ref12_same_fx m (hct m (Nat.lt_succ_self m)) _ _ hx).conv h1 h2, ⟨_, Tryd.func31, rfl, by decide⟩⟩
  cases h
theorem ct34_ok (m : Nat) (hct : ∀ k, k < m → ∀ R, CallOK (R := R) Tryd.prog (ct k)) {R : Type} {args : List AV} {objs : List Ob} {K : Res → Option R} {r : R} (h : ct34 m args objs K = some r) : ∃ q : Res, K q = some r ∧ FX Tryd.prog 34 args objs q.1 q.2 ∧ HasBody Tryd.prog 34 := by
  unfold ct34 at h
  split at h
  · rename_i l hl
    obtain ⟨x, hx, hk⟩ := Option.bind_eq_some_iff.1 h
    obtain ⟨h1, h2⟩ := sel12_ok hl
    cases m with
    | zero => cases hx
    | succ m => exact ⟨_, hk, (path_Parse_fx m (hct m (Nat.lt_succ_self m)) _ hx).conv h1 h2, ⟨_, Tryd.func34, rfl, by decide⟩⟩
  cases h
theorem ct35_ok (m : Nat) (hct : ∀ k, k < m → ∀ R, CallOK (R := R) Tryd.prog (ct k)) {R : Type} {args : List AV} {objs : List Ob} {K : Res → Option R} {r : R} (h : ct35 m args objs K = some r) : ∃ q : Res, K q = some r ∧ FX Tryd.prog 35 args objs q.1 q.2 ∧ HasBody Tryd.prog 35 := by
  unfold ct35 at h
  split at h
  · rename_i l hl
    obtain ⟨x, hx, hk⟩ := Option.bind_eq_some_iff.1 h
    obtain ⟨h1, h2⟩ := sel13_ok hl
    cases m with
    | zero => cases hx
    | succ m => exact ⟨_, hk, (ref04_Parse_fx m (hct m (Nat.lt_succ_self m)) _ hx).conv h1 h2, ⟨_, Tryd.func35, rfl, by decide⟩⟩
  cases h
theorem ct42_ok (m : Nat) (hct : ∀ k, k < m → ∀ R, CallOK (R := R) Tryd.prog (ct k)) {R : Type} {args : List AV} {objs : List Ob} {K : Res → Option R} {r : R} (h : ct42 m args objs K = some r) : ∃ q : Res, K q = some r ∧ FX Tryd.prog 42 args objs q.1 q.2 ∧ HasBody Tryd.prog 42 := by
  unfold ct42 at h
  split at h
  · rename_i l hl
    obtain ⟨x, hx, hk⟩ := Option.bind_eq_some_iff.1 h
    obtain ⟨h1, h2⟩ := sel14_ok hl
    cases m with
    | zero => cases hx
    | succ m => exact ⟨_, hk, (slices_ContainsFunc_i14_fx m (hct m (Nat.lt_succ_self m)) _ hx).conv h1 h2, ⟨_, Tryd.func42, rfl, by decide⟩⟩
  cases h
theorem ct58_ok (m : Nat) (hct : ∀ k, k < m → ∀ R, CallOK (R := R) Tryd.prog (ct k)) {R : Type} {args : List AV} {objs : List Ob} {K : Res → Option R} {r : R} (h : ct58 m args objs K = some r) : ∃ q : Res, K q = some r ∧ FX Tryd.prog 58 args objs q.1 q.2 ∧ HasBody Tryd.prog 58 := by
  unfold ct58 at h
  split at h
  · rename_i l hl
    obtain ⟨x, hx, hk⟩ := Option.bind_eq_some_iff.1 h
    obtain ⟨h1, h2⟩ := sel15_ok hl
    cases m with
    | zero => cases hx
    | succ m => exact ⟨_, hk, (slices_IndexFunc_i15_fx m (hct m (Nat.lt_succ_self m)) _ hx).conv h1 h2, ⟨_, Tryd.func58, rfl, by decide⟩⟩
  cases h
theorem ct43_ok (m : Nat) (hct : ∀ k, k < m → ∀ R, CallOK (R := R) Tryd.prog (ct k)) {R : Type} {args : List AV} {objs : List Ob} {K : Res → Option R} {r : R} (h : ct43 m args objs K = some r) : ∃ q : Res, K q = some r ∧ FX Tryd.prog 43 args objs q.1 q.2 ∧ HasBody Tryd.prog 43 := by
  unfold ct43 at h
  split at h
  · rename_i l hl
    obtain ⟨x, hx, hk⟩ := Option.bind_eq_some_iff.1 h
    obtain ⟨h1, h2⟩ := sel16_ok hl
    cases m with
    | zero => cases hx
    | succ m => exact ⟨_, hk, (path_notName_fx m (hct m (Nat.lt_succ_self m)) _ hx).conv h1 h2, ⟨_, Tryd.func43, rfl, by decide⟩⟩
  cases h
theorem ct44_ok (m : Nat) (hct : ∀ k, k < m → ∀ R, CallOK (R := R) Tryd.prog (ct k)) {R : Type} {args : List AV} {objs : List Ob} {K : Res → Option R} {r : R} (h : ct44 m args objs K = some r) : ∃ q : Res, K q = some r ∧ FX Tryd.prog 44 args objs q.1 q.2 ∧ HasBody Tryd.prog 44 := by
  unfold ct44 at h
  split at h
  · rename_i l hl
    obtain ⟨x, hx, hk⟩ := Option.bind_eq_some_iff.1 h
    obtain ⟨h1, h2⟩ := sel17_ok hl
    cases m with
    | zero => cases hx
    | succ m => exact ⟨_, hk, (ref01_Name_fx m (hct m (Nat.lt_succ_self m)) _ hx).conv h1 h2, ⟨_, Tryd.func44, rfl, by decide⟩⟩
  cases h
theorem ct45_ok (m : Nat) (hct : ∀ k, k < m → ∀ R, CallOK (R := R) Tryd.prog (ct k)) {R : Type} {args : List AV} {objs : List Ob} {K : Res → Option R} {r : R} (h : ct45 m args objs K = some r) : ∃ q : Res, K q = some r ∧ FX Tryd.prog 45 args objs q.1 q.2 ∧ HasBody Tryd.prog 45 := by
  unfold ct45 at h
  split at h
  · rename_i l hl
    obtain ⟨x, hx, hk⟩ := Option.bind_eq_some_iff.1 h
    obtain ⟨h1, h2⟩ := sel18_ok hl
    exact ⟨_, hk, (Split_fx hx).conv h1 h2, ⟨_, Tryd.func45, rfl, by decide⟩⟩
  cases h
theorem ct46_ok (m : Nat) (hct : ∀ k, k < m → ∀ R, CallOK (R := R) Tryd.prog (ct k)) {R : Type} {args : List AV} {objs : List Ob} {K : Res → Option R} {r : R} (h : ct46 m args objs K = some r) : ∃ q : Res, K q = some r ∧ FX Tryd.prog 46 args objs q.1 q.2 ∧ HasBody Tryd.prog 46 := by
  unfold ct46 at h
  split at h
  · rename_i l hl
    obtain ⟨x, hx, hk⟩ := Option.bind_eq_some_iff.1 h
    obtain ⟨h1, h2⟩ := sel19_ok hl
    cases m with
    | zero => cases hx
    | succ m => exact ⟨_, hk, (ref04_split_fx m (hct m (Nat.lt_succ_self m)) _ hx).conv h1 h2, ⟨_, Tryd.func46, rfl, by decide⟩⟩
  cases h
set_option maxHeartbeats 4000000 in
theorem ct_ok : ∀ (m : Nat) (R : Type), CallOK (R := R) Tryd.prog (ct m) := by
  intro m
  induction m using Nat.strongRecOn with
  | _ m ih =>
    intro R f args objs K r h
    unfold ct at h
    rcases bset_some h with ⟨hb, h1⟩ | ⟨_, h⟩
    · have e := beq_eq hb
      subst e
      exact ct3_ok m ih h1
    rcases bset_some h with ⟨hb, h1⟩ | ⟨_, h⟩
    · have e := beq_eq hb
      subst e
      exact ct4_ok m ih h1
    rcases bset_some h with ⟨hb, h1⟩ | ⟨_, h⟩
    · have e := beq_eq hb
      subst e
      exact ct10_ok m ih h1
    rcases bset_some h with ⟨hb, h1⟩ | ⟨_, h⟩
    · have e := beq_eq hb
      subst e
      exact ct11_ok m ih h1
    rcases bset_some h with ⟨hb, h1⟩ | ⟨_, h⟩
    · have e := beq_eq hb
      subst e
      exact ct12_ok m ih h1
    rcases bset_some h with ⟨hb, h1⟩ | ⟨_, h⟩
    · have e := beq_eq hb
      subst e
      exact ct13_ok m ih h1
    rcases bset_some h with ⟨hb, h1⟩ | ⟨_, h⟩
    · have e := beq_eq hb
      subst e
      exact ct14_ok m ih h1
    rcases bset_some h with ⟨hb, h1⟩ | ⟨_, h⟩
    · have e := beq_eq hb
      subst e
      exact ct15_ok m ih h1
    rcases bset_some h with ⟨hb, h1⟩ | ⟨_, h⟩
    · have e := beq_eq hb
      subst e
      exact ct28_ok m ih h1
    rcases bset_some h with ⟨hb, h1⟩ | ⟨_, h⟩
    · have e := beq_eq hb
      subst e
      exact ct29_ok m ih h1
    rcases bset_some h with ⟨hb, h1⟩ | ⟨_, h⟩
    · have e := beq_eq hb
      subst e
      exact ct30_ok m ih h1
    rcases bset_some h with ⟨hb, h1⟩ | ⟨_, h⟩
    · have e := beq_eq hb
      subst e
      exact ct31_ok m ih h1
    rcases bset_some h with ⟨hb, h1⟩ | ⟨_, h⟩
    · have e := beq_eq hb
      subst e
      exact ct34_ok m ih h1
    rcases bset_some h with ⟨hb, h1⟩ | ⟨_, h⟩
    · have e := beq_eq hb
      subst e
      exact ct35_ok m ih h1
    rcases bset_some h with ⟨hb, h1⟩ | ⟨_, h⟩
    · have e := beq_eq hb
      subst e
      exact ct42_ok m ih h1
    rcases bset_some h with ⟨hb, h1⟩ | ⟨_, h⟩
    · have e := beq_eq hb
      subst e
      exact ct58_ok m ih h1
    rcases bset_some h with ⟨hb, h1⟩ | ⟨_, h⟩
    · have e := beq_eq hb
      subst e
      exact ct43_ok m ih h1
    rcases bset_some h with ⟨hb, h1⟩ | ⟨_, h⟩
    · have e := beq_eq hb
      subst e
      exact ct44_ok m ih h1
    rcases bset_some h with ⟨hb, h1⟩ | ⟨_, h⟩
    · have e := beq_eq hb
      subst e
      exact ct45_ok m ih h1
    rcases bset_some h with ⟨hb, h1⟩ | ⟨_, h⟩
    · have e := beq_eq hb
      subst e
      exact ct46_ok m ih h1
    cases h
end Go.Proofs.YtacchdeihafmnaaDoor
