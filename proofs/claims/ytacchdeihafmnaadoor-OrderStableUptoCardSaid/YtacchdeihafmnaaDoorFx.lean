/- Generated: the contracts. -/
import Derived.Test.YtacchdeihafmnaaDoorEq0
import Derived.Test.YtacchdeihafmnaaDoorEq1
import Derived.Test.YtacchdeihafmnaaDoorEq2
set_option linter.unusedVariables false
set_option linter.unusedSimpArgs false
namespace Go.Proofs.YtacchdeihafmnaaDoor
open Go.Am
set_option maxRecDepth 100000
theorem mixed : Tryd.prog.follows .mixedOrders = true := by kernel_rfl
theorem law03_SameList_fx (m : Nat) (hct : ∀ R, CallOK (R := R) Tryd.prog (ct m)) (a0 a1 : List Dt) {r : Bool} (h : law03_SameList (m + 1) a0 a1 = some r) : FX Tryd.prog 17 [(.dat 27 (.lst a0)), (.dat 27 (.lst a1))] [] (.dat 4 (.bool r)) [] :=
  FX_of (q := ((.dat 4 (.bool r)), [])) (E := env) (m := m + 1) (dec := d6) jn_ok (hct _) mixed Tryd.func17 rfl (Nat.le_of_ble_eq_true rfl) (fun b hb => d6_sim hb) ((law03_SameList_eq m a0 a1).trans h)
theorem law03_Same_fx (m : Nat) (hct : ∀ R, CallOK (R := R) Tryd.prog (ct m)) (a0 a1 : Dt) {r : Bool} (h : law03_Same (m + 1) a0 a1 = some r) : FX Tryd.prog 33 [(.dat 30 a0), (.dat 30 a1)] [] (.dat 4 (.bool r)) [] :=
  FX_of (q := ((.dat 4 (.bool r)), [])) (E := env) (m := m + 1) (dec := d13) jn_ok (hct _) mixed Tryd.func33 rfl (Nat.le_of_ble_eq_true rfl) (fun b hb => d13_sim hb) ((law03_Same_eq m a0 a1).trans h)
theorem i25_fx (m : Nat) (hct : ∀ R, CallOK (R := R) Tryd.prog (ct m)) (a0 a1 a2 : Int) (a3 a4 : List Dt) {r : List Dt × List Dt} (h : i25 (m + 1) a0 a1 a2 a3 a4 = some r) : FX Tryd.prog 97 [(.row 0), (.dat 3 (.int a0)), (.dat 3 (.int a1)), (.dat 3 (.int a2)), (.fn 56 [(.ptr 1 [] 0)])] [(.row 68 a3), (.box 22 (.dat 22 (.lst a4)))] (.tup []) [(.row 68 r.1), (.box 22 (.dat 22 (.lst r.2)))] :=
  FX_of (q := ((.tup []), [(.row 68 r.1), (.box 22 (.dat 22 (.lst r.2)))])) (E := env) (m := m + 1) (dec := d25) jn_ok (hct _) mixed Tryd.func97 rfl (Nat.le_of_ble_eq_true rfl) (fun b hb => d25_sim hb) ((i25_eq m a0 a1 a2 a3 a4).trans h)
theorem i24_fx (m : Nat) (hct : ∀ R, CallOK (R := R) Tryd.prog (ct m)) (a0 a1 a2 : Int) (a3 a4 : List Dt) {r : List Dt × List Dt} (h : i24 (m + 1) a0 a1 a2 a3 a4 = some r) : FX Tryd.prog 90 [(.row 0), (.dat 3 (.int a0)), (.dat 3 (.int a1)), (.dat 3 (.int a2)), (.fn 56 [(.ptr 1 [] 0)])] [(.row 68 a3), (.box 22 (.dat 22 (.lst a4)))] (.tup []) [(.row 68 r.1), (.box 22 (.dat 22 (.lst r.2)))] :=
  FX_of (q := ((.tup []), [(.row 68 r.1), (.box 22 (.dat 22 (.lst r.2)))])) (E := env) (m := m + 1) (dec := d24) jn_ok (hct _) mixed Tryd.func90 rfl (Nat.le_of_ble_eq_true rfl) (fun b hb => d24_sim hb) ((i24_eq m a0 a1 a2 a3 a4).trans h)
theorem order_clone_fx (m : Nat) (hct : ∀ R, CallOK (R := R) Tryd.prog (ct m)) (a0 : Dt) {r : Dt} (h : order_clone (m + 1) a0 = some r) : FX Tryd.prog 57 [(.dat 30 a0)] [] (.dat 30 r) [] :=
  FX_of (q := ((.dat 30 r), [])) (E := env) (m := m + 1) (dec := d26) jn_ok (hct _) mixed Tryd.func57 rfl (Nat.le_of_ble_eq_true rfl) (fun b hb => d26_sim hb) ((order_clone_eq m a0).trans h)
theorem ref01_Ints_fx (m : Nat) (hct : ∀ R, CallOK (R := R) Tryd.prog (ct m)) (a0 a1 : Int) {r : Int} (h : ref01_Ints (m + 1) a0 a1 = some r) : FX Tryd.prog 53 [(.dat 3 (.int a0)), (.dat 3 (.int a1))] [] (.dat 3 (.int r)) [] :=
  FX_of (q := ((.dat 3 (.int r)), [])) (E := env) (m := m + 1) (dec := d36) jn_ok (hct _) mixed Tryd.func53 rfl (Nat.le_of_ble_eq_true rfl) (fun b hb => d36_sim hb) ((ref01_Ints_eq m a0 a1).trans h)
theorem ref01_Texts_fx (m : Nat) (hct : ∀ R, CallOK (R := R) Tryd.prog (ct m)) (a0 a1 : ByteArray) {r : Int} (h : ref01_Texts (m + 1) a0 a1 = some r) : FX Tryd.prog 54 [(.dat 9 (.str a0)), (.dat 9 (.str a1))] [] (.dat 3 (.int r)) [] :=
  FX_of (q := ((.dat 3 (.int r)), [])) (E := env) (m := m + 1) (dec := d37) jn_ok (hct _) mixed Tryd.func54 rfl (Nat.le_of_ble_eq_true rfl) (fun b hb => d37_sim hb) ((ref01_Texts_eq m a0 a1).trans h)
theorem ref01_Compare_fx (m : Nat) (hct : ∀ R, CallOK (R := R) Tryd.prog (ct m)) (a0 a1 : Dt) {r : Int} (h : ref01_Compare (m + 1) a0 a1 = some r) : FX Tryd.prog 40 [(.dat 30 a0), (.dat 30 a1)] [] (.dat 3 (.int r)) [] :=
  FX_of (q := ((.dat 3 (.int r)), [])) (E := env) (m := m + 1) (dec := d28) jn_ok (hct _) mixed Tryd.func40 rfl (Nat.le_of_ble_eq_true rfl) (fun b hb => d28_sim hb) ((ref01_Compare_eq m a0 a1).trans h)
theorem ref01_Parts_fx (m : Nat) (hct : ∀ R, CallOK (R := R) Tryd.prog (ct m)) (a0 : Dt) {r : List Dt} (h : ref01_Parts (m + 1) a0 = some r) : FX Tryd.prog 73 [(.dat 30 a0)] [] (.dat 27 (.lst r)) [] :=
  FX_of (q := ((.dat 27 (.lst r)), [])) (E := env) (m := m + 1) (dec := d41) jn_ok (hct _) mixed Tryd.func73 rfl (Nat.le_of_ble_eq_true rfl) (fun b hb => d41_sim hb) ((ref01_Parts_eq m a0).trans h)
theorem ref01_levels_fx (m : Nat) (hct : ∀ R, CallOK (R := R) Tryd.prog (ct m)) (a0 : Dt) (a1 : Int) {r : Int} (h : ref01_levels (m + 1) a0 a1 = some r) : FX Tryd.prog 60 [(.dat 30 a0), (.dat 3 (.int a1))] [] (.dat 3 (.int r)) [] :=
  FX_of (q := ((.dat 3 (.int r)), [])) (E := env) (m := m + 1) (dec := d31) jn_ok (hct _) mixed Tryd.func60 rfl (Nat.le_of_ble_eq_true rfl) (fun b hb => d31_sim hb) ((ref01_levels_eq m a0 a1).trans h)
theorem ref01_Depth_fx (m : Nat) (hct : ∀ R, CallOK (R := R) Tryd.prog (ct m)) (a0 : Dt) {r : Int} (h : ref01_Depth (m + 1) a0 = some r) : FX Tryd.prog 47 [(.dat 30 a0)] [] (.dat 3 (.int r)) [] :=
  FX_of (q := ((.dat 3 (.int r)), [])) (E := env) (m := m + 1) (dec := d16) jn_ok (hct _) mixed Tryd.func47 rfl (Nat.le_of_ble_eq_true rfl) (fun b hb => d16_sim hb) ((ref01_Depth_eq m a0).trans h)
theorem ref01_count_fx (m : Nat) (hct : ∀ R, CallOK (R := R) Tryd.prog (ct m)) (a0 : Dt) (a1 : Int) {r : Int} (h : ref01_count (m + 1) a0 a1 = some r) : FX Tryd.prog 61 [(.dat 30 a0), (.dat 3 (.int a1))] [] (.dat 3 (.int r)) [] :=
  FX_of (q := ((.dat 3 (.int r)), [])) (E := env) (m := m + 1) (dec := d32) jn_ok (hct _) mixed Tryd.func61 rfl (Nat.le_of_ble_eq_true rfl) (fun b hb => d32_sim hb) ((ref01_count_eq m a0 a1).trans h)
theorem ref01_Nodes_fx (m : Nat) (hct : ∀ R, CallOK (R := R) Tryd.prog (ct m)) (a0 : Dt) {r : Int} (h : ref01_Nodes (m + 1) a0 = some r) : FX Tryd.prog 48 [(.dat 30 a0)] [] (.dat 3 (.int r)) [] :=
  FX_of (q := ((.dat 3 (.int r)), [])) (E := env) (m := m + 1) (dec := d17) jn_ok (hct _) mixed Tryd.func48 rfl (Nat.le_of_ble_eq_true rfl) (fun b hb => d17_sim hb) ((ref01_Nodes_eq m a0).trans h)
theorem ref01_tail_fx (m : Nat) (hct : ∀ R, CallOK (R := R) Tryd.prog (ct m)) (a0 : ByteArray) (a1 a2 : Int) {r : Bool} (h : ref01_tail (m + 1) a0 a1 a2 = some r) : FX Tryd.prog 74 [(.dat 9 (.str a0)), (.dat 3 (.int a1)), (.dat 3 (.int a2))] [] (.dat 4 (.bool r)) [] :=
  FX_of (q := ((.dat 4 (.bool r)), [])) (E := env) (m := m + 1) (dec := d42) jn_ok (hct _) mixed Tryd.func74 rfl (Nat.le_of_ble_eq_true rfl) (fun b hb => d42_sim hb) ((ref01_tail_eq m a0 a1 a2).trans h)
theorem ref01_UTF8_fx (m : Nat) (hct : ∀ R, CallOK (R := R) Tryd.prog (ct m)) (a0 : ByteArray) {r : Bool} (h : ref01_UTF8 (m + 1) a0 = some r) : FX Tryd.prog 62 [(.dat 9 (.str a0))] [] (.dat 4 (.bool r)) [] :=
  FX_of (q := ((.dat 4 (.bool r)), [])) (E := env) (m := m + 1) (dec := d33) jn_ok (hct _) mixed Tryd.func62 rfl (Nat.le_of_ble_eq_true rfl) (fun b hb => d33_sim hb) ((ref01_UTF8_eq m a0).trans h)
theorem ref01_Name_fx (m : Nat) (hct : ∀ R, CallOK (R := R) Tryd.prog (ct m)) (a0 : ByteArray) {r : Bool} (h : ref01_Name (m + 1) a0 = some r) : FX Tryd.prog 44 [(.dat 9 (.str a0))] [] (.dat 4 (.bool r)) [] :=
  FX_of (q := ((.dat 4 (.bool r)), [])) (E := env) (m := m + 1) (dec := d43) jn_ok (hct _) mixed Tryd.func44 rfl (Nat.le_of_ble_eq_true rfl) (fun b hb => d43_sim hb) ((ref01_Name_eq m a0).trans h)
theorem ref01_wide_fx (m : Nat) (hct : ∀ R, CallOK (R := R) Tryd.prog (ct m)) (a0 : ByteArray) {r : Bool} (h : ref01_wide (m + 1) a0 = some r) : FX Tryd.prog 75 [(.dat 9 (.str a0))] [] (.dat 4 (.bool r)) [] :=
  FX_of (q := ((.dat 4 (.bool r)), [])) (E := env) (m := m + 1) (dec := d44) jn_ok (hct _) mixed Tryd.func75 rfl (Nat.le_of_ble_eq_true rfl) (fun b hb => d44_sim hb) ((ref01_wide_eq m a0).trans h)
theorem ref01_formed_fx (m : Nat) (hct : ∀ R, CallOK (R := R) Tryd.prog (ct m)) (a0 : Dt) (a1 : Bool) {r : Bool} (h : ref01_formed (m + 1) a0 a1 = some r) : FX Tryd.prog 49 [(.dat 30 a0), (.dat 4 (.bool a1))] [] (.dat 4 (.bool r)) [] :=
  FX_of (q := ((.dat 4 (.bool r)), [])) (E := env) (m := m + 1) (dec := d18) jn_ok (hct _) mixed Tryd.func49 rfl (Nat.le_of_ble_eq_true rfl) (fun b hb => d18_sim hb) ((ref01_formed_eq m a0 a1).trans h)
theorem ref01_fields_fx (m : Nat) (hct : ∀ R, CallOK (R := R) Tryd.prog (ct m)) (a0 : Dt) (a1 : Bool) {r : Bool} (h : ref01_fields (m + 1) a0 a1 = some r) : FX Tryd.prog 63 [(.dat 30 a0), (.dat 4 (.bool a1))] [] (.dat 4 (.bool r)) [] :=
  FX_of (q := ((.dat 4 (.bool r)), [])) (E := env) (m := m + 1) (dec := d34) jn_ok (hct _) mixed Tryd.func63 rfl (Nat.le_of_ble_eq_true rfl) (fun b hb => d34_sim hb) ((ref01_fields_eq m a0 a1).trans h)
theorem ref01_Valid_fx (m : Nat) (hct : ∀ R, CallOK (R := R) Tryd.prog (ct m)) (a0 : Dt) {r : Bool} (h : ref01_Valid (m + 1) a0 = some r) : FX Tryd.prog 36 [(.dat 30 a0)] [] (.dat 4 (.bool r)) [] :=
  FX_of (q := ((.dat 4 (.bool r)), [])) (E := env) (m := m + 1) (dec := d10) jn_ok (hct _) mixed Tryd.func36 rfl (Nat.le_of_ble_eq_true rfl) (fun b hb => d10_sim hb) ((ref01_Valid_eq m a0).trans h)
theorem law12_Small_fx (m : Nat) (hct : ∀ R, CallOK (R := R) Tryd.prog (ct m)) (a0 a1 : List Dt) {r : Bool} (h : law12_Small (m + 1) a0 a1 = some r) : FX Tryd.prog 16 [(.dat 22 (.lst a0)), (.dat 27 (.lst a1))] [] (.dat 4 (.bool r)) [] :=
  FX_of (q := ((.dat 4 (.bool r)), [])) (E := env) (m := m + 1) (dec := d2) jn_ok (hct _) mixed Tryd.func16 rfl (Nat.le_of_ble_eq_true rfl) (fun b hb => d2_sim hb) ((law12_Small_eq m a0 a1).trans h)
theorem path_field_fx (m : Nat) (hct : ∀ R, CallOK (R := R) Tryd.prog (ct m)) (a0 : List Dt) (a1 : ByteArray) {r : Int} (h : path_field (m + 1) a0 a1 = some r) : FX Tryd.prog 76 [(.dat 28 (.lst a0)), (.dat 9 (.str a1))] [] (.dat 3 (.int r)) [] :=
  FX_of (q := ((.dat 3 (.int r)), [])) (E := env) (m := m + 1) (dec := d47) jn_ok (hct _) mixed Tryd.func76 rfl (Nat.le_of_ble_eq_true rfl) (fun b hb => d47_sim hb) ((path_field_eq m a0 a1).trans h)
theorem path_Number_fx (m : Nat) (hct : ∀ R, CallOK (R := R) Tryd.prog (ct m)) (a0 : ByteArray) {r : Int × Bool} (h : path_Number (m + 1) a0 = some r) : FX Tryd.prog 77 [(.dat 9 (.str a0))] [] (.tup [(.dat 3 (.int r.1)), (.dat 4 (.bool r.2))]) [] :=
  FX_of (q := ((.tup [(.dat 3 (.int r.1)), (.dat 4 (.bool r.2))]), [])) (E := env) (m := m + 1) (dec := d48) jn_ok (hct _) mixed Tryd.func77 rfl (Nat.le_of_ble_eq_true rfl) (fun b hb => d48_sim hb) ((path_Number_eq m a0).trans h)
theorem i46_fx (m : Nat) (hct : ∀ R, CallOK (R := R) Tryd.prog (ct m)) (a0 : Dt) (a1 a2 : List Dt) {r : List Dt} (h : i46 (m + 1) a0 a1 a2 = some r) : FX Tryd.prog 64 [(.row 0), (.dat 30 a0), (.dat 45 (.lst a1))] [(.row 27 a2)] (.row 1) [.gone, (.row 27 r)] :=
  FX_of (q := ((.row 1), [.gone, (.row 27 r)])) (E := env) (m := m + 1) (dec := d46) jn_ok (hct _) mixed Tryd.func64 rfl (Nat.le_of_ble_eq_true rfl) (fun b hb => d46_sim hb) ((i46_eq m a0 a1 a2).trans h)
theorem path_clone_fx (m : Nat) (hct : ∀ R, CallOK (R := R) Tryd.prog (ct m)) (a0 : Dt) {r : Dt} (h : path_clone (m + 1) a0 = some r) : FX Tryd.prog 65 [(.dat 30 a0)] [] (.dat 30 r) [] :=
  FX_of (q := ((.dat 30 r), [])) (E := env) (m := m + 1) (dec := d49) jn_ok (hct _) mixed Tryd.func65 rfl (Nat.le_of_ble_eq_true rfl) (fun b hb => d49_sim hb) ((path_clone_eq m a0).trans h)
theorem path_Reach_fx (m : Nat) (hct : ∀ R, CallOK (R := R) Tryd.prog (ct m)) (a0 : Dt) (a1 : List Dt) {r : List Dt} (h : path_Reach (m + 1) a0 a1 = some r) : FX Tryd.prog 50 [(.dat 30 a0), (.dat 45 (.lst a1))] [] (.dat 27 (.lst r)) [] :=
  FX_of (q := ((.dat 27 (.lst r)), [])) (E := env) (m := m + 1) (dec := d38) jn_ok (hct _) mixed Tryd.func50 rfl (Nat.le_of_ble_eq_true rfl) (fun b hb => d38_sim hb) ((path_Reach_eq m a0 a1).trans h)
theorem cmp_isNaN_fx (m : Nat) (hct : ∀ R, CallOK (R := R) Tryd.prog (ct m)) (a0 : Int) {r : Bool} (h : cmp_isNaN (m + 1) a0 = some r) : FX Tryd.prog 78 [(.dat 3 (.int a0))] [] (.dat 4 (.bool r)) [] :=
  FX_of (q := ((.dat 4 (.bool r)), [])) (E := env) (m := m + 1) (dec := d50) jn_ok (hct _) mixed Tryd.func78 rfl (Nat.le_of_ble_eq_true rfl) (fun b hb => d50_sim hb) ((cmp_isNaN_eq m a0).trans h)
theorem cmp_Compare_fx (m : Nat) (hct : ∀ R, CallOK (R := R) Tryd.prog (ct m)) (a0 a1 : Int) {r : Int} (h : cmp_Compare (m + 1) a0 a1 = some r) : FX Tryd.prog 66 [(.dat 3 (.int a0)), (.dat 3 (.int a1))] [] (.dat 3 (.int r)) [] :=
  FX_of (q := ((.dat 3 (.int r)), [])) (E := env) (m := m + 1) (dec := d39) jn_ok (hct _) mixed Tryd.func66 rfl (Nat.le_of_ble_eq_true rfl) (fun b hb => d39_sim hb) ((cmp_Compare_eq m a0 a1).trans h)
theorem value_Compare_fx (m : Nat) (hct : ∀ R, CallOK (R := R) Tryd.prog (ct m)) (a0 a1 : Dt) {r : Int} (h : value_Compare (m + 1) a0 a1 = some r) : FX Tryd.prog 51 [(.dat 30 a0), (.dat 30 a1)] [] (.dat 3 (.int r)) [] :=
  FX_of (q := ((.dat 3 (.int r)), [])) (E := env) (m := m + 1) (dec := d30) jn_ok (hct _) mixed Tryd.func51 rfl (Nat.le_of_ble_eq_true rfl) (fun b hb => d30_sim hb) ((value_Compare_eq m a0 a1).trans h)
theorem order_compare_fx (m : Nat) (hct : ∀ R, CallOK (R := R) Tryd.prog (ct m)) (a0 a1 a2 : List Dt) {r : Int} (h : order_compare (m + 1) a0 a1 a2 = some r) : FX Tryd.prog 39 [(.dat 22 (.lst a0)), (.dat 27 (.lst a1)), (.dat 27 (.lst a2))] [] (.dat 3 (.int r)) [] :=
  FX_of (q := ((.dat 3 (.int r)), [])) (E := env) (m := m + 1) (dec := d15) jn_ok (hct _) mixed Tryd.func39 rfl (Nat.le_of_ble_eq_true rfl) (fun b hb => d15_sim hb) ((order_compare_eq m a0 a1 a2).trans h)
theorem i22_fx (m : Nat) (hct : ∀ R, CallOK (R := R) Tryd.prog (ct m)) (a0 a1 : Dt) (a2 : List Dt) {r : Int × List Dt} (h : i22 (m + 1) a0 a1 a2 = some r) : FX Tryd.prog 56 [(.dat 70 a0), (.dat 70 a1), (.ptr 0 [] 0)] [(.box 22 (.dat 22 (.lst a2)))] (.dat 3 (.int r.1)) [(.box 22 (.dat 22 (.lst r.2)))] :=
  FX_of (q := ((.dat 3 (.int r.1)), [(.box 22 (.dat 22 (.lst r.2)))])) (E := env) (m := m + 1) (dec := d22) jn_ok (hct _) mixed Tryd.func56 rfl (Nat.le_of_ble_eq_true rfl) (fun b hb => d22_sim hb) ((i22_eq m a0 a1 a2).trans h)
theorem i21_fx (m : Nat) (hct : ∀ R, CallOK (R := R) Tryd.prog (ct m)) (a0 a1 : Int) (a2 a3 : List Dt) {r : List Dt × List Dt} (h : i21 (m + 1) a0 a1 a2 a3 = some r) : FX Tryd.prog 81 [(.row 0), (.dat 3 (.int a0)), (.dat 3 (.int a1)), (.fn 56 [(.ptr 1 [] 0)])] [(.row 68 a2), (.box 22 (.dat 22 (.lst a3)))] (.tup []) [(.row 68 r.1), (.box 22 (.dat 22 (.lst r.2)))] :=
  FX_of (q := ((.tup []), [(.row 68 r.1), (.box 22 (.dat 22 (.lst r.2)))])) (E := env) (m := m + 1) (dec := d21) jn_ok (hct _) mixed Tryd.func81 rfl (Nat.le_of_ble_eq_true rfl) (fun b hb => d21_sim hb) ((i21_eq m a0 a1 a2 a3).trans h)
theorem i23_fx (m : Nat) (hct : ∀ R, CallOK (R := R) Tryd.prog (ct m)) (a0 a1 a2 : Int) (a3 a4 : List Dt) {r : List Dt × List Dt} (h : i23 (m + 1) a0 a1 a2 a3 a4 = some r) : FX Tryd.prog 82 [(.row 0), (.dat 3 (.int a0)), (.dat 3 (.int a1)), (.dat 3 (.int a2)), (.fn 56 [(.ptr 1 [] 0)])] [(.row 68 a3), (.box 22 (.dat 22 (.lst a4)))] (.tup []) [(.row 68 r.1), (.box 22 (.dat 22 (.lst r.2)))] :=
  FX_of (q := ((.tup []), [(.row 68 r.1), (.box 22 (.dat 22 (.lst r.2)))])) (E := env) (m := m + 1) (dec := d23) jn_ok (hct _) mixed Tryd.func82 rfl (Nat.le_of_ble_eq_true rfl) (fun b hb => d23_sim hb) ((i23_eq m a0 a1 a2 a3 a4).trans h)
theorem i20_fx (m : Nat) (hct : ∀ R, CallOK (R := R) Tryd.prog (ct m)) (a0 : Int) (a1 a2 : List Dt) {r : List Dt × List Dt} (h : i20 (m + 1) a0 a1 a2 = some r) : FX Tryd.prog 69 [(.row 0), (.dat 3 (.int a0)), (.fn 56 [(.ptr 1 [] 0)])] [(.row 68 a1), (.box 22 (.dat 22 (.lst a2)))] (.tup []) [(.row 68 r.1), (.box 22 (.dat 22 (.lst r.2)))] :=
  FX_of (q := ((.tup []), [(.row 68 r.1), (.box 22 (.dat 22 (.lst r.2)))])) (E := env) (m := m + 1) (dec := d20) jn_ok (hct _) mixed Tryd.func69 rfl (Nat.le_of_ble_eq_true rfl) (fun b hb => d20_sim hb) ((i20_eq m a0 a1 a2).trans h)
theorem i19_fx (m : Nat) (hct : ∀ R, CallOK (R := R) Tryd.prog (ct m)) (a0 a1 : List Dt) {r : List Dt × List Dt} (h : i19 (m + 1) a0 a1 = some r) : FX Tryd.prog 55 [(.row 0), (.fn 56 [(.ptr 1 [] 0)])] [(.row 68 a0), (.box 22 (.dat 22 (.lst a1)))] (.tup []) [(.row 68 r.1), (.box 22 (.dat 22 (.lst r.2)))] :=
  FX_of (q := ((.tup []), [(.row 68 r.1), (.box 22 (.dat 22 (.lst r.2)))])) (E := env) (m := m + 1) (dec := d19) jn_ok (hct _) mixed Tryd.func55 rfl (Nat.le_of_ble_eq_true rfl) (fun b hb => d19_sim hb) ((i19_eq m a0 a1).trans h)
theorem order_key_fx (m : Nat) (hct : ∀ R, CallOK (R := R) Tryd.prog (ct m)) (a0 a1 : Dt) {r : Dt} (h : order_key (m + 1) a0 a1 = some r) : FX Tryd.prog 37 [(.dat 47 a0), (.dat 30 a1)] [] (.dat 30 r) [] :=
  FX_of (q := ((.dat 30 r), [])) (E := env) (m := m + 1) (dec := d29) jn_ok (hct _) mixed Tryd.func37 rfl (Nat.le_of_ble_eq_true rfl) (fun b hb => d29_sim hb) ((order_key_eq m a0 a1).trans h)
theorem order_Keys_fx (m : Nat) (hct : ∀ R, CallOK (R := R) Tryd.prog (ct m)) (a0 : List Dt) (a1 : Dt) {r : List Dt} (h : order_Keys (m + 1) a0 a1 = some r) : FX Tryd.prog 18 [(.dat 22 (.lst a0)), (.dat 30 a1)] [] (.dat 27 (.lst r)) [] :=
  FX_of (q := ((.dat 27 (.lst r)), [])) (E := env) (m := m + 1) (dec := d14) jn_ok (hct _) mixed Tryd.func18 rfl (Nat.le_of_ble_eq_true rfl) (fun b hb => d14_sim hb) ((order_Keys_eq m a0 a1).trans h)
theorem order_Compare_fx (m : Nat) (hct : ∀ R, CallOK (R := R) Tryd.prog (ct m)) (a0 : List Dt) (a1 a2 : Dt) {r : Int} (h : order_Compare (m + 1) a0 a1 a2 = some r) : FX Tryd.prog 20 [(.dat 22 (.lst a0)), (.dat 30 a1), (.dat 30 a2)] [] (.dat 3 (.int r)) [] :=
  FX_of (q := ((.dat 3 (.int r)), [])) (E := env) (m := m + 1) (dec := d9) jn_ok (hct _) mixed Tryd.func20 rfl (Nat.le_of_ble_eq_true rfl) (fun b hb => d9_sim hb) ((order_Compare_eq m a0 a1 a2).trans h)
theorem order_first_fx (m : Nat) (hct : ∀ R, CallOK (R := R) Tryd.prog (ct m)) (a0 a1 : List Dt) (a2 : Int) {r : List Dt} (h : order_first (m + 1) a0 a1 a2 = some r) : FX Tryd.prog 41 [(.dat 22 (.lst a0)), (.dat 27 (.lst a1)), (.dat 3 (.int a2))] [] (.dat 27 (.lst r)) [] :=
  FX_of (q := ((.dat 27 (.lst r)), [])) (E := env) (m := m + 1) (dec := d11) jn_ok (hct _) mixed Tryd.func41 rfl (Nat.le_of_ble_eq_true rfl) (fun b hb => d11_sim hb) ((order_first_eq m a0 a1 a2).trans h)
theorem order_Sort_fx (m : Nat) (hct : ∀ R, CallOK (R := R) Tryd.prog (ct m)) (a0 a1 : List Dt) {r : List Dt} (h : order_Sort (m + 1) a0 a1 = some r) : FX Tryd.prog 22 [(.dat 22 (.lst a0)), (.dat 27 (.lst a1))] [] (.dat 27 (.lst r)) [] :=
  FX_of (q := ((.dat 27 (.lst r)), [])) (E := env) (m := m + 1) (dec := d4) jn_ok (hct _) mixed Tryd.func22 rfl (Nat.le_of_ble_eq_true rfl) (fun b hb => d4_sim hb) ((order_Sort_eq m a0 a1).trans h)
theorem law12_OrderStable_fx (m : Nat) (hct : ∀ R, CallOK (R := R) Tryd.prog (ct m)) (a0 a1 : List Dt) {r : Bool} (h : law12_OrderStable (m + 1) a0 a1 = some r) : FX Tryd.prog 8 [(.dat 22 (.lst a0)), (.dat 27 (.lst a1))] [] (.dat 4 (.bool r)) [] :=
  FX_of (q := ((.dat 4 (.bool r)), [])) (E := env) (m := m + 1) (dec := d1) jn_ok (hct _) mixed Tryd.func8 rfl (Nat.le_of_ble_eq_true rfl) (fun b hb => d1_sim hb) ((law12_OrderStable_eq m a0 a1).trans h)
theorem order_Top_fx (m : Nat) (hct : ∀ R, CallOK (R := R) Tryd.prog (ct m)) (a0 a1 : List Dt) (a2 : Int) {r : List Dt} (h : order_Top (m + 1) a0 a1 a2 = some r) : FX Tryd.prog 24 [(.dat 22 (.lst a0)), (.dat 27 (.lst a1)), (.dat 3 (.int a2))] [] (.dat 27 (.lst r)) [] :=
  FX_of (q := ((.dat 27 (.lst r)), [])) (E := env) (m := m + 1) (dec := d7) jn_ok (hct _) mixed Tryd.func24 rfl (Nat.le_of_ble_eq_true rfl) (fun b hb => d7_sim hb) ((order_Top_eq m a0 a1 a2).trans h)
theorem ref04_Number_fx (m : Nat) (hct : ∀ R, CallOK (R := R) Tryd.prog (ct m)) (a0 : ByteArray) {r : Int × Bool} (h : ref04_Number (m + 1) a0 = some r) : FX Tryd.prog 89 [(.dat 9 (.str a0))] [] (.tup [(.dat 3 (.int r.1)), (.dat 4 (.bool r.2))]) [] :=
  FX_of (q := ((.tup [(.dat 3 (.int r.1)), (.dat 4 (.bool r.2))]), [])) (E := env) (m := m + 1) (dec := d53) jn_ok (hct _) mixed Tryd.func89 rfl (Nat.le_of_ble_eq_true rfl) (fun b hb => d53_sim hb) ((ref04_Number_eq m a0).trans h)
theorem ref01_at_fx (m : Nat) (hct : ∀ R, CallOK (R := R) Tryd.prog (ct m)) (a0 : Dt) (a1 : ByteArray) {r : Int} (h : ref01_at (m + 1) a0 a1 = some r) : FX Tryd.prog 96 [(.dat 30 a0), (.dat 9 (.str a1))] [] (.dat 3 (.int r)) [] :=
  FX_of (q := ((.dat 3 (.int r)), [])) (E := env) (m := m + 1) (dec := d54) jn_ok (hct _) mixed Tryd.func96 rfl (Nat.le_of_ble_eq_true rfl) (fun b hb => d54_sim hb) ((ref01_at_eq m a0 a1).trans h)
theorem ref01_Get_fx (m : Nat) (hct : ∀ R, CallOK (R := R) Tryd.prog (ct m)) (a0 : Dt) (a1 : ByteArray) {r : Dt × Bool} (h : ref01_Get (m + 1) a0 a1 = some r) : FX Tryd.prog 88 [(.dat 30 a0), (.dat 9 (.str a1))] [] (.tup [(.dat 30 r.1), (.dat 4 (.bool r.2))]) [] :=
  FX_of (q := ((.tup [(.dat 30 r.1), (.dat 4 (.bool r.2))]), [])) (E := env) (m := m + 1) (dec := d52) jn_ok (hct _) mixed Tryd.func88 rfl (Nat.le_of_ble_eq_true rfl) (fun b hb => d52_sim hb) ((ref01_Get_eq m a0 a1).trans h)
theorem ref04_Pass_fx (m : Nat) (hct : ∀ R, CallOK (R := R) Tryd.prog (ct m)) (a0 : Dt) (a1 : List Dt) {r : List Dt} (h : ref04_Pass (m + 1) a0 a1 = some r) : FX Tryd.prog 80 [(.dat 30 a0), (.dat 45 (.lst a1))] [] (.dat 27 (.lst r)) [] :=
  FX_of (q := ((.dat 27 (.lst r)), [])) (E := env) (m := m + 1) (dec := d51) jn_ok (hct _) mixed Tryd.func80 rfl (Nat.le_of_ble_eq_true rfl) (fun b hb => d51_sim hb) ((ref04_Pass_eq m a0 a1).trans h)
theorem ref04_Reach_fx (m : Nat) (hct : ∀ R, CallOK (R := R) Tryd.prog (ct m)) (a0 : Dt) (a1 : List Dt) {r : List Dt} (h : ref04_Reach (m + 1) a0 a1 = some r) : FX Tryd.prog 68 [(.dat 30 a0), (.dat 45 (.lst a1))] [] (.dat 27 (.lst r)) [] :=
  FX_of (q := ((.dat 27 (.lst r)), [])) (E := env) (m := m + 1) (dec := d45) jn_ok (hct _) mixed Tryd.func68 rfl (Nat.le_of_ble_eq_true rfl) (fun b hb => d45_sim hb) ((ref04_Reach_eq m a0 a1).trans h)
theorem ref12_Values_fx (m : Nat) (hct : ∀ R, CallOK (R := R) Tryd.prog (ct m)) (a0 : Dt) (a1 : List Dt) {r : List Dt} (h : ref12_Values (m + 1) a0 a1 = some r) : FX Tryd.prog 52 [(.dat 30 a0), (.dat 45 (.lst a1))] [] (.dat 27 (.lst r)) [] :=
  FX_of (q := ((.dat 27 (.lst r)), [])) (E := env) (m := m + 1) (dec := d35) jn_ok (hct _) mixed Tryd.func52 rfl (Nat.le_of_ble_eq_true rfl) (fun b hb => d35_sim hb) ((ref12_Values_eq m a0 a1).trans h)
theorem ref12_key_fx (m : Nat) (hct : ∀ R, CallOK (R := R) Tryd.prog (ct m)) (a0 a1 : Dt) {r : Dt} (h : ref12_key (m + 1) a0 a1 = some r) : FX Tryd.prog 38 [(.dat 47 a0), (.dat 30 a1)] [] (.dat 30 r) [] :=
  FX_of (q := ((.dat 30 r), [])) (E := env) (m := m + 1) (dec := d27) jn_ok (hct _) mixed Tryd.func38 rfl (Nat.le_of_ble_eq_true rfl) (fun b hb => d27_sim hb) ((ref12_key_eq m a0 a1).trans h)
theorem ref12_Compare_fx (m : Nat) (hct : ∀ R, CallOK (R := R) Tryd.prog (ct m)) (a0 : List Dt) (a1 a2 : Dt) {r : Int} (h : ref12_Compare (m + 1) a0 a1 a2 = some r) : FX Tryd.prog 21 [(.dat 22 (.lst a0)), (.dat 30 a1), (.dat 30 a2)] [] (.dat 3 (.int r)) [] :=
  FX_of (q := ((.dat 3 (.int r)), [])) (E := env) (m := m + 1) (dec := d12) jn_ok (hct _) mixed Tryd.func21 rfl (Nat.le_of_ble_eq_true rfl) (fun b hb => d12_sim hb) ((ref12_Compare_eq m a0 a1 a2).trans h)
theorem ref12_Sort_fx (m : Nat) (hct : ∀ R, CallOK (R := R) Tryd.prog (ct m)) (a0 a1 : List Dt) {r : List Dt} (h : ref12_Sort (m + 1) a0 a1 = some r) : FX Tryd.prog 23 [(.dat 22 (.lst a0)), (.dat 27 (.lst a1))] [] (.dat 27 (.lst r)) [] :=
  FX_of (q := ((.dat 27 (.lst r)), [])) (E := env) (m := m + 1) (dec := d5) jn_ok (hct _) mixed Tryd.func23 rfl (Nat.le_of_ble_eq_true rfl) (fun b hb => d5_sim hb) ((ref12_Sort_eq m a0 a1).trans h)
theorem ref12_Top_fx (m : Nat) (hct : ∀ R, CallOK (R := R) Tryd.prog (ct m)) (a0 a1 : List Dt) (a2 : Int) {r : List Dt} (h : ref12_Top (m + 1) a0 a1 a2 = some r) : FX Tryd.prog 25 [(.dat 22 (.lst a0)), (.dat 27 (.lst a1)), (.dat 3 (.int a2))] [] (.dat 27 (.lst r)) [] :=
  FX_of (q := ((.dat 27 (.lst r)), [])) (E := env) (m := m + 1) (dec := d8) jn_ok (hct _) mixed Tryd.func25 rfl (Nat.le_of_ble_eq_true rfl) (fun b hb => d8_sim hb) ((ref12_Top_eq m a0 a1 a2).trans h)
theorem law12_OrderSort_fx (m : Nat) (hct : ∀ R, CallOK (R := R) Tryd.prog (ct m)) (a0 a1 : List Dt) (a2 : Int) {r : Bool} (h : law12_OrderSort (m + 1) a0 a1 a2 = some r) : FX Tryd.prog 6 [(.dat 22 (.lst a0)), (.dat 27 (.lst a1)), (.dat 3 (.int a2))] [] (.dat 4 (.bool r)) [] :=
  FX_of (q := ((.dat 4 (.bool r)), [])) (E := env) (m := m + 1) (dec := d0) jn_ok (hct _) mixed Tryd.func6 rfl (Nat.le_of_ble_eq_true rfl) (fun b hb => d0_sim hb) ((law12_OrderSort_eq m a0 a1 a2).trans h)
theorem ct6_ok (m : Nat) (hct : ∀ k, k < m → ∀ R, CallOK (R := R) Tryd.prog (ct k)) {R : Type} {args : List AV} {objs : List Ob} {K : Res → Option R} {r : R} (h : ct6 m args objs K = some r) : ∃ q : Res, K q = some r ∧ FX Tryd.prog 6 args objs q.1 q.2 ∧ HasBody Tryd.prog 6 := by
  unfold ct6 at h
  split at h
  · rename_i l hl
    obtain ⟨x, hx, hk⟩ := Option.bind_eq_some_iff.1 h
    obtain ⟨h1, h2⟩ := sel0_ok hl
    cases m with
    | zero => cases hx
    | succ m => exact ⟨_, hk, (law12_OrderSort_fx m (hct m (Nat.lt_succ_self m)) _ _ _ hx).conv h1 h2, ⟨_, Tryd.func6, rfl, by decide⟩⟩
  cases h
theorem ct8_ok (m : Nat) (hct : ∀ k, k < m → ∀ R, CallOK (R := R) Tryd.prog (ct k)) {R : Type} {args : List AV} {objs : List Ob} {K : Res → Option R} {r : R} (h : ct8 m args objs K = some r) : ∃ q : Res, K q = some r ∧ FX Tryd.prog 8 args objs q.1 q.2 ∧ HasBody Tryd.prog 8 := by
  unfold ct8 at h
  split at h
  · rename_i l hl
    obtain ⟨x, hx, hk⟩ := Option.bind_eq_some_iff.1 h
    obtain ⟨h1, h2⟩ := sel1_ok hl
    cases m with
    | zero => cases hx
    | succ m => exact ⟨_, hk, (law12_OrderStable_fx m (hct m (Nat.lt_succ_self m)) _ _ hx).conv h1 h2, ⟨_, Tryd.func8, rfl, by decide⟩⟩
  cases h
theorem ct16_ok (m : Nat) (hct : ∀ k, k < m → ∀ R, CallOK (R := R) Tryd.prog (ct k)) {R : Type} {args : List AV} {objs : List Ob} {K : Res → Option R} {r : R} (h : ct16 m args objs K = some r) : ∃ q : Res, K q = some r ∧ FX Tryd.prog 16 args objs q.1 q.2 ∧ HasBody Tryd.prog 16 := by
  unfold ct16 at h
  split at h
  · rename_i l hl
    obtain ⟨x, hx, hk⟩ := Option.bind_eq_some_iff.1 h
    obtain ⟨h1, h2⟩ := sel2_ok hl
    cases m with
    | zero => cases hx
    | succ m => exact ⟨_, hk, (law12_Small_fx m (hct m (Nat.lt_succ_self m)) _ _ hx).conv h1 h2, ⟨_, Tryd.func16, rfl, by decide⟩⟩
  cases h
theorem ct12_ok (m : Nat) (hct : ∀ k, k < m → ∀ R, CallOK (R := R) Tryd.prog (ct k)) {R : Type} {args : List AV} {objs : List Ob} {K : Res → Option R} {r : R} (h : ct12 m args objs K = some r) : ∃ q : Res, K q = some r ∧ FX Tryd.prog 12 args objs q.1 q.2 ∧ HasBody Tryd.prog 12 := by
  unfold ct12 at h
  split at h
  · rename_i l hl
    obtain ⟨x, hx, hk⟩ := Option.bind_eq_some_iff.1 h
    obtain ⟨h1, h2⟩ := sel3_ok hl
    exact ⟨_, hk, (awakeC_fx hx).conv h1 h2, ⟨_, Tryd.func12, rfl, by decide⟩⟩
  cases h
theorem ct22_ok (m : Nat) (hct : ∀ k, k < m → ∀ R, CallOK (R := R) Tryd.prog (ct k)) {R : Type} {args : List AV} {objs : List Ob} {K : Res → Option R} {r : R} (h : ct22 m args objs K = some r) : ∃ q : Res, K q = some r ∧ FX Tryd.prog 22 args objs q.1 q.2 ∧ HasBody Tryd.prog 22 := by
  unfold ct22 at h
  split at h
  · rename_i l hl
    obtain ⟨x, hx, hk⟩ := Option.bind_eq_some_iff.1 h
    obtain ⟨h1, h2⟩ := sel4_ok hl
    cases m with
    | zero => cases hx
    | succ m => exact ⟨_, hk, (order_Sort_fx m (hct m (Nat.lt_succ_self m)) _ _ hx).conv h1 h2, ⟨_, Tryd.func22, rfl, by decide⟩⟩
  cases h
theorem ct23_ok (m : Nat) (hct : ∀ k, k < m → ∀ R, CallOK (R := R) Tryd.prog (ct k)) {R : Type} {args : List AV} {objs : List Ob} {K : Res → Option R} {r : R} (h : ct23 m args objs K = some r) : ∃ q : Res, K q = some r ∧ FX Tryd.prog 23 args objs q.1 q.2 ∧ HasBody Tryd.prog 23 := by
  unfold ct23 at h
  split at h
  · rename_i l hl
    obtain ⟨x, hx, hk⟩ := Option.bind_eq_some_iff.1 h
    obtain ⟨h1, h2⟩ := sel5_ok hl
    cases m with
    | zero => cases hx
    | succ m => exact ⟨_, hk, (ref12_Sort_fx m (hct m (Nat.lt_succ_self m)) _ _ hx).conv h1 h2, ⟨_, Tryd.func23, rfl, by decide⟩⟩
  cases h
theorem ct17_ok (m : Nat) (hct : ∀ k, k < m → ∀ R, CallOK (R := R) Tryd.prog (ct k)) {R : Type} {args : List AV} {objs : List Ob} {K : Res → Option R} {r : R} (h : ct17 m args objs K = some r) : ∃ q : Res, K q = some r ∧ FX Tryd.prog 17 args objs q.1 q.2 ∧ HasBody Tryd.prog 17 := by
  unfold ct17 at h
  split at h
  · rename_i l hl
    obtain ⟨x, hx, hk⟩ := Option.bind_eq_some_iff.1 h
    obtain ⟨h1, h2⟩ := sel6_ok hl
    cases m with
    | zero => cases hx
    | succ m => exact ⟨_, hk, (law03_SameList_fx m (hct m (Nat.lt_succ_self m)) _ _ hx).conv h1 h2, ⟨_, Tryd.func17, rfl, by decide⟩⟩
  cases h
theorem ct24_ok (m : Nat) (hct : ∀ k, k < m → ∀ R, CallOK (R := R) Tryd.prog (ct k)) {R : Type} {args : List AV} {objs : List Ob} {K : Res → Option R} {r : R} (h : ct24 m args objs K = some r) : ∃ q : Res, K q = some r ∧ FX Tryd.prog 24 args objs q.1 q.2 ∧ HasBody Tryd.prog 24 := by
  unfold ct24 at h
  split at h
  · rename_i l hl
    obtain ⟨x, hx, hk⟩ := Option.bind_eq_some_iff.1 h
    obtain ⟨h1, h2⟩ := sel7_ok hl
    cases m with
    | zero => cases hx
    | succ m => exact ⟨_, hk, (order_Top_fx m (hct m (Nat.lt_succ_self m)) _ _ _ hx).conv h1 h2, ⟨_, Tryd.func24, rfl, by decide⟩⟩
  cases h
theorem ct25_ok (m : Nat) (hct : ∀ k, k < m → ∀ R, CallOK (R := R) Tryd.prog (ct k)) {R : Type} {args : List AV} {objs : List Ob} {K : Res → Option R} {r : R} (h : ct25 m args objs K = some r) : ∃ q : Res, K q = some r ∧ FX Tryd.prog 25 args objs q.1 q.2 ∧ HasBody Tryd.prog 25 := by
  unfold ct25 at h
  split at h
  · rename_i l hl
    obtain ⟨x, hx, hk⟩ := Option.bind_eq_some_iff.1 h
    obtain ⟨h1, h2⟩ := sel8_ok hl
    cases m with
    | zero => cases hx
    | succ m => exact ⟨_, hk, (ref12_Top_fx m (hct m (Nat.lt_succ_self m)) _ _ _ hx).conv h1 h2, ⟨_, Tryd.func25, rfl, by decide⟩⟩
  cases h
theorem ct20_ok (m : Nat) (hct : ∀ k, k < m → ∀ R, CallOK (R := R) Tryd.prog (ct k)) {R : Type} {args : List AV} {objs : List Ob} {K : Res → Option R} {r : R} (h : ct20 m args objs K = some r) : ∃ q : Res, K q = some r ∧ FX Tryd.prog 20 args objs q.1 q.2 ∧ HasBody Tryd.prog 20 := by
  unfold ct20 at h
  split at h
  · rename_i l hl
    obtain ⟨x, hx, hk⟩ := Option.bind_eq_some_iff.1 h
    obtain ⟨h1, h2⟩ := sel9_ok hl
    cases m with
    | zero => cases hx
    | succ m => exact ⟨_, hk, (order_Compare_fx m (hct m (Nat.lt_succ_self m)) _ _ _ hx).conv h1 h2, ⟨_, Tryd.func20, rfl, by decide⟩⟩
  cases h
theorem ct36_ok (m : Nat) (hct : ∀ k, k < m → ∀ R, CallOK (R := R) Tryd.prog (ct k)) {R : Type} {args : List AV} {objs : List Ob} {K : Res → Option R} {r : R} (h : ct36 m args objs K = some r) : ∃ q : Res, K q = some r ∧ FX Tryd.prog 36 args objs q.1 q.2 ∧ HasBody Tryd.prog 36 := by
  unfold ct36 at h
  split at h
  · rename_i l hl
    obtain ⟨x, hx, hk⟩ := Option.bind_eq_some_iff.1 h
    obtain ⟨h1, h2⟩ := sel10_ok hl
    cases m with
    | zero => cases hx
    | succ m => exact ⟨_, hk, (ref01_Valid_fx m (hct m (Nat.lt_succ_self m)) _ hx).conv h1 h2, ⟨_, Tryd.func36, rfl, by decide⟩⟩
  cases h
theorem ct41_ok (m : Nat) (hct : ∀ k, k < m → ∀ R, CallOK (R := R) Tryd.prog (ct k)) {R : Type} {args : List AV} {objs : List Ob} {K : Res → Option R} {r : R} (h : ct41 m args objs K = some r) : ∃ q : Res, K q = some r ∧ FX Tryd.prog 41 args objs q.1 q.2 ∧ HasBody Tryd.prog 41 := by
  unfold ct41 at h
  split at h
  · rename_i l hl
    obtain ⟨x, hx, hk⟩ := Option.bind_eq_some_iff.1 h
    obtain ⟨h1, h2⟩ := sel11_ok hl
    cases m with
    | zero => cases hx
    | succ m => exact ⟨_, hk, (order_first_fx m (hct m (Nat.lt_succ_self m)) _ _ _ hx).conv h1 h2, ⟨_, Tryd.func41, rfl, by decide⟩⟩
  cases h
theorem ct21_ok (m : Nat) (hct : ∀ k, k < m → ∀ R, CallOK (R := R) Tryd.prog (ct k)) {R : Type} {args : List AV} {objs : List Ob} {K : Res → Option R} {r : R} (h : ct21 m args objs K = some r) : ∃ q : Res, K q = some r ∧ FX Tryd.prog 21 args objs q.1 q.2 ∧ HasBody Tryd.prog 21 := by
  unfold ct21 at h
  split at h
  · rename_i l hl
    obtain ⟨x, hx, hk⟩ := Option.bind_eq_some_iff.1 h
    obtain ⟨h1, h2⟩ := sel12_ok hl
    cases m with
    | zero => cases hx
    | succ m => exact ⟨_, hk, (ref12_Compare_fx m (hct m (Nat.lt_succ_self m)) _ _ _ hx).conv h1 h2, ⟨_, Tryd.func21, rfl, by decide⟩⟩
  cases h
theorem ct33_ok (m : Nat) (hct : ∀ k, k < m → ∀ R, CallOK (R := R) Tryd.prog (ct k)) {R : Type} {args : List AV} {objs : List Ob} {K : Res → Option R} {r : R} (h : ct33 m args objs K = some r) : ∃ q : Res, K q = some r ∧ FX Tryd.prog 33 args objs q.1 q.2 ∧ HasBody Tryd.prog 33 := by
  unfold ct33 at h
  split at h
  · rename_i l hl
    obtain ⟨x, hx, hk⟩ := Option.bind_eq_some_iff.1 h
    obtain ⟨h1, h2⟩ := sel13_ok hl
    cases m with
    | zero => cases hx
    | succ m => exact ⟨_, hk, (law03_Same_fx m (hct m (Nat.lt_succ_self m)) _ _ hx).conv h1 h2, ⟨_, Tryd.func33, rfl, by decide⟩⟩
  cases h
theorem ct18_ok (m : Nat) (hct : ∀ k, k < m → ∀ R, CallOK (R := R) Tryd.prog (ct k)) {R : Type} {args : List AV} {objs : List Ob} {K : Res → Option R} {r : R} (h : ct18 m args objs K = some r) : ∃ q : Res, K q = some r ∧ FX Tryd.prog 18 args objs q.1 q.2 ∧ HasBody Tryd.prog 18 := by
  unfold ct18 at h
  split at h
  · rename_i l hl
    obtain ⟨x, hx, hk⟩ := Option.bind_eq_some_iff.1 h
    obtain ⟨h1, h2⟩ := sel14_ok hl
    cases m with
    | zero => cases hx
    | succ m => exact ⟨_, hk, (order_Keys_fx m (hct m (Nat.lt_succ_self m)) _ _ hx).conv h1 h2, ⟨_, Tryd.func18, rfl, by decide⟩⟩
  cases h
theorem ct39_ok (m : Nat) (hct : ∀ k, k < m → ∀ R, CallOK (R := R) Tryd.prog (ct k)) {R : Type} {args : List AV} {objs : List Ob} {K : Res → Option R} {r : R} (h : ct39 m args objs K = some r) : ∃ q : Res, K q = some r ∧ FX Tryd.prog 39 args objs q.1 q.2 ∧ HasBody Tryd.prog 39 := by
  unfold ct39 at h
  split at h
  · rename_i l hl
    obtain ⟨x, hx, hk⟩ := Option.bind_eq_some_iff.1 h
    obtain ⟨h1, h2⟩ := sel15_ok hl
    cases m with
    | zero => cases hx
    | succ m => exact ⟨_, hk, (order_compare_fx m (hct m (Nat.lt_succ_self m)) _ _ _ hx).conv h1 h2, ⟨_, Tryd.func39, rfl, by decide⟩⟩
  cases h
theorem ct47_ok (m : Nat) (hct : ∀ k, k < m → ∀ R, CallOK (R := R) Tryd.prog (ct k)) {R : Type} {args : List AV} {objs : List Ob} {K : Res → Option R} {r : R} (h : ct47 m args objs K = some r) : ∃ q : Res, K q = some r ∧ FX Tryd.prog 47 args objs q.1 q.2 ∧ HasBody Tryd.prog 47 := by
  unfold ct47 at h
  split at h
  · rename_i l hl
    obtain ⟨x, hx, hk⟩ := Option.bind_eq_some_iff.1 h
    obtain ⟨h1, h2⟩ := sel16_ok hl
    cases m with
    | zero => cases hx
    | succ m => exact ⟨_, hk, (ref01_Depth_fx m (hct m (Nat.lt_succ_self m)) _ hx).conv h1 h2, ⟨_, Tryd.func47, rfl, by decide⟩⟩
  cases h
theorem ct48_ok (m : Nat) (hct : ∀ k, k < m → ∀ R, CallOK (R := R) Tryd.prog (ct k)) {R : Type} {args : List AV} {objs : List Ob} {K : Res → Option R} {r : R} (h : ct48 m args objs K = some r) : ∃ q : Res, K q = some r ∧ FX Tryd.prog 48 args objs q.1 q.2 ∧ HasBody Tryd.prog 48 := by
  unfold ct48 at h
  split at h
  · rename_i l hl
    obtain ⟨x, hx, hk⟩ := Option.bind_eq_some_iff.1 h
    obtain ⟨h1, h2⟩ := sel17_ok hl
    cases m with
    | zero => cases hx
    | succ m => exact ⟨_, hk, (ref01_Nodes_fx m (hct m (Nat.lt_succ_self m)) _ hx).conv h1 h2, ⟨_, Tryd.func48, rfl, by decide⟩⟩
  cases h
theorem ct49_ok (m : Nat) (hct : ∀ k, k < m → ∀ R, CallOK (R := R) Tryd.prog (ct k)) {R : Type} {args : List AV} {objs : List Ob} {K : Res → Option R} {r : R} (h : ct49 m args objs K = some r) : ∃ q : Res, K q = some r ∧ FX Tryd.prog 49 args objs q.1 q.2 ∧ HasBody Tryd.prog 49 := by
  unfold ct49 at h
  split at h
  · rename_i l hl
    obtain ⟨x, hx, hk⟩ := Option.bind_eq_some_iff.1 h
    obtain ⟨h1, h2⟩ := sel18_ok hl
    cases m with
    | zero => cases hx
    | succ m => exact ⟨_, hk, (ref01_formed_fx m (hct m (Nat.lt_succ_self m)) _ _ hx).conv h1 h2, ⟨_, Tryd.func49, rfl, by decide⟩⟩
  cases h
theorem ct55_ok (m : Nat) (hct : ∀ k, k < m → ∀ R, CallOK (R := R) Tryd.prog (ct k)) {R : Type} {args : List AV} {objs : List Ob} {K : Res → Option R} {r : R} (h : ct55 m args objs K = some r) : ∃ q : Res, K q = some r ∧ FX Tryd.prog 55 args objs q.1 q.2 ∧ HasBody Tryd.prog 55 := by
  unfold ct55 at h
  split at h
  · rename_i l hl
    obtain ⟨x, hx, hk⟩ := Option.bind_eq_some_iff.1 h
    obtain ⟨h1, h2⟩ := sel19_ok hl
    cases m with
    | zero => cases hx
    | succ m => exact ⟨_, hk, (i19_fx m (hct m (Nat.lt_succ_self m)) _ _ hx).conv h1 h2, ⟨_, Tryd.func55, rfl, by decide⟩⟩
  cases h
theorem ct69_ok (m : Nat) (hct : ∀ k, k < m → ∀ R, CallOK (R := R) Tryd.prog (ct k)) {R : Type} {args : List AV} {objs : List Ob} {K : Res → Option R} {r : R} (h : ct69 m args objs K = some r) : ∃ q : Res, K q = some r ∧ FX Tryd.prog 69 args objs q.1 q.2 ∧ HasBody Tryd.prog 69 := by
  unfold ct69 at h
  split at h
  · rename_i l hl
    obtain ⟨x, hx, hk⟩ := Option.bind_eq_some_iff.1 h
    obtain ⟨h1, h2⟩ := sel20_ok hl
    cases m with
    | zero => cases hx
    | succ m => exact ⟨_, hk, (i20_fx m (hct m (Nat.lt_succ_self m)) _ _ _ hx).conv h1 h2, ⟨_, Tryd.func69, rfl, by decide⟩⟩
  cases h
theorem ct81_ok (m : Nat) (hct : ∀ k, k < m → ∀ R, CallOK (R := R) Tryd.prog (ct k)) {R : Type} {args : List AV} {objs : List Ob} {K : Res → Option R} {r : R} (h : ct81 m args objs K = some r) : ∃ q : Res, K q = some r ∧ FX Tryd.prog 81 args objs q.1 q.2 ∧ HasBody Tryd.prog 81 := by
  unfold ct81 at h
  split at h
  · rename_i l hl
    obtain ⟨x, hx, hk⟩ := Option.bind_eq_some_iff.1 h
    obtain ⟨h1, h2⟩ := sel21_ok hl
    cases m with
    | zero => cases hx
    | succ m => exact ⟨_, hk, (i21_fx m (hct m (Nat.lt_succ_self m)) _ _ _ _ hx).conv h1 h2, ⟨_, Tryd.func81, rfl, by decide⟩⟩
  cases h
theorem ct56_ok (m : Nat) (hct : ∀ k, k < m → ∀ R, CallOK (R := R) Tryd.prog (ct k)) {R : Type} {args : List AV} {objs : List Ob} {K : Res → Option R} {r : R} (h : ct56 m args objs K = some r) : ∃ q : Res, K q = some r ∧ FX Tryd.prog 56 args objs q.1 q.2 ∧ HasBody Tryd.prog 56 := by
  unfold ct56 at h
  split at h
  · rename_i l hl
    obtain ⟨x, hx, hk⟩ := Option.bind_eq_some_iff.1 h
    obtain ⟨h1, h2⟩ := sel22_ok hl
    cases m with
    | zero => cases hx
    | succ m => exact ⟨_, hk, (i22_fx m (hct m (Nat.lt_succ_self m)) _ _ _ hx).conv h1 h2, ⟨_, Tryd.func56, rfl, by decide⟩⟩
  cases h
theorem ct82_ok (m : Nat) (hct : ∀ k, k < m → ∀ R, CallOK (R := R) Tryd.prog (ct k)) {R : Type} {args : List AV} {objs : List Ob} {K : Res → Option R} {r : R} (h : ct82 m args objs K = some r) : ∃ q : Res, K q = some r ∧ FX Tryd.prog 82 args objs q.1 q.2 ∧ HasBody Tryd.prog 82 := by
  unfold ct82 at h
  split at h
  · rename_i l hl
    obtain ⟨x, hx, hk⟩ := Option.bind_eq_some_iff.1 h
    obtain ⟨h1, h2⟩ := sel23_ok hl
    cases m with
    | zero => cases hx
    | succ m => exact ⟨_, hk, (i23_fx m (hct m (Nat.lt_succ_self m)) _ _ _ _ _ hx).conv h1 h2, ⟨_, Tryd.func82, rfl, by decide⟩⟩
  cases h
theorem ct90_ok (m : Nat) (hct : ∀ k, k < m → ∀ R, CallOK (R := R) Tryd.prog (ct k)) {R : Type} {args : List AV} {objs : List Ob} {K : Res → Option R} {r : R} (h : ct90 m args objs K = some r) : ∃ q : Res, K q = some r ∧ FX Tryd.prog 90 args objs q.1 q.2 ∧ HasBody Tryd.prog 90 := by
  unfold ct90 at h
  split at h
  · rename_i l hl
    obtain ⟨x, hx, hk⟩ := Option.bind_eq_some_iff.1 h
    obtain ⟨h1, h2⟩ := sel24_ok hl
    cases m with
    | zero => cases hx
    | succ m => exact ⟨_, hk, (i24_fx m (hct m (Nat.lt_succ_self m)) _ _ _ _ _ hx).conv h1 h2, ⟨_, Tryd.func90, rfl, by decide⟩⟩
  cases h
theorem ct97_ok (m : Nat) (hct : ∀ k, k < m → ∀ R, CallOK (R := R) Tryd.prog (ct k)) {R : Type} {args : List AV} {objs : List Ob} {K : Res → Option R} {r : R} (h : ct97 m args objs K = some r) : ∃ q : Res, K q = some r ∧ FX Tryd.prog 97 args objs q.1 q.2 ∧ HasBody Tryd.prog 97 := by
  unfold ct97 at h
  split at h
  · rename_i l hl
    obtain ⟨x, hx, hk⟩ := Option.bind_eq_some_iff.1 h
    obtain ⟨h1, h2⟩ := sel25_ok hl
    cases m with
    | zero => cases hx
    | succ m => exact ⟨_, hk, (i25_fx m (hct m (Nat.lt_succ_self m)) _ _ _ _ _ hx).conv h1 h2, ⟨_, Tryd.func97, rfl, by decide⟩⟩
  cases h
theorem ct57_ok (m : Nat) (hct : ∀ k, k < m → ∀ R, CallOK (R := R) Tryd.prog (ct k)) {R : Type} {args : List AV} {objs : List Ob} {K : Res → Option R} {r : R} (h : ct57 m args objs K = some r) : ∃ q : Res, K q = some r ∧ FX Tryd.prog 57 args objs q.1 q.2 ∧ HasBody Tryd.prog 57 := by
  unfold ct57 at h
  split at h
  · rename_i l hl
    obtain ⟨x, hx, hk⟩ := Option.bind_eq_some_iff.1 h
    obtain ⟨h1, h2⟩ := sel26_ok hl
    cases m with
    | zero => cases hx
    | succ m => exact ⟨_, hk, (order_clone_fx m (hct m (Nat.lt_succ_self m)) _ hx).conv h1 h2, ⟨_, Tryd.func57, rfl, by decide⟩⟩
  cases h
theorem ct38_ok (m : Nat) (hct : ∀ k, k < m → ∀ R, CallOK (R := R) Tryd.prog (ct k)) {R : Type} {args : List AV} {objs : List Ob} {K : Res → Option R} {r : R} (h : ct38 m args objs K = some r) : ∃ q : Res, K q = some r ∧ FX Tryd.prog 38 args objs q.1 q.2 ∧ HasBody Tryd.prog 38 := by
  unfold ct38 at h
  split at h
  · rename_i l hl
    obtain ⟨x, hx, hk⟩ := Option.bind_eq_some_iff.1 h
    obtain ⟨h1, h2⟩ := sel27_ok hl
    cases m with
    | zero => cases hx
    | succ m => exact ⟨_, hk, (ref12_key_fx m (hct m (Nat.lt_succ_self m)) _ _ hx).conv h1 h2, ⟨_, Tryd.func38, rfl, by decide⟩⟩
  cases h
theorem ct40_ok (m : Nat) (hct : ∀ k, k < m → ∀ R, CallOK (R := R) Tryd.prog (ct k)) {R : Type} {args : List AV} {objs : List Ob} {K : Res → Option R} {r : R} (h : ct40 m args objs K = some r) : ∃ q : Res, K q = some r ∧ FX Tryd.prog 40 args objs q.1 q.2 ∧ HasBody Tryd.prog 40 := by
  unfold ct40 at h
  split at h
  · rename_i l hl
    obtain ⟨x, hx, hk⟩ := Option.bind_eq_some_iff.1 h
    obtain ⟨h1, h2⟩ := sel28_ok hl
    cases m with
    | zero => cases hx
    | succ m => exact ⟨_, hk, (ref01_Compare_fx m (hct m (Nat.lt_succ_self m)) _ _ hx).conv h1 h2, ⟨_, Tryd.func40, rfl, by decide⟩⟩
  cases h
theorem ct37_ok (m : Nat) (hct : ∀ k, k < m → ∀ R, CallOK (R := R) Tryd.prog (ct k)) {R : Type} {args : List AV} {objs : List Ob} {K : Res → Option R} {r : R} (h : ct37 m args objs K = some r) : ∃ q : Res, K q = some r ∧ FX Tryd.prog 37 args objs q.1 q.2 ∧ HasBody Tryd.prog 37 := by
  unfold ct37 at h
  split at h
  · rename_i l hl
    obtain ⟨x, hx, hk⟩ := Option.bind_eq_some_iff.1 h
    obtain ⟨h1, h2⟩ := sel29_ok hl
    cases m with
    | zero => cases hx
    | succ m => exact ⟨_, hk, (order_key_fx m (hct m (Nat.lt_succ_self m)) _ _ hx).conv h1 h2, ⟨_, Tryd.func37, rfl, by decide⟩⟩
  cases h
theorem ct51_ok (m : Nat) (hct : ∀ k, k < m → ∀ R, CallOK (R := R) Tryd.prog (ct k)) {R : Type} {args : List AV} {objs : List Ob} {K : Res → Option R} {r : R} (h : ct51 m args objs K = some r) : ∃ q : Res, K q = some r ∧ FX Tryd.prog 51 args objs q.1 q.2 ∧ HasBody Tryd.prog 51 := by
  unfold ct51 at h
  split at h
  · rename_i l hl
    obtain ⟨x, hx, hk⟩ := Option.bind_eq_some_iff.1 h
    obtain ⟨h1, h2⟩ := sel30_ok hl
    cases m with
    | zero => cases hx
    | succ m => exact ⟨_, hk, (value_Compare_fx m (hct m (Nat.lt_succ_self m)) _ _ hx).conv h1 h2, ⟨_, Tryd.func51, rfl, by decide⟩⟩
  cases h
theorem ct60_ok (m : Nat) (hct : ∀ k, k < m → ∀ R, CallOK (R := R) Tryd.prog (ct k)) {R : Type} {args : List AV} {objs : List Ob} {K : Res → Option R} {r : R} (h : ct60 m args objs K = some r) : ∃ q : Res, K q = some r ∧ FX Tryd.prog 60 args objs q.1 q.2 ∧ HasBody Tryd.prog 60 := by
  unfold ct60 at h
  split at h
  · rename_i l hl
    obtain ⟨x, hx, hk⟩ := Option.bind_eq_some_iff.1 h
    obtain ⟨h1, h2⟩ := sel31_ok hl
    cases m with
    | zero => cases hx
    | succ m => exact ⟨_, hk, (ref01_levels_fx m (hct m (Nat.lt_succ_self m)) _ _ hx).conv h1 h2, ⟨_, Tryd.func60, rfl, by decide⟩⟩
  cases h
theorem ct61_ok (m : Nat) (hct : ∀ k, k < m → ∀ R, CallOK (R := R) Tryd.prog (ct k)) {R : Type} {args : List AV} {objs : List Ob} {K : Res → Option R} {r : R} (h : ct61 m args objs K = some r) : ∃ q : Res, K q = some r ∧ FX Tryd.prog 61 args objs q.1 q.2 ∧ HasBody Tryd.prog 61 := by
  unfold ct61 at h
  split at h
  · rename_i l hl
    obtain ⟨x, hx, hk⟩ := Option.bind_eq_some_iff.1 h
    obtain ⟨h1, h2⟩ := sel32_ok hl
    cases m with
    | zero => cases hx
    | succ m => exact ⟨_, hk, (ref01_count_fx m (hct m (Nat.lt_succ_self m)) _ _ hx).conv h1 h2, ⟨_, Tryd.func61, rfl, by decide⟩⟩
  cases h
theorem ct62_ok (m : Nat) (hct : ∀ k, k < m → ∀ R, CallOK (R := R) Tryd.prog (ct k)) {R : Type} {args : List AV} {objs : List Ob} {K : Res → Option R} {r : R} (h : ct62 m args objs K = some r) : ∃ q : Res, K q = some r ∧ FX Tryd.prog 62 args objs q.1 q.2 ∧ HasBody Tryd.prog 62 := by
  unfold ct62 at h
  split at h
  · rename_i l hl
    obtain ⟨x, hx, hk⟩ := Option.bind_eq_some_iff.1 h
    obtain ⟨h1, h2⟩ := sel33_ok hl
    cases m with
    | zero => cases hx
    | succ m => exact ⟨_, hk, (ref01_UTF8_fx m (hct m (Nat.lt_succ_self m)) _ hx).conv h1 h2, ⟨_, Tryd.func62, rfl, by decide⟩⟩
  cases h
theorem ct63_ok (m : Nat) (hct : ∀ k, k < m → ∀ R, CallOK (R := R) Tryd.prog (ct k)) {R : Type} {args : List AV} {objs : List Ob} {K : Res → Option R} {r : R} (h : ct63 m args objs K = some r) : ∃ q : Res, K q = some r ∧ FX Tryd.prog 63 args objs q.1 q.2 ∧ HasBody Tryd.prog 63 := by
  unfold ct63 at h
  split at h
  · rename_i l hl
    obtain ⟨x, hx, hk⟩ := Option.bind_eq_some_iff.1 h
    obtain ⟨h1, h2⟩ := sel34_ok hl
    cases m with
    | zero => cases hx
    | succ m => exact ⟨_, hk, (ref01_fields_fx m (hct m (Nat.lt_succ_self m)) _ _ hx).conv h1 h2, ⟨_, Tryd.func63, rfl, by decide⟩⟩
  cases h
theorem ct52_ok (m : Nat) (hct : ∀ k, k < m → ∀ R, CallOK (R := R) Tryd.prog (ct k)) {R : Type} {args : List AV} {objs : List Ob} {K : Res → Option R} {r : R} (h : ct52 m args objs K = some r) : ∃ q : Res, K q = some r ∧ FX Tryd.prog 52 args objs q.1 q.2 ∧ HasBody Tryd.prog 52 := by
  unfold ct52 at h
  split at h
  · rename_i l hl
    obtain ⟨x, hx, hk⟩ := Option.bind_eq_some_iff.1 h
    obtain ⟨h1, h2⟩ := sel35_ok hl
    cases m with
    | zero => cases hx
    | succ m => exact ⟨_, hk, (ref12_Values_fx m (hct m (Nat.lt_succ_self m)) _ _ hx).conv h1 h2, ⟨_, Tryd.func52, rfl, by decide⟩⟩
  cases h
theorem ct53_ok (m : Nat) (hct : ∀ k, k < m → ∀ R, CallOK (R := R) Tryd.prog (ct k)) {R : Type} {args : List AV} {objs : List Ob} {K : Res → Option R} {r : R} (h : ct53 m args objs K = some r) : ∃ q : Res, K q = some r ∧ FX Tryd.prog 53 args objs q.1 q.2 ∧ HasBody Tryd.prog 53 := by
  unfold ct53 at h
  split at h
  · rename_i l hl
    obtain ⟨x, hx, hk⟩ := Option.bind_eq_some_iff.1 h
    obtain ⟨h1, h2⟩ := sel36_ok hl
    cases m with
    | zero => cases hx
    | succ m => exact ⟨_, hk, (ref01_Ints_fx m (hct m (Nat.lt_succ_self m)) _ _ hx).conv h1 h2, ⟨_, Tryd.func53, rfl, by decide⟩⟩
  cases h
theorem ct54_ok (m : Nat) (hct : ∀ k, k < m → ∀ R, CallOK (R := R) Tryd.prog (ct k)) {R : Type} {args : List AV} {objs : List Ob} {K : Res → Option R} {r : R} (h : ct54 m args objs K = some r) : ∃ q : Res, K q = some r ∧ FX Tryd.prog 54 args objs q.1 q.2 ∧ HasBody Tryd.prog 54 := by
  unfold ct54 at h
  split at h
  · rename_i l hl
    obtain ⟨x, hx, hk⟩ := Option.bind_eq_some_iff.1 h
    obtain ⟨h1, h2⟩ := sel37_ok hl
    cases m with
    | zero => cases hx
    | succ m => exact ⟨_, hk, (ref01_Texts_fx m (hct m (Nat.lt_succ_self m)) _ _ hx).conv h1 h2, ⟨_, Tryd.func54, rfl, by decide⟩⟩
  cases h
theorem ct50_ok (m : Nat) (hct : ∀ k, k < m → ∀ R, CallOK (R := R) Tryd.prog (ct k)) {R : Type} {args : List AV} {objs : List Ob} {K : Res → Option R} {r : R} (h : ct50 m args objs K = some r) : ∃ q : Res, K q = some r ∧ FX Tryd.prog 50 args objs q.1 q.2 ∧ HasBody Tryd.prog 50 := by
  unfold ct50 at h
  split at h
  · rename_i l hl
    obtain ⟨x, hx, hk⟩ := Option.bind_eq_some_iff.1 h
    obtain ⟨h1, h2⟩ := sel38_ok hl
    cases m with
    | zero => cases hx
    | succ m => exact ⟨_, hk, (path_Reach_fx m (hct m (Nat.lt_succ_self m)) _ _ hx).conv h1 h2, ⟨_, Tryd.func50, rfl, by decide⟩⟩
  cases h
theorem ct66_ok (m : Nat) (hct : ∀ k, k < m → ∀ R, CallOK (R := R) Tryd.prog (ct k)) {R : Type} {args : List AV} {objs : List Ob} {K : Res → Option R} {r : R} (h : ct66 m args objs K = some r) : ∃ q : Res, K q = some r ∧ FX Tryd.prog 66 args objs q.1 q.2 ∧ HasBody Tryd.prog 66 := by
  unfold ct66 at h
  split at h
  · rename_i l hl
    obtain ⟨x, hx, hk⟩ := Option.bind_eq_some_iff.1 h
    obtain ⟨h1, h2⟩ := sel39_ok hl
    cases m with
    | zero => cases hx
    | succ m => exact ⟨_, hk, (cmp_Compare_fx m (hct m (Nat.lt_succ_self m)) _ _ hx).conv h1 h2, ⟨_, Tryd.func66, rfl, by decide⟩⟩
  cases h
theorem ct67_ok (m : Nat) (hct : ∀ k, k < m → ∀ R, CallOK (R := R) Tryd.prog (ct k)) {R : Type} {args : List AV} {objs : List Ob} {K : Res → Option R} {r : R} (h : ct67 m args objs K = some r) : ∃ q : Res, K q = some r ∧ FX Tryd.prog 67 args objs q.1 q.2 ∧ HasBody Tryd.prog 67 := by
  unfold ct67 at h
  split at h
  · rename_i l hl
    obtain ⟨x, hx, hk⟩ := Option.bind_eq_some_iff.1 h
    obtain ⟨h1, h2⟩ := sel40_ok hl
    exact ⟨_, hk, (Compare_fx hx).conv h1 h2, ⟨_, Tryd.func67, rfl, by decide⟩⟩
  cases h
theorem ct73_ok (m : Nat) (hct : ∀ k, k < m → ∀ R, CallOK (R := R) Tryd.prog (ct k)) {R : Type} {args : List AV} {objs : List Ob} {K : Res → Option R} {r : R} (h : ct73 m args objs K = some r) : ∃ q : Res, K q = some r ∧ FX Tryd.prog 73 args objs q.1 q.2 ∧ HasBody Tryd.prog 73 := by
  unfold ct73 at h
  split at h
  · rename_i l hl
    obtain ⟨x, hx, hk⟩ := Option.bind_eq_some_iff.1 h
    obtain ⟨h1, h2⟩ := sel41_ok hl
    cases m with
    | zero => cases hx
    | succ m => exact ⟨_, hk, (ref01_Parts_fx m (hct m (Nat.lt_succ_self m)) _ hx).conv h1 h2, ⟨_, Tryd.func73, rfl, by decide⟩⟩
  cases h
theorem ct74_ok (m : Nat) (hct : ∀ k, k < m → ∀ R, CallOK (R := R) Tryd.prog (ct k)) {R : Type} {args : List AV} {objs : List Ob} {K : Res → Option R} {r : R} (h : ct74 m args objs K = some r) : ∃ q : Res, K q = some r ∧ FX Tryd.prog 74 args objs q.1 q.2 ∧ HasBody Tryd.prog 74 := by
  unfold ct74 at h
  split at h
  · rename_i l hl
    obtain ⟨x, hx, hk⟩ := Option.bind_eq_some_iff.1 h
    obtain ⟨h1, h2⟩ := sel42_ok hl
    cases m with
    | zero => cases hx
    | succ m => exact ⟨_, hk, (ref01_tail_fx m (hct m (Nat.lt_succ_self m)) _ _ _ hx).conv h1 h2, ⟨_, Tryd.func74, rfl, by decide⟩⟩
  cases h
theorem ct44_ok (m : Nat) (hct : ∀ k, k < m → ∀ R, CallOK (R := R) Tryd.prog (ct k)) {R : Type} {args : List AV} {objs : List Ob} {K : Res → Option R} {r : R} (h : ct44 m args objs K = some r) : ∃ q : Res, K q = some r ∧ FX Tryd.prog 44 args objs q.1 q.2 ∧ HasBody Tryd.prog 44 := by
  unfold ct44 at h
  split at h
  · rename_i l hl
    obtain ⟨x, hx, hk⟩ := Option.bind_eq_some_iff.1 h
    obtain ⟨h1, h2⟩ := sel43_ok hl
    cases m with
    | zero => cases hx
    | succ m => exact ⟨_, hk, (ref01_Name_fx m (hct m (Nat.lt_succ_self m)) _ hx).conv h1 h2, ⟨_, Tryd.func44, rfl, by decide⟩⟩
  cases h
theorem ct75_ok (m : Nat) (hct : ∀ k, k < m → ∀ R, CallOK (R := R) Tryd.prog (ct k)) {R : Type} {args : List AV} {objs : List Ob} {K : Res → Option R} {r : R} (h : ct75 m args objs K = some r) : ∃ q : Res, K q = some r ∧ FX Tryd.prog 75 args objs q.1 q.2 ∧ HasBody Tryd.prog 75 := by
  unfold ct75 at h
  split at h
  · rename_i l hl
    obtain ⟨x, hx, hk⟩ := Option.bind_eq_some_iff.1 h
    obtain ⟨h1, h2⟩ := sel44_ok hl
    cases m with
    | zero => cases hx
    | succ m => exact ⟨_, hk, (ref01_wide_fx m (hct m (Nat.lt_succ_self m)) _ hx).conv h1 h2, ⟨_, Tryd.func75, rfl, by decide⟩⟩
  cases h
theorem ct68_ok (m : Nat) (hct : ∀ k, k < m → ∀ R, CallOK (R := R) Tryd.prog (ct k)) {R : Type} {args : List AV} {objs : List Ob} {K : Res → Option R} {r : R} (h : ct68 m args objs K = some r) : ∃ q : Res, K q = some r ∧ FX Tryd.prog 68 args objs q.1 q.2 ∧ HasBody Tryd.prog 68 := by
  unfold ct68 at h
  split at h
  · rename_i l hl
    obtain ⟨x, hx, hk⟩ := Option.bind_eq_some_iff.1 h
    obtain ⟨h1, h2⟩ := sel45_ok hl
    cases m with
    | zero => cases hx
    | succ m => exact ⟨_, hk, (ref04_Reach_fx m (hct m (Nat.lt_succ_self m)) _ _ hx).conv h1 h2, ⟨_, Tryd.func68, rfl, by decide⟩⟩
  cases h
theorem ct64_ok (m : Nat) (hct : ∀ k, k < m → ∀ R, CallOK (R := R) Tryd.prog (ct k)) {R : Type} {args : List AV} {objs : List Ob} {K : Res → Option R} {r : R} (h : ct64 m args objs K = some r) : ∃ q : Res, K q = some r ∧ FX Tryd.prog 64 args objs q.1 q.2 ∧ HasBody Tryd.prog 64 := by
  unfold ct64 at h
  split at h
  · rename_i l hl
    obtain ⟨x, hx, hk⟩ := Option.bind_eq_some_iff.1 h
    obtain ⟨h1, h2⟩ := sel46_ok hl
    cases m with
    | zero => cases hx
    | succ m => exact ⟨_, hk, (i46_fx m (hct m (Nat.lt_succ_self m)) _ _ _ hx).conv h1 h2, ⟨_, Tryd.func64, rfl, by decide⟩⟩
  cases h
theorem ct76_ok (m : Nat) (hct : ∀ k, k < m → ∀ R, CallOK (R := R) Tryd.prog (ct k)) {R : Type} {args : List AV} {objs : List Ob} {K : Res → Option R} {r : R} (h : ct76 m args objs K = some r) : ∃ q : Res, K q = some r ∧ FX Tryd.prog 76 args objs q.1 q.2 ∧ HasBody Tryd.prog 76 := by
  unfold ct76 at h
  split at h
  · rename_i l hl
    obtain ⟨x, hx, hk⟩ := Option.bind_eq_some_iff.1 h
    obtain ⟨h1, h2⟩ := sel47_ok hl
    cases m with
    | zero => cases hx
    | succ m => exact ⟨_, hk, (path_field_fx m (hct m (Nat.lt_succ_self m)) _ _ hx).conv h1 h2, ⟨_, Tryd.func76, rfl, by decide⟩⟩
  cases h
theorem ct77_ok (m : Nat) (hct : ∀ k, k < m → ∀ R, CallOK (R := R) Tryd.prog (ct k)) {R : Type} {args : List AV} {objs : List Ob} {K : Res → Option R} {r : R} (h : ct77 m args objs K = some r) : ∃ q : Res, K q = some r ∧ FX Tryd.prog 77 args objs q.1 q.2 ∧ HasBody Tryd.prog 77 := by
  unfold ct77 at h
  split at h
  · rename_i l hl
    obtain ⟨x, hx, hk⟩ := Option.bind_eq_some_iff.1 h
    obtain ⟨h1, h2⟩ := sel48_ok hl
    cases m with
    | zero => cases hx
    | succ m => exact ⟨_, hk, (path_Number_fx m (hct m (Nat.lt_succ_self m)) _ hx).conv h1 h2, ⟨_, Tryd.func77, rfl, by decide⟩⟩
  cases h
theorem ct65_ok (m : Nat) (hct : ∀ k, k < m → ∀ R, CallOK (R := R) Tryd.prog (ct k)) {R : Type} {args : List AV} {objs : List Ob} {K : Res → Option R} {r : R} (h : ct65 m args objs K = some r) : ∃ q : Res, K q = some r ∧ FX Tryd.prog 65 args objs q.1 q.2 ∧ HasBody Tryd.prog 65 := by
  unfold ct65 at h
  split at h
  · rename_i l hl
    obtain ⟨x, hx, hk⟩ := Option.bind_eq_some_iff.1 h
    obtain ⟨h1, h2⟩ := sel49_ok hl
    cases m with
    | zero => cases hx
    | succ m => exact ⟨_, hk, (path_clone_fx m (hct m (Nat.lt_succ_self m)) _ hx).conv h1 h2, ⟨_, Tryd.func65, rfl, by decide⟩⟩
  cases h
theorem ct78_ok (m : Nat) (hct : ∀ k, k < m → ∀ R, CallOK (R := R) Tryd.prog (ct k)) {R : Type} {args : List AV} {objs : List Ob} {K : Res → Option R} {r : R} (h : ct78 m args objs K = some r) : ∃ q : Res, K q = some r ∧ FX Tryd.prog 78 args objs q.1 q.2 ∧ HasBody Tryd.prog 78 := by
  unfold ct78 at h
  split at h
  · rename_i l hl
    obtain ⟨x, hx, hk⟩ := Option.bind_eq_some_iff.1 h
    obtain ⟨h1, h2⟩ := sel50_ok hl
    cases m with
    | zero => cases hx
    | succ m => exact ⟨_, hk, (cmp_isNaN_fx m (hct m (Nat.lt_succ_self m)) _ hx).conv h1 h2, ⟨_, Tryd.func78, rfl, by decide⟩⟩
  cases h
theorem ct80_ok (m : Nat) (hct : ∀ k, k < m → ∀ R, CallOK (R := R) Tryd.prog (ct k)) {R : Type} {args : List AV} {objs : List Ob} {K : Res → Option R} {r : R} (h : ct80 m args objs K = some r) : ∃ q : Res, K q = some r ∧ FX Tryd.prog 80 args objs q.1 q.2 ∧ HasBody Tryd.prog 80 := by
  unfold ct80 at h
  split at h
  · rename_i l hl
    obtain ⟨x, hx, hk⟩ := Option.bind_eq_some_iff.1 h
    obtain ⟨h1, h2⟩ := sel51_ok hl
    cases m with
    | zero => cases hx
    | succ m => exact ⟨_, hk, (ref04_Pass_fx m (hct m (Nat.lt_succ_self m)) _ _ hx).conv h1 h2, ⟨_, Tryd.func80, rfl, by decide⟩⟩
  cases h
theorem ct88_ok (m : Nat) (hct : ∀ k, k < m → ∀ R, CallOK (R := R) Tryd.prog (ct k)) {R : Type} {args : List AV} {objs : List Ob} {K : Res → Option R} {r : R} (h : ct88 m args objs K = some r) : ∃ q : Res, K q = some r ∧ FX Tryd.prog 88 args objs q.1 q.2 ∧ HasBody Tryd.prog 88 := by
  unfold ct88 at h
  split at h
  · rename_i l hl
    obtain ⟨x, hx, hk⟩ := Option.bind_eq_some_iff.1 h
    obtain ⟨h1, h2⟩ := sel52_ok hl
    cases m with
    | zero => cases hx
    | succ m => exact ⟨_, hk, (ref01_Get_fx m (hct m (Nat.lt_succ_self m)) _ _ hx).conv h1 h2, ⟨_, Tryd.func88, rfl, by decide⟩⟩
  cases h
theorem ct89_ok (m : Nat) (hct : ∀ k, k < m → ∀ R, CallOK (R := R) Tryd.prog (ct k)) {R : Type} {args : List AV} {objs : List Ob} {K : Res → Option R} {r : R} (h : ct89 m args objs K = some r) : ∃ q : Res, K q = some r ∧ FX Tryd.prog 89 args objs q.1 q.2 ∧ HasBody Tryd.prog 89 := by
  unfold ct89 at h
  split at h
  · rename_i l hl
    obtain ⟨x, hx, hk⟩ := Option.bind_eq_some_iff.1 h
    obtain ⟨h1, h2⟩ := sel53_ok hl
    cases m with
    | zero => cases hx
    | succ m => exact ⟨_, hk, (ref04_Number_fx m (hct m (Nat.lt_succ_self m)) _ hx).conv h1 h2, ⟨_, Tryd.func89, rfl, by decide⟩⟩
  cases h
theorem ct96_ok (m : Nat) (hct : ∀ k, k < m → ∀ R, CallOK (R := R) Tryd.prog (ct k)) {R : Type} {args : List AV} {objs : List Ob} {K : Res → Option R} {r : R} (h : ct96 m args objs K = some r) : ∃ q : Res, K q = some r ∧ FX Tryd.prog 96 args objs q.1 q.2 ∧ HasBody Tryd.prog 96 := by
  unfold ct96 at h
  split at h
  · rename_i l hl
    obtain ⟨x, hx, hk⟩ := Option.bind_eq_some_iff.1 h
    obtain ⟨h1, h2⟩ := sel54_ok hl
    cases m with
    | zero => cases hx
    | succ m => exact ⟨_, hk, (ref01_at_fx m (hct m (Nat.lt_succ_self m)) _ _ hx).conv h1 h2, ⟨_, Tryd.func96, rfl, by decide⟩⟩
  cases h
set_option maxHeartbeats 4000000 in
theorem ct_ok : ∀ (m : Nat) (R : Type), CallOK (R := R) Tryd.prog (ct m) := by
  intro m
  induction m using Nat.strongRecOn with
  | _ m ih =>
    intro R f args objs K r h
    unfold ct at h
    rcases bset_some h with ⟨hb, h1⟩ | ⟨_, h⟩
    · have e := beq_eq hb
      subst e
      exact ct6_ok m ih h1
    rcases bset_some h with ⟨hb, h1⟩ | ⟨_, h⟩
    · have e := beq_eq hb
      subst e
      exact ct8_ok m ih h1
    rcases bset_some h with ⟨hb, h1⟩ | ⟨_, h⟩
    · have e := beq_eq hb
      subst e
      exact ct16_ok m ih h1
    rcases bset_some h with ⟨hb, h1⟩ | ⟨_, h⟩
    · have e := beq_eq hb
      subst e
      exact ct12_ok m ih h1
    rcases bset_some h with ⟨hb, h1⟩ | ⟨_, h⟩
    · have e := beq_eq hb
      subst e
      exact ct22_ok m ih h1
    rcases bset_some h with ⟨hb, h1⟩ | ⟨_, h⟩
    · have e := beq_eq hb
      subst e
      exact ct23_ok m ih h1
    rcases bset_some h with ⟨hb, h1⟩ | ⟨_, h⟩
    · have e := beq_eq hb
      subst e
      exact ct17_ok m ih h1
    rcases bset_some h with ⟨hb, h1⟩ | ⟨_, h⟩
    · have e := beq_eq hb
      subst e
      exact ct24_ok m ih h1
    rcases bset_some h with ⟨hb, h1⟩ | ⟨_, h⟩
    · have e := beq_eq hb
      subst e
      exact ct25_ok m ih h1
    rcases bset_some h with ⟨hb, h1⟩ | ⟨_, h⟩
    · have e := beq_eq hb
      subst e
      exact ct20_ok m ih h1
    rcases bset_some h with ⟨hb, h1⟩ | ⟨_, h⟩
    · have e := beq_eq hb
      subst e
      exact ct36_ok m ih h1
    rcases bset_some h with ⟨hb, h1⟩ | ⟨_, h⟩
    · have e := beq_eq hb
      subst e
      exact ct41_ok m ih h1
    rcases bset_some h with ⟨hb, h1⟩ | ⟨_, h⟩
    · have e := beq_eq hb
      subst e
      exact ct21_ok m ih h1
    rcases bset_some h with ⟨hb, h1⟩ | ⟨_, h⟩
    · have e := beq_eq hb
      subst e
      exact ct33_ok m ih h1
    rcases bset_some h with ⟨hb, h1⟩ | ⟨_, h⟩
    · have e := beq_eq hb
      subst e
      exact ct18_ok m ih h1
    rcases bset_some h with ⟨hb, h1⟩ | ⟨_, h⟩
    · have e := beq_eq hb
      subst e
      exact ct39_ok m ih h1
    rcases bset_some h with ⟨hb, h1⟩ | ⟨_, h⟩
    · have e := beq_eq hb
      subst e
      exact ct47_ok m ih h1
    rcases bset_some h with ⟨hb, h1⟩ | ⟨_, h⟩
    · have e := beq_eq hb
      subst e
      exact ct48_ok m ih h1
    rcases bset_some h with ⟨hb, h1⟩ | ⟨_, h⟩
    · have e := beq_eq hb
      subst e
      exact ct49_ok m ih h1
    rcases bset_some h with ⟨hb, h1⟩ | ⟨_, h⟩
    · have e := beq_eq hb
      subst e
      exact ct55_ok m ih h1
    rcases bset_some h with ⟨hb, h1⟩ | ⟨_, h⟩
    · have e := beq_eq hb
      subst e
      exact ct69_ok m ih h1
    rcases bset_some h with ⟨hb, h1⟩ | ⟨_, h⟩
    · have e := beq_eq hb
      subst e
      exact ct81_ok m ih h1
    rcases bset_some h with ⟨hb, h1⟩ | ⟨_, h⟩
    · have e := beq_eq hb
      subst e
      exact ct56_ok m ih h1
    rcases bset_some h with ⟨hb, h1⟩ | ⟨_, h⟩
    · have e := beq_eq hb
      subst e
      exact ct82_ok m ih h1
    rcases bset_some h with ⟨hb, h1⟩ | ⟨_, h⟩
    · have e := beq_eq hb
      subst e
      exact ct90_ok m ih h1
    rcases bset_some h with ⟨hb, h1⟩ | ⟨_, h⟩
    · have e := beq_eq hb
      subst e
      exact ct97_ok m ih h1
    rcases bset_some h with ⟨hb, h1⟩ | ⟨_, h⟩
    · have e := beq_eq hb
      subst e
      exact ct57_ok m ih h1
    rcases bset_some h with ⟨hb, h1⟩ | ⟨_, h⟩
    · have e := beq_eq hb
      subst e
      exact ct38_ok m ih h1
    rcases bset_some h with ⟨hb, h1⟩ | ⟨_, h⟩
    · have e := beq_eq hb
      subst e
      exact ct40_ok m ih h1
    rcases bset_some h with ⟨hb, h1⟩ | ⟨_, h⟩
    · have e := beq_eq hb
      subst e
      exact ct37_ok m ih h1
    rcases bset_some h with ⟨hb, h1⟩ | ⟨_, h⟩
    · have e := beq_eq hb
      subst e
      exact ct51_ok m ih h1
    rcases bset_some h with ⟨hb, h1⟩ | ⟨_, h⟩
    · have e := beq_eq hb
      subst e
      exact ct60_ok m ih h1
    rcases bset_some h with ⟨hb, h1⟩ | ⟨_, h⟩
    · have e := beq_eq hb
      subst e
      exact ct61_ok m ih h1
    rcases bset_some h with ⟨hb, h1⟩ | ⟨_, h⟩
    · have e := beq_eq hb
      subst e
      exact ct62_ok m ih h1
    rcases bset_some h with ⟨hb, h1⟩ | ⟨_, h⟩
    · have e := beq_eq hb
      subst e
      exact ct63_ok m ih h1
    rcases bset_some h with ⟨hb, h1⟩ | ⟨_, h⟩
    · have e := beq_eq hb
      subst e
      exact ct52_ok m ih h1
    rcases bset_some h with ⟨hb, h1⟩ | ⟨_, h⟩
    · have e := beq_eq hb
      subst e
      exact ct53_ok m ih h1
    rcases bset_some h with ⟨hb, h1⟩ | ⟨_, h⟩
    · have e := beq_eq hb
      subst e
      exact ct54_ok m ih h1
    rcases bset_some h with ⟨hb, h1⟩ | ⟨_, h⟩
    · have e := beq_eq hb
      subst e
      exact ct50_ok m ih h1
    rcases bset_some h with ⟨hb, h1⟩ | ⟨_, h⟩
    · have e := beq_eq hb
      subst e
      exact ct66_ok m ih h1
    rcases bset_some h with ⟨hb, h1⟩ | ⟨_, h⟩
    · have e := beq_eq hb
      subst e
      exact ct67_ok m ih h1
    rcases bset_some h with ⟨hb, h1⟩ | ⟨_, h⟩
    · have e := beq_eq hb
      subst e
      exact ct73_ok m ih h1
    rcases bset_some h with ⟨hb, h1⟩ | ⟨_, h⟩
    · have e := beq_eq hb
      subst e
      exact ct74_ok m ih h1
    rcases bset_some h with ⟨hb, h1⟩ | ⟨_, h⟩
    · have e := beq_eq hb
      subst e
      exact ct44_ok m ih h1
    rcases bset_some h with ⟨hb, h1⟩ | ⟨_, h⟩
    · have e := beq_eq hb
      subst e
      exact ct75_ok m ih h1
    rcases bset_some h with ⟨hb, h1⟩ | ⟨_, h⟩
    · have e := beq_eq hb
      subst e
      exact ct68_ok m ih h1
    rcases bset_some h with ⟨hb, h1⟩ | ⟨_, h⟩
    · have e := beq_eq hb
      subst e
      exact ct64_ok m ih h1
    rcases bset_some h with ⟨hb, h1⟩ | ⟨_, h⟩
    · have e := beq_eq hb
      subst e
      exact ct76_ok m ih h1
    rcases bset_some h with ⟨hb, h1⟩ | ⟨_, h⟩
    · have e := beq_eq hb
      subst e
      exact ct77_ok m ih h1
    rcases bset_some h with ⟨hb, h1⟩ | ⟨_, h⟩
    · have e := beq_eq hb
      subst e
      exact ct65_ok m ih h1
    rcases bset_some h with ⟨hb, h1⟩ | ⟨_, h⟩
    · have e := beq_eq hb
      subst e
      exact ct78_ok m ih h1
    rcases bset_some h with ⟨hb, h1⟩ | ⟨_, h⟩
    · have e := beq_eq hb
      subst e
      exact ct80_ok m ih h1
    rcases bset_some h with ⟨hb, h1⟩ | ⟨_, h⟩
    · have e := beq_eq hb
      subst e
      exact ct88_ok m ih h1
    rcases bset_some h with ⟨hb, h1⟩ | ⟨_, h⟩
    · have e := beq_eq hb
      subst e
      exact ct89_ok m ih h1
    rcases bset_some h with ⟨hb, h1⟩ | ⟨_, h⟩
    · have e := beq_eq hb
      subst e
      exact ct96_ok m ih h1
    cases h
end Go.Proofs.YtacchdeihafmnaaDoor
