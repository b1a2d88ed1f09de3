/- Generated: the contracts. -/
import Derived.Test.YtfneddmmeadacaaDoorEq0
import Derived.Test.YtfneddmmeadacaaDoorEq1
set_option linter.unusedVariables false
set_option linter.unusedSimpArgs false
namespace Go.Proofs.YtfneddmmeadacaaDoor
open Go.Am
set_option maxRecDepth 100000
theorem mixed : Tryd.prog.follows .mixedOrders = true := by kernel_rfl
theorem ref14_Count_fx (m : Nat) (hct : ∀ R, CallOK (R := R) Tryd.prog (ct m)) (a0 : Dt) (a1 : Int) {r : Int} (h : ref14_Count (m + 1) a0 a1 = some r) : FX Tryd.prog 7 [(.dat 30 a0), (.dat 3 (.int a1))] [] (.dat 3 (.int r)) [] :=
  FX_of (q := ((.dat 3 (.int r)), [])) (E := env) (m := m + 1) (dec := d1) jn_ok (hct _) mixed Tryd.func7 rfl (Nat.le_of_ble_eq_true rfl) (fun b hb => d1_sim hb) ((ref14_Count_eq m a0 a1).trans h)
theorem schema_isName_fx (m : Nat) (hct : ∀ R, CallOK (R := R) Tryd.prog (ct m)) (a0 : ByteArray) {r : Bool} (h : schema_isName (m + 1) a0 = some r) : FX Tryd.prog 56 [(.dat 9 (.str a0))] [] (.dat 4 (.bool r)) [] :=
  FX_of (q := ((.dat 4 (.bool r)), [])) (E := env) (m := m + 1) (dec := d8) jn_ok (hct _) mixed Tryd.func56 rfl (Nat.le_of_ble_eq_true rfl) (fun b hb => d8_sim hb) ((schema_isName_eq m a0).trans h)
theorem value_nodes_fx (m : Nat) (hct : ∀ R, CallOK (R := R) Tryd.prog (ct m)) (a0 : Dt) (a1 : Int) {r : Int} (h : value_nodes (m + 1) a0 a1 = some r) : FX Tryd.prog 72 [(.dat 25 a0), (.dat 3 (.int a1))] [] (.dat 3 (.int r)) [] :=
  FX_of (q := ((.dat 3 (.int r)), [])) (E := env) (m := m + 1) (dec := d18) jn_ok (hct _) mixed Tryd.func72 rfl (Nat.le_of_ble_eq_true rfl) (fun b hb => d18_sim hb) ((value_nodes_eq m a0 a1).trans h)
theorem i27_fx (m : Nat) (hct : ∀ R, CallOK (R := R) Tryd.prog (ct m)) (a0 : Dt) (a1 a2 : Int) {r : Int × Int} (h : i27 (m + 1) a0 a1 a2 = some r) : FX Tryd.prog 85 [(.dat 25 a0), (.fn 86 [(.ptr 0 [] 0), (.ptr 1 [] 0)])] [(.box 3 (.dat 3 (.int a1))), (.box 3 (.dat 3 (.int a2)))] (.tup []) [(.box 3 (.dat 3 (.int r.1))), (.box 3 (.dat 3 (.int r.2)))] :=
  FX_of (q := ((.tup []), [(.box 3 (.dat 3 (.int r.1))), (.box 3 (.dat 3 (.int r.2)))])) (E := env) (m := m + 1) (dec := d27) jn_ok (hct _) mixed Tryd.func85 rfl (Nat.le_of_ble_eq_true rfl) (fun b hb => d27_sim hb) ((i27_eq m a0 a1 a2).trans h)
theorem i28_fx (m : Nat) (hct : ∀ R, CallOK (R := R) Tryd.prog (ct m)) (a0 : Dt) (a1 a2 : Int) {r : Bool × Int × Int} (h : i28 (m + 1) a0 a1 a2 = some r) : FX Tryd.prog 86 [(.dat 25 a0), (.ptr 0 [] 0), (.ptr 1 [] 0)] [(.box 3 (.dat 3 (.int a1))), (.box 3 (.dat 3 (.int a2)))] (.dat 4 (.bool r.1)) [(.box 3 (.dat 3 (.int r.2.1))), (.box 3 (.dat 3 (.int r.2.2)))] :=
  FX_of (q := ((.dat 4 (.bool r.1)), [(.box 3 (.dat 3 (.int r.2.1))), (.box 3 (.dat 3 (.int r.2.2)))])) (E := env) (m := m + 1) (dec := d28) jn_ok (hct _) mixed Tryd.func86 rfl (Nat.le_of_ble_eq_true rfl) (fun b hb => d28_sim hb) ((i28_eq m a0 a1 a2).trans h)
theorem value_Nodes_fx (m : Nat) (hct : ∀ R, CallOK (R := R) Tryd.prog (ct m)) (a0 : Dt) {r : Int} (h : value_Nodes (m + 1) a0 = some r) : FX Tryd.prog 51 [(.dat 25 a0)] [] (.dat 3 (.int r)) [] :=
  FX_of (q := ((.dat 3 (.int r)), [])) (E := env) (m := m + 1) (dec := d12) jn_ok (hct _) mixed Tryd.func51 rfl (Nat.le_of_ble_eq_true rfl) (fun b hb => d12_sim hb) ((value_Nodes_eq m a0).trans h)
theorem value_depth_fx (m : Nat) (hct : ∀ R, CallOK (R := R) Tryd.prog (ct m)) (a0 : Dt) (a1 : Int) {r : Int} (h : value_depth (m + 1) a0 a1 = some r) : FX Tryd.prog 73 [(.dat 25 a0), (.dat 3 (.int a1))] [] (.dat 3 (.int r)) [] :=
  FX_of (q := ((.dat 3 (.int r)), [])) (E := env) (m := m + 1) (dec := d19) jn_ok (hct _) mixed Tryd.func73 rfl (Nat.le_of_ble_eq_true rfl) (fun b hb => d19_sim hb) ((value_depth_eq m a0 a1).trans h)
theorem i29_fx (m : Nat) (hct : ∀ R, CallOK (R := R) Tryd.prog (ct m)) (a0 : Dt) (a1 a2 : Int) {r : Int × Int} (h : i29 (m + 1) a0 a1 a2 = some r) : FX Tryd.prog 85 [(.dat 25 a0), (.fn 87 [(.ptr 0 [] 0), (.ptr 1 [] 0)])] [(.box 3 (.dat 3 (.int a1))), (.box 3 (.dat 3 (.int a2)))] (.tup []) [(.box 3 (.dat 3 (.int r.1))), (.box 3 (.dat 3 (.int r.2)))] :=
  FX_of (q := ((.tup []), [(.box 3 (.dat 3 (.int r.1))), (.box 3 (.dat 3 (.int r.2)))])) (E := env) (m := m + 1) (dec := d29) jn_ok (hct _) mixed Tryd.func85 rfl (Nat.le_of_ble_eq_true rfl) (fun b hb => d29_sim hb) ((i29_eq m a0 a1 a2).trans h)
theorem i30_fx (m : Nat) (hct : ∀ R, CallOK (R := R) Tryd.prog (ct m)) (a0 : Dt) (a1 a2 : Int) {r : Bool × Int × Int} (h : i30 (m + 1) a0 a1 a2 = some r) : FX Tryd.prog 87 [(.dat 25 a0), (.ptr 0 [] 0), (.ptr 1 [] 0)] [(.box 3 (.dat 3 (.int a1))), (.box 3 (.dat 3 (.int a2)))] (.dat 4 (.bool r.1)) [(.box 3 (.dat 3 (.int r.2.1))), (.box 3 (.dat 3 (.int r.2.2)))] :=
  FX_of (q := ((.dat 4 (.bool r.1)), [(.box 3 (.dat 3 (.int r.2.1))), (.box 3 (.dat 3 (.int r.2.2)))])) (E := env) (m := m + 1) (dec := d30) jn_ok (hct _) mixed Tryd.func87 rfl (Nat.le_of_ble_eq_true rfl) (fun b hb => d30_sim hb) ((i30_eq m a0 a1 a2).trans h)
theorem value_Depth_fx (m : Nat) (hct : ∀ R, CallOK (R := R) Tryd.prog (ct m)) (a0 : Dt) {r : Int} (h : value_Depth (m + 1) a0 = some r) : FX Tryd.prog 52 [(.dat 25 a0)] [] (.dat 3 (.int r)) [] :=
  FX_of (q := ((.dat 3 (.int r)), [])) (E := env) (m := m + 1) (dec := d13) jn_ok (hct _) mixed Tryd.func52 rfl (Nat.le_of_ble_eq_true rfl) (fun b hb => d13_sim hb) ((value_Depth_eq m a0).trans h)
theorem ref01_Name_fx (m : Nat) (hct : ∀ R, CallOK (R := R) Tryd.prog (ct m)) (a0 : ByteArray) {r : Bool} (h : ref01_Name (m + 1) a0 = some r) : FX Tryd.prog 62 [(.dat 9 (.str a0))] [] (.dat 4 (.bool r)) [] :=
  FX_of (q := ((.dat 4 (.bool r)), [])) (E := env) (m := m + 1) (dec := d22) jn_ok (hct _) mixed Tryd.func62 rfl (Nat.le_of_ble_eq_true rfl) (fun b hb => d22_sim hb) ((ref01_Name_eq m a0).trans h)
theorem ref14_different_fx (m : Nat) (hct : ∀ R, CallOK (R := R) Tryd.prog (ct m)) (a0 : List Dt) {r : Bool} (h : ref14_different (m + 1) a0 = some r) : FX Tryd.prog 58 [(.dat 26 (.lst a0))] [] (.dat 4 (.bool r)) [] :=
  FX_of (q := ((.dat 4 (.bool r)), [])) (E := env) (m := m + 1) (dec := d15) jn_ok (hct _) mixed Tryd.func58 rfl (Nat.le_of_ble_eq_true rfl) (fun b hb => d15_sim hb) ((ref14_different_eq m a0).trans h)
theorem ref01_Same_fx (m : Nat) (hct : ∀ R, CallOK (R := R) Tryd.prog (ct m)) (a0 a1 : Dt) {r : Bool} (h : ref01_Same (m + 1) a0 a1 = some r) : FX Tryd.prog 80 [(.dat 25 a0), (.dat 25 a1)] [] (.dat 4 (.bool r)) [] :=
  FX_of (q := ((.dat 4 (.bool r)), [])) (E := env) (m := m + 1) (dec := d23) jn_ok (hct _) mixed Tryd.func80 rfl (Nat.le_of_ble_eq_true rfl) (fun b hb => d23_sim hb) ((ref01_Same_eq m a0 a1).trans h)
theorem value_isName_fx (m : Nat) (hct : ∀ R, CallOK (R := R) Tryd.prog (ct m)) (a0 : ByteArray) {r : Bool} (h : value_isName (m + 1) a0 = some r) : FX Tryd.prog 99 [(.dat 9 (.str a0))] [] (.dat 4 (.bool r)) [] :=
  FX_of (q := ((.dat 4 (.bool r)), [])) (E := env) (m := m + 1) (dec := d31) jn_ok (hct _) mixed Tryd.func99 rfl (Nat.le_of_ble_eq_true rfl) (fun b hb => d31_sim hb) ((value_isName_eq m a0).trans h)
theorem value_sound_fx (m : Nat) (hct : ∀ R, CallOK (R := R) Tryd.prog (ct m)) (a0 : Dt) {r : Bool} (h : value_sound (m + 1) a0 = some r) : FX Tryd.prog 75 [(.dat 25 a0)] [] (.dat 4 (.bool r)) [] :=
  FX_of (q := ((.dat 4 (.bool r)), [])) (E := env) (m := m + 1) (dec := d14) jn_ok (hct _) mixed Tryd.func75 rfl (Nat.le_of_ble_eq_true rfl) (fun b hb => d14_sim hb) ((value_sound_eq m a0).trans h)
theorem value_soundFields_fx (m : Nat) (hct : ∀ R, CallOK (R := R) Tryd.prog (ct m)) (a0 : List Dt) {r : Bool} (h : value_soundFields (m + 1) a0 = some r) : FX Tryd.prog 89 [(.dat 23 (.lst a0))] [] (.dat 4 (.bool r)) [] :=
  FX_of (q := ((.dat 4 (.bool r)), [])) (E := env) (m := m + 1) (dec := d21) jn_ok (hct _) mixed Tryd.func89 rfl (Nat.le_of_ble_eq_true rfl) (fun b hb => d21_sim hb) ((value_soundFields_eq m a0).trans h)
theorem value_Valid_fx (m : Nat) (hct : ∀ R, CallOK (R := R) Tryd.prog (ct m)) (a0 : Dt) {r : Bool} (h : value_Valid (m + 1) a0 = some r) : FX Tryd.prog 54 [(.dat 25 a0)] [] (.dat 4 (.bool r)) [] :=
  FX_of (q := ((.dat 4 (.bool r)), [])) (E := env) (m := m + 1) (dec := d10) jn_ok (hct _) mixed Tryd.func54 rfl (Nat.le_of_ble_eq_true rfl) (fun b hb => d10_sim hb) ((value_Valid_eq m a0).trans h)
theorem schema_bound_fx (m : Nat) (hct : ∀ R, CallOK (R := R) Tryd.prog (ct m)) (a0 : Bool) (a1 : Dt) {r : Bool} (h : schema_bound (m + 1) a0 a1 = some r) : FX Tryd.prog 57 [(.dat 4 (.bool a0)), (.dat 25 a1)] [] (.dat 4 (.bool r)) [] :=
  FX_of (q := ((.dat 4 (.bool r)), [])) (E := env) (m := m + 1) (dec := d9) jn_ok (hct _) mixed Tryd.func57 rfl (Nat.le_of_ble_eq_true rfl) (fun b hb => d9_sim hb) ((schema_bound_eq m a0 a1).trans h)
theorem schema_checkOne_fx (m : Nat) (hct : ∀ R, CallOK (R := R) Tryd.prog (ct m)) (a0 : Dt) {r : Int} (h : schema_checkOne (m + 1) a0 = some r) : FX Tryd.prog 31 [(.dat 30 a0)] [] (.dat 33 (.int r)) [] :=
  FX_of (q := ((.dat 33 (.int r)), [])) (E := env) (m := m + 1) (dec := d6) jn_ok (hct _) mixed Tryd.func31 rfl (Nat.le_of_ble_eq_true rfl) (fun b hb => d6_sim hb) ((schema_checkOne_eq m a0).trans h)
theorem i5_fx (m : Nat) (hct : ∀ R, CallOK (R := R) Tryd.prog (ct m)) (a0 : Dt) (a1 a2 : Int) {r : Int × Int} (h : i5 (m + 1) a0 a1 a2 = some r) : FX Tryd.prog 20 [(.dat 30 a0), (.dat 3 (.int a1)), (.ptr 0 [] 0)] [(.box 3 (.dat 3 (.int a2)))] (.dat 33 (.int r.1)) [(.box 3 (.dat 3 (.int r.2)))] :=
  FX_of (q := ((.dat 33 (.int r.1)), [(.box 3 (.dat 3 (.int r.2)))])) (E := env) (m := m + 1) (dec := d5) jn_ok (hct _) mixed Tryd.func20 rfl (Nat.le_of_ble_eq_true rfl) (fun b hb => d5_sim hb) ((i5_eq m a0 a1 a2).trans h)
theorem schema_Valid_fx (m : Nat) (hct : ∀ R, CallOK (R := R) Tryd.prog (ct m)) (a0 : Dt) {r : Int} (h : schema_Valid (m + 1) a0 = some r) : FX Tryd.prog 9 [(.dat 30 a0)] [] (.dat 33 (.int r)) [] :=
  FX_of (q := ((.dat 33 (.int r)), [])) (E := env) (m := m + 1) (dec := d3) jn_ok (hct _) mixed Tryd.func9 rfl (Nat.le_of_ble_eq_true rfl) (fun b hb => d3_sim hb) ((schema_Valid_eq m a0).trans h)
theorem ref01_Parts_fx (m : Nat) (hct : ∀ R, CallOK (R := R) Tryd.prog (ct m)) (a0 : Dt) {r : List Dt} (h : ref01_Parts (m + 1) a0 = some r) : FX Tryd.prog 60 [(.dat 25 a0)] [] (.dat 22 (.lst r)) [] :=
  FX_of (q := ((.dat 22 (.lst r)), [])) (E := env) (m := m + 1) (dec := d36) jn_ok (hct _) mixed Tryd.func60 rfl (Nat.le_of_ble_eq_true rfl) (fun b hb => d36_sim hb) ((ref01_Parts_eq m a0).trans h)
theorem ref01_levels_fx (m : Nat) (hct : ∀ R, CallOK (R := R) Tryd.prog (ct m)) (a0 : Dt) (a1 : Int) {r : Int} (h : ref01_levels (m + 1) a0 a1 = some r) : FX Tryd.prog 33 [(.dat 25 a0), (.dat 3 (.int a1))] [] (.dat 3 (.int r)) [] :=
  FX_of (q := ((.dat 3 (.int r)), [])) (E := env) (m := m + 1) (dec := d32) jn_ok (hct _) mixed Tryd.func33 rfl (Nat.le_of_ble_eq_true rfl) (fun b hb => d32_sim hb) ((ref01_levels_eq m a0 a1).trans h)
theorem ref01_Depth_fx (m : Nat) (hct : ∀ R, CallOK (R := R) Tryd.prog (ct m)) (a0 : Dt) {r : Int} (h : ref01_Depth (m + 1) a0 = some r) : FX Tryd.prog 22 [(.dat 25 a0)] [] (.dat 3 (.int r)) [] :=
  FX_of (q := ((.dat 3 (.int r)), [])) (E := env) (m := m + 1) (dec := d24) jn_ok (hct _) mixed Tryd.func22 rfl (Nat.le_of_ble_eq_true rfl) (fun b hb => d24_sim hb) ((ref01_Depth_eq m a0).trans h)
theorem ref01_count_fx (m : Nat) (hct : ∀ R, CallOK (R := R) Tryd.prog (ct m)) (a0 : Dt) (a1 : Int) {r : Int} (h : ref01_count (m + 1) a0 a1 = some r) : FX Tryd.prog 34 [(.dat 25 a0), (.dat 3 (.int a1))] [] (.dat 3 (.int r)) [] :=
  FX_of (q := ((.dat 3 (.int r)), [])) (E := env) (m := m + 1) (dec := d33) jn_ok (hct _) mixed Tryd.func34 rfl (Nat.le_of_ble_eq_true rfl) (fun b hb => d33_sim hb) ((ref01_count_eq m a0 a1).trans h)
theorem ref01_Nodes_fx (m : Nat) (hct : ∀ R, CallOK (R := R) Tryd.prog (ct m)) (a0 : Dt) {r : Int} (h : ref01_Nodes (m + 1) a0 = some r) : FX Tryd.prog 23 [(.dat 25 a0)] [] (.dat 3 (.int r)) [] :=
  FX_of (q := ((.dat 3 (.int r)), [])) (E := env) (m := m + 1) (dec := d25) jn_ok (hct _) mixed Tryd.func23 rfl (Nat.le_of_ble_eq_true rfl) (fun b hb => d25_sim hb) ((ref01_Nodes_eq m a0).trans h)
theorem ref01_tail_fx (m : Nat) (hct : ∀ R, CallOK (R := R) Tryd.prog (ct m)) (a0 : ByteArray) (a1 a2 : Int) {r : Bool} (h : ref01_tail (m + 1) a0 a1 a2 = some r) : FX Tryd.prog 61 [(.dat 9 (.str a0)), (.dat 3 (.int a1)), (.dat 3 (.int a2))] [] (.dat 4 (.bool r)) [] :=
  FX_of (q := ((.dat 4 (.bool r)), [])) (E := env) (m := m + 1) (dec := d37) jn_ok (hct _) mixed Tryd.func61 rfl (Nat.le_of_ble_eq_true rfl) (fun b hb => d37_sim hb) ((ref01_tail_eq m a0 a1 a2).trans h)
theorem ref01_UTF8_fx (m : Nat) (hct : ∀ R, CallOK (R := R) Tryd.prog (ct m)) (a0 : ByteArray) {r : Bool} (h : ref01_UTF8 (m + 1) a0 = some r) : FX Tryd.prog 35 [(.dat 9 (.str a0))] [] (.dat 4 (.bool r)) [] :=
  FX_of (q := ((.dat 4 (.bool r)), [])) (E := env) (m := m + 1) (dec := d34) jn_ok (hct _) mixed Tryd.func35 rfl (Nat.le_of_ble_eq_true rfl) (fun b hb => d34_sim hb) ((ref01_UTF8_eq m a0).trans h)
theorem ref01_wide_fx (m : Nat) (hct : ∀ R, CallOK (R := R) Tryd.prog (ct m)) (a0 : ByteArray) {r : Bool} (h : ref01_wide (m + 1) a0 = some r) : FX Tryd.prog 63 [(.dat 9 (.str a0))] [] (.dat 4 (.bool r)) [] :=
  FX_of (q := ((.dat 4 (.bool r)), [])) (E := env) (m := m + 1) (dec := d38) jn_ok (hct _) mixed Tryd.func63 rfl (Nat.le_of_ble_eq_true rfl) (fun b hb => d38_sim hb) ((ref01_wide_eq m a0).trans h)
theorem ref01_formed_fx (m : Nat) (hct : ∀ R, CallOK (R := R) Tryd.prog (ct m)) (a0 : Dt) (a1 : Bool) {r : Bool} (h : ref01_formed (m + 1) a0 a1 = some r) : FX Tryd.prog 24 [(.dat 25 a0), (.dat 4 (.bool a1))] [] (.dat 4 (.bool r)) [] :=
  FX_of (q := ((.dat 4 (.bool r)), [])) (E := env) (m := m + 1) (dec := d26) jn_ok (hct _) mixed Tryd.func24 rfl (Nat.le_of_ble_eq_true rfl) (fun b hb => d26_sim hb) ((ref01_formed_eq m a0 a1).trans h)
theorem ref01_fields_fx (m : Nat) (hct : ∀ R, CallOK (R := R) Tryd.prog (ct m)) (a0 : Dt) (a1 : Bool) {r : Bool} (h : ref01_fields (m + 1) a0 a1 = some r) : FX Tryd.prog 36 [(.dat 25 a0), (.dat 4 (.bool a1))] [] (.dat 4 (.bool r)) [] :=
  FX_of (q := ((.dat 4 (.bool r)), [])) (E := env) (m := m + 1) (dec := d35) jn_ok (hct _) mixed Tryd.func36 rfl (Nat.le_of_ble_eq_true rfl) (fun b hb => d35_sim hb) ((ref01_fields_eq m a0 a1).trans h)
theorem ref01_Valid_fx (m : Nat) (hct : ∀ R, CallOK (R := R) Tryd.prog (ct m)) (a0 : Dt) {r : Bool} (h : ref01_Valid (m + 1) a0 = some r) : FX Tryd.prog 12 [(.dat 25 a0)] [] (.dat 4 (.bool r)) [] :=
  FX_of (q := ((.dat 4 (.bool r)), [])) (E := env) (m := m + 1) (dec := d17) jn_ok (hct _) mixed Tryd.func12 rfl (Nat.le_of_ble_eq_true rfl) (fun b hb => d17_sim hb) ((ref01_Valid_eq m a0).trans h)
theorem ref14_unused_fx (m : Nat) (hct : ∀ R, CallOK (R := R) Tryd.prog (ct m)) (a0 : Bool) (a1 : Dt) {r : Bool} (h : ref14_unused (m + 1) a0 a1 = some r) : FX Tryd.prog 59 [(.dat 4 (.bool a0)), (.dat 25 a1)] [] (.dat 4 (.bool r)) [] :=
  FX_of (q := ((.dat 4 (.bool r)), [])) (E := env) (m := m + 1) (dec := d16) jn_ok (hct _) mixed Tryd.func59 rfl (Nat.le_of_ble_eq_true rfl) (fun b hb => d16_sim hb) ((ref14_unused_eq m a0 a1).trans h)
theorem ref14_single_fx (m : Nat) (hct : ∀ R, CallOK (R := R) Tryd.prog (ct m)) (a0 : Dt) {r : Int} (h : ref14_single (m + 1) a0 = some r) : FX Tryd.prog 32 [(.dat 30 a0)] [] (.dat 33 (.int r)) [] :=
  FX_of (q := ((.dat 33 (.int r)), [])) (E := env) (m := m + 1) (dec := d11) jn_ok (hct _) mixed Tryd.func32 rfl (Nat.le_of_ble_eq_true rfl) (fun b hb => d11_sim hb) ((ref14_single_eq m a0).trans h)
theorem ref14_check_fx (m : Nat) (hct : ∀ R, CallOK (R := R) Tryd.prog (ct m)) (a0 : Dt) (a1 a2 : Int) {r : Int × Int} (h : ref14_check (m + 1) a0 a1 a2 = some r) : FX Tryd.prog 21 [(.dat 30 a0), (.dat 3 (.int a1)), (.dat 3 (.int a2))] [] (.tup [(.dat 3 (.int r.1)), (.dat 33 (.int r.2))]) [] :=
  FX_of (q := ((.tup [(.dat 3 (.int r.1)), (.dat 33 (.int r.2))]), [])) (E := env) (m := m + 1) (dec := d7) jn_ok (hct _) mixed Tryd.func21 rfl (Nat.le_of_ble_eq_true rfl) (fun b hb => d7_sim hb) ((ref14_check_eq m a0 a1 a2).trans h)
theorem ref14_Valid_fx (m : Nat) (hct : ∀ R, CallOK (R := R) Tryd.prog (ct m)) (a0 : Dt) {r : Int} (h : ref14_Valid (m + 1) a0 = some r) : FX Tryd.prog 10 [(.dat 30 a0)] [] (.dat 33 (.int r)) [] :=
  FX_of (q := ((.dat 33 (.int r)), [])) (E := env) (m := m + 1) (dec := d4) jn_ok (hct _) mixed Tryd.func10 rfl (Nat.le_of_ble_eq_true rfl) (fun b hb => d4_sim hb) ((ref14_Valid_eq m a0).trans h)
theorem law14_SchemaValid_fx (m : Nat) (hct : ∀ R, CallOK (R := R) Tryd.prog (ct m)) (a0 : Dt) {r : Bool} (h : law14_SchemaValid (m + 1) a0 = some r) : FX Tryd.prog 3 [(.dat 30 a0)] [] (.dat 4 (.bool r)) [] :=
  FX_of (q := ((.dat 4 (.bool r)), [])) (E := env) (m := m + 1) (dec := d0) jn_ok (hct _) mixed Tryd.func3 rfl (Nat.le_of_ble_eq_true rfl) (fun b hb => d0_sim hb) ((law14_SchemaValid_eq m a0).trans h)
theorem ct3_ok (m : Nat) (hct : ∀ k, k < m → ∀ R, CallOK (R := R) Tryd.prog (ct k)) {R : Type} {args : List AV} {objs : List Ob} {K : Res → Option R} {r : R} (h : ct3 m args objs K = some r) : ∃ q : Res, K q = some r ∧ FX Tryd.prog 3 args objs q.1 q.2 ∧ HasBody Tryd.prog 3 := by
  unfold ct3 at h
  split at h
  · rename_i l hl
    obtain ⟨x, hx, hk⟩ := Option.bind_eq_some_iff.1 h
    obtain ⟨h1, h2⟩ := sel0_ok hl
    cases m with
    | zero => cases hx
    | succ m => exact ⟨_, hk, (law14_SchemaValid_fx m (hct m (Nat.lt_succ_self m)) _ hx).conv h1 h2, ⟨_, Tryd.func3, rfl, by decide⟩⟩
  cases h
theorem ct7_ok (m : Nat) (hct : ∀ k, k < m → ∀ R, CallOK (R := R) Tryd.prog (ct k)) {R : Type} {args : List AV} {objs : List Ob} {K : Res → Option R} {r : R} (h : ct7 m args objs K = some r) : ∃ q : Res, K q = some r ∧ FX Tryd.prog 7 args objs q.1 q.2 ∧ HasBody Tryd.prog 7 := by
  unfold ct7 at h
  split at h
  · rename_i l hl
    obtain ⟨x, hx, hk⟩ := Option.bind_eq_some_iff.1 h
    obtain ⟨h1, h2⟩ := sel1_ok hl
    cases m with
    | zero => cases hx
    | succ m => exact ⟨_, hk, (ref14_Count_fx m (hct m (Nat.lt_succ_self m)) _ _ hx).conv h1 h2, ⟨_, Tryd.func7, rfl, by decide⟩⟩
  cases h
theorem ct8_ok (m : Nat) (hct : ∀ k, k < m → ∀ R, CallOK (R := R) Tryd.prog (ct k)) {R : Type} {args : List AV} {objs : List Ob} {K : Res → Option R} {r : R} (h : ct8 m args objs K = some r) : ∃ q : Res, K q = some r ∧ FX Tryd.prog 8 args objs q.1 q.2 ∧ HasBody Tryd.prog 8 := by
  unfold ct8 at h
  split at h
  · rename_i l hl
    obtain ⟨x, hx, hk⟩ := Option.bind_eq_some_iff.1 h
    obtain ⟨h1, h2⟩ := sel2_ok hl
    exact ⟨_, hk, (awakeC_fx hx).conv h1 h2, ⟨_, Tryd.func8, rfl, by decide⟩⟩
  cases h
theorem ct9_ok (m : Nat) (hct : ∀ k, k < m → ∀ R, CallOK (R := R) Tryd.prog (ct k)) {R : Type} {args : List AV} {objs : List Ob} {K : Res → Option R} {r : R} (h : ct9 m args objs K = some r) : ∃ q : Res, K q = some r ∧ FX Tryd.prog 9 args objs q.1 q.2 ∧ HasBody Tryd.prog 9 := by
  unfold ct9 at h
  split at h
  · rename_i l hl
    obtain ⟨x, hx, hk⟩ := Option.bind_eq_some_iff.1 h
    obtain ⟨h1, h2⟩ := sel3_ok hl
    cases m with
    | zero => cases hx
    | succ m => exact ⟨_, hk, (schema_Valid_fx m (hct m (Nat.lt_succ_self m)) _ hx).conv h1 h2, ⟨_, Tryd.func9, rfl, by decide⟩⟩
  cases h
theorem ct10_ok (m : Nat) (hct : ∀ k, k < m → ∀ R, CallOK (R := R) Tryd.prog (ct k)) {R : Type} {args : List AV} {objs : List Ob} {K : Res → Option R} {r : R} (h : ct10 m args objs K = some r) : ∃ q : Res, K q = some r ∧ FX Tryd.prog 10 args objs q.1 q.2 ∧ HasBody Tryd.prog 10 := by
  unfold ct10 at h
  split at h
  · rename_i l hl
    obtain ⟨x, hx, hk⟩ := Option.bind_eq_some_iff.1 h
    obtain ⟨h1, h2⟩ := sel4_ok hl
    cases m with
    | zero => cases hx
    | succ m => exact ⟨_, hk, (ref14_Valid_fx m (hct m (Nat.lt_succ_self m)) _ hx).conv h1 h2, ⟨_, Tryd.func10, rfl, by decide⟩⟩
  cases h
theorem ct20_ok (m : Nat) (hct : ∀ k, k < m → ∀ R, CallOK (R := R) Tryd.prog (ct k)) {R : Type} {args : List AV} {objs : List Ob} {K : Res → Option R} {r : R} (h : ct20 m args objs K = some r) : ∃ q : Res, K q = some r ∧ FX Tryd.prog 20 args objs q.1 q.2 ∧ HasBody Tryd.prog 20 := by
  unfold ct20 at h
  split at h
  · rename_i l hl
    obtain ⟨x, hx, hk⟩ := Option.bind_eq_some_iff.1 h
    obtain ⟨h1, h2⟩ := sel5_ok hl
    cases m with
    | zero => cases hx
    | succ m => exact ⟨_, hk, (i5_fx m (hct m (Nat.lt_succ_self m)) _ _ _ hx).conv h1 h2, ⟨_, Tryd.func20, rfl, by decide⟩⟩
  cases h
theorem ct31_ok (m : Nat) (hct : ∀ k, k < m → ∀ R, CallOK (R := R) Tryd.prog (ct k)) {R : Type} {args : List AV} {objs : List Ob} {K : Res → Option R} {r : R} (h : ct31 m args objs K = some r) : ∃ q : Res, K q = some r ∧ FX Tryd.prog 31 args objs q.1 q.2 ∧ HasBody Tryd.prog 31 := by
  unfold ct31 at h
  split at h
  · rename_i l hl
    obtain ⟨x, hx, hk⟩ := Option.bind_eq_some_iff.1 h
    obtain ⟨h1, h2⟩ := sel6_ok hl
    cases m with
    | zero => cases hx
    | succ m => exact ⟨_, hk, (schema_checkOne_fx m (hct m (Nat.lt_succ_self m)) _ hx).conv h1 h2, ⟨_, Tryd.func31, rfl, by decide⟩⟩
  cases h
theorem ct21_ok (m : Nat) (hct : ∀ k, k < m → ∀ R, CallOK (R := R) Tryd.prog (ct k)) {R : Type} {args : List AV} {objs : List Ob} {K : Res → Option R} {r : R} (h : ct21 m args objs K = some r) : ∃ q : Res, K q = some r ∧ FX Tryd.prog 21 args objs q.1 q.2 ∧ HasBody Tryd.prog 21 := by
  unfold ct21 at h
  split at h
  · rename_i l hl
    obtain ⟨x, hx, hk⟩ := Option.bind_eq_some_iff.1 h
    obtain ⟨h1, h2⟩ := sel7_ok hl
    cases m with
    | zero => cases hx
    | succ m => exact ⟨_, hk, (ref14_check_fx m (hct m (Nat.lt_succ_self m)) _ _ _ hx).conv h1 h2, ⟨_, Tryd.func21, rfl, by decide⟩⟩
  cases h
theorem ct56_ok (m : Nat) (hct : ∀ k, k < m → ∀ R, CallOK (R := R) Tryd.prog (ct k)) {R : Type} {args : List AV} {objs : List Ob} {K : Res → Option R} {r : R} (h : ct56 m args objs K = some r) : ∃ q : Res, K q = some r ∧ FX Tryd.prog 56 args objs q.1 q.2 ∧ HasBody Tryd.prog 56 := by
  unfold ct56 at h
  split at h
  · rename_i l hl
    obtain ⟨x, hx, hk⟩ := Option.bind_eq_some_iff.1 h
    obtain ⟨h1, h2⟩ := sel8_ok hl
    cases m with
    | zero => cases hx
    | succ m => exact ⟨_, hk, (schema_isName_fx m (hct m (Nat.lt_succ_self m)) _ hx).conv h1 h2, ⟨_, Tryd.func56, rfl, by decide⟩⟩
  cases h
theorem ct57_ok (m : Nat) (hct : ∀ k, k < m → ∀ R, CallOK (R := R) Tryd.prog (ct k)) {R : Type} {args : List AV} {objs : List Ob} {K : Res → Option R} {r : R} (h : ct57 m args objs K = some r) : ∃ q : Res, K q = some r ∧ FX Tryd.prog 57 args objs q.1 q.2 ∧ HasBody Tryd.prog 57 := by
  unfold ct57 at h
  split at h
  · rename_i l hl
    obtain ⟨x, hx, hk⟩ := Option.bind_eq_some_iff.1 h
    obtain ⟨h1, h2⟩ := sel9_ok hl
    cases m with
    | zero => cases hx
    | succ m => exact ⟨_, hk, (schema_bound_fx m (hct m (Nat.lt_succ_self m)) _ _ hx).conv h1 h2, ⟨_, Tryd.func57, rfl, by decide⟩⟩
  cases h
theorem ct54_ok (m : Nat) (hct : ∀ k, k < m → ∀ R, CallOK (R := R) Tryd.prog (ct k)) {R : Type} {args : List AV} {objs : List Ob} {K : Res → Option R} {r : R} (h : ct54 m args objs K = some r) : ∃ q : Res, K q = some r ∧ FX Tryd.prog 54 args objs q.1 q.2 ∧ HasBody Tryd.prog 54 := by
  unfold ct54 at h
  split at h
  · rename_i l hl
    obtain ⟨x, hx, hk⟩ := Option.bind_eq_some_iff.1 h
    obtain ⟨h1, h2⟩ := sel10_ok hl
    cases m with
    | zero => cases hx
    | succ m => exact ⟨_, hk, (value_Valid_fx m (hct m (Nat.lt_succ_self m)) _ hx).conv h1 h2, ⟨_, Tryd.func54, rfl, by decide⟩⟩
  cases h
theorem ct32_ok (m : Nat) (hct : ∀ k, k < m → ∀ R, CallOK (R := R) Tryd.prog (ct k)) {R : Type} {args : List AV} {objs : List Ob} {K : Res → Option R} {r : R} (h : ct32 m args objs K = some r) : ∃ q : Res, K q = some r ∧ FX Tryd.prog 32 args objs q.1 q.2 ∧ HasBody Tryd.prog 32 := by
  unfold ct32 at h
  split at h
  · rename_i l hl
    obtain ⟨x, hx, hk⟩ := Option.bind_eq_some_iff.1 h
    obtain ⟨h1, h2⟩ := sel11_ok hl
    cases m with
    | zero => cases hx
    | succ m => exact ⟨_, hk, (ref14_single_fx m (hct m (Nat.lt_succ_self m)) _ hx).conv h1 h2, ⟨_, Tryd.func32, rfl, by decide⟩⟩
  cases h
theorem ct51_ok (m : Nat) (hct : ∀ k, k < m → ∀ R, CallOK (R := R) Tryd.prog (ct k)) {R : Type} {args : List AV} {objs : List Ob} {K : Res → Option R} {r : R} (h : ct51 m args objs K = some r) : ∃ q : Res, K q = some r ∧ FX Tryd.prog 51 args objs q.1 q.2 ∧ HasBody Tryd.prog 51 := by
  unfold ct51 at h
  split at h
  · rename_i l hl
    obtain ⟨x, hx, hk⟩ := Option.bind_eq_some_iff.1 h
    obtain ⟨h1, h2⟩ := sel12_ok hl
    cases m with
    | zero => cases hx
    | succ m => exact ⟨_, hk, (value_Nodes_fx m (hct m (Nat.lt_succ_self m)) _ hx).conv h1 h2, ⟨_, Tryd.func51, rfl, by decide⟩⟩
  cases h
theorem ct52_ok (m : Nat) (hct : ∀ k, k < m → ∀ R, CallOK (R := R) Tryd.prog (ct k)) {R : Type} {args : List AV} {objs : List Ob} {K : Res → Option R} {r : R} (h : ct52 m args objs K = some r) : ∃ q : Res, K q = some r ∧ FX Tryd.prog 52 args objs q.1 q.2 ∧ HasBody Tryd.prog 52 := by
  unfold ct52 at h
  split at h
  · rename_i l hl
    obtain ⟨x, hx, hk⟩ := Option.bind_eq_some_iff.1 h
    obtain ⟨h1, h2⟩ := sel13_ok hl
    cases m with
    | zero => cases hx
    | succ m => exact ⟨_, hk, (value_Depth_fx m (hct m (Nat.lt_succ_self m)) _ hx).conv h1 h2, ⟨_, Tryd.func52, rfl, by decide⟩⟩
  cases h
theorem ct75_ok (m : Nat) (hct : ∀ k, k < m → ∀ R, CallOK (R := R) Tryd.prog (ct k)) {R : Type} {args : List AV} {objs : List Ob} {K : Res → Option R} {r : R} (h : ct75 m args objs K = some r) : ∃ q : Res, K q = some r ∧ FX Tryd.prog 75 args objs q.1 q.2 ∧ HasBody Tryd.prog 75 := by
  unfold ct75 at h
  split at h
  · rename_i l hl
    obtain ⟨x, hx, hk⟩ := Option.bind_eq_some_iff.1 h
    obtain ⟨h1, h2⟩ := sel14_ok hl
    cases m with
    | zero => cases hx
    | succ m => exact ⟨_, hk, (value_sound_fx m (hct m (Nat.lt_succ_self m)) _ hx).conv h1 h2, ⟨_, Tryd.func75, rfl, by decide⟩⟩
  cases h
theorem ct58_ok (m : Nat) (hct : ∀ k, k < m → ∀ R, CallOK (R := R) Tryd.prog (ct k)) {R : Type} {args : List AV} {objs : List Ob} {K : Res → Option R} {r : R} (h : ct58 m args objs K = some r) : ∃ q : Res, K q = some r ∧ FX Tryd.prog 58 args objs q.1 q.2 ∧ HasBody Tryd.prog 58 := by
  unfold ct58 at h
  split at h
  · rename_i l hl
    obtain ⟨x, hx, hk⟩ := Option.bind_eq_some_iff.1 h
    obtain ⟨h1, h2⟩ := sel15_ok hl
    cases m with
    | zero => cases hx
    | succ m => exact ⟨_, hk, (ref14_different_fx m (hct m (Nat.lt_succ_self m)) _ hx).conv h1 h2, ⟨_, Tryd.func58, rfl, by decide⟩⟩
  cases h
theorem ct59_ok (m : Nat) (hct : ∀ k, k < m → ∀ R, CallOK (R := R) Tryd.prog (ct k)) {R : Type} {args : List AV} {objs : List Ob} {K : Res → Option R} {r : R} (h : ct59 m args objs K = some r) : ∃ q : Res, K q = some r ∧ FX Tryd.prog 59 args objs q.1 q.2 ∧ HasBody Tryd.prog 59 := by
  unfold ct59 at h
  split at h
  · rename_i l hl
    obtain ⟨x, hx, hk⟩ := Option.bind_eq_some_iff.1 h
    obtain ⟨h1, h2⟩ := sel16_ok hl
    cases m with
    | zero => cases hx
    | succ m => exact ⟨_, hk, (ref14_unused_fx m (hct m (Nat.lt_succ_self m)) _ _ hx).conv h1 h2, ⟨_, Tryd.func59, rfl, by decide⟩⟩
  cases h
theorem ct12_ok (m : Nat) (hct : ∀ k, k < m → ∀ R, CallOK (R := R) Tryd.prog (ct k)) {R : Type} {args : List AV} {objs : List Ob} {K : Res → Option R} {r : R} (h : ct12 m args objs K = some r) : ∃ q : Res, K q = some r ∧ FX Tryd.prog 12 args objs q.1 q.2 ∧ HasBody Tryd.prog 12 := by
  unfold ct12 at h
  split at h
  · rename_i l hl
    obtain ⟨x, hx, hk⟩ := Option.bind_eq_some_iff.1 h
    obtain ⟨h1, h2⟩ := sel17_ok hl
    cases m with
    | zero => cases hx
    | succ m => exact ⟨_, hk, (ref01_Valid_fx m (hct m (Nat.lt_succ_self m)) _ hx).conv h1 h2, ⟨_, Tryd.func12, rfl, by decide⟩⟩
  cases h
theorem ct72_ok (m : Nat) (hct : ∀ k, k < m → ∀ R, CallOK (R := R) Tryd.prog (ct k)) {R : Type} {args : List AV} {objs : List Ob} {K : Res → Option R} {r : R} (h : ct72 m args objs K = some r) : ∃ q : Res, K q = some r ∧ FX Tryd.prog 72 args objs q.1 q.2 ∧ HasBody Tryd.prog 72 := by
  unfold ct72 at h
  split at h
  · rename_i l hl
    obtain ⟨x, hx, hk⟩ := Option.bind_eq_some_iff.1 h
    obtain ⟨h1, h2⟩ := sel18_ok hl
    cases m with
    | zero => cases hx
    | succ m => exact ⟨_, hk, (value_nodes_fx m (hct m (Nat.lt_succ_self m)) _ _ hx).conv h1 h2, ⟨_, Tryd.func72, rfl, by decide⟩⟩
  cases h
theorem ct73_ok (m : Nat) (hct : ∀ k, k < m → ∀ R, CallOK (R := R) Tryd.prog (ct k)) {R : Type} {args : List AV} {objs : List Ob} {K : Res → Option R} {r : R} (h : ct73 m args objs K = some r) : ∃ q : Res, K q = some r ∧ FX Tryd.prog 73 args objs q.1 q.2 ∧ HasBody Tryd.prog 73 := by
  unfold ct73 at h
  split at h
  · rename_i l hl
    obtain ⟨x, hx, hk⟩ := Option.bind_eq_some_iff.1 h
    obtain ⟨h1, h2⟩ := sel19_ok hl
    cases m with
    | zero => cases hx
    | succ m => exact ⟨_, hk, (value_depth_fx m (hct m (Nat.lt_succ_self m)) _ _ hx).conv h1 h2, ⟨_, Tryd.func73, rfl, by decide⟩⟩
  cases h
theorem ct88_ok (m : Nat) (hct : ∀ k, k < m → ∀ R, CallOK (R := R) Tryd.prog (ct k)) {R : Type} {args : List AV} {objs : List Ob} {K : Res → Option R} {r : R} (h : ct88 m args objs K = some r) : ∃ q : Res, K q = some r ∧ FX Tryd.prog 88 args objs q.1 q.2 ∧ HasBody Tryd.prog 88 := by
  unfold ct88 at h
  split at h
  · rename_i l hl
    obtain ⟨x, hx, hk⟩ := Option.bind_eq_some_iff.1 h
    obtain ⟨h1, h2⟩ := sel20_ok hl
    exact ⟨_, hk, (ValidString_fx hx).conv h1 h2, ⟨_, Tryd.func88, rfl, by decide⟩⟩
  cases h
theorem ct89_ok (m : Nat) (hct : ∀ k, k < m → ∀ R, CallOK (R := R) Tryd.prog (ct k)) {R : Type} {args : List AV} {objs : List Ob} {K : Res → Option R} {r : R} (h : ct89 m args objs K = some r) : ∃ q : Res, K q = some r ∧ FX Tryd.prog 89 args objs q.1 q.2 ∧ HasBody Tryd.prog 89 := by
  unfold ct89 at h
  split at h
  · rename_i l hl
    obtain ⟨x, hx, hk⟩ := Option.bind_eq_some_iff.1 h
    obtain ⟨h1, h2⟩ := sel21_ok hl
    cases m with
    | zero => cases hx
    | succ m => exact ⟨_, hk, (value_soundFields_fx m (hct m (Nat.lt_succ_self m)) _ hx).conv h1 h2, ⟨_, Tryd.func89, rfl, by decide⟩⟩
  cases h
theorem ct62_ok (m : Nat) (hct : ∀ k, k < m → ∀ R, CallOK (R := R) Tryd.prog (ct k)) {R : Type} {args : List AV} {objs : List Ob} {K : Res → Option R} {r : R} (h : ct62 m args objs K = some r) : ∃ q : Res, K q = some r ∧ FX Tryd.prog 62 args objs q.1 q.2 ∧ HasBody Tryd.prog 62 := by
  unfold ct62 at h
  split at h
  · rename_i l hl
    obtain ⟨x, hx, hk⟩ := Option.bind_eq_some_iff.1 h
    obtain ⟨h1, h2⟩ := sel22_ok hl
    cases m with
    | zero => cases hx
    | succ m => exact ⟨_, hk, (ref01_Name_fx m (hct m (Nat.lt_succ_self m)) _ hx).conv h1 h2, ⟨_, Tryd.func62, rfl, by decide⟩⟩
  cases h
theorem ct80_ok (m : Nat) (hct : ∀ k, k < m → ∀ R, CallOK (R := R) Tryd.prog (ct k)) {R : Type} {args : List AV} {objs : List Ob} {K : Res → Option R} {r : R} (h : ct80 m args objs K = some r) : ∃ q : Res, K q = some r ∧ FX Tryd.prog 80 args objs q.1 q.2 ∧ HasBody Tryd.prog 80 := by
  unfold ct80 at h
  split at h
  · rename_i l hl
    obtain ⟨x, hx, hk⟩ := Option.bind_eq_some_iff.1 h
    obtain ⟨h1, h2⟩ := sel23_ok hl
    cases m with
    | zero => cases hx
    | succ m => exact ⟨_, hk, (ref01_Same_fx m (hct m (Nat.lt_succ_self m)) _ _ hx).conv h1 h2, ⟨_, Tryd.func80, rfl, by decide⟩⟩
  cases h
theorem ct22_ok (m : Nat) (hct : ∀ k, k < m → ∀ R, CallOK (R := R) Tryd.prog (ct k)) {R : Type} {args : List AV} {objs : List Ob} {K : Res → Option R} {r : R} (h : ct22 m args objs K = some r) : ∃ q : Res, K q = some r ∧ FX Tryd.prog 22 args objs q.1 q.2 ∧ HasBody Tryd.prog 22 := by
  unfold ct22 at h
  split at h
  · rename_i l hl
    obtain ⟨x, hx, hk⟩ := Option.bind_eq_some_iff.1 h
    obtain ⟨h1, h2⟩ := sel24_ok hl
    cases m with
    | zero => cases hx
    | succ m => exact ⟨_, hk, (ref01_Depth_fx m (hct m (Nat.lt_succ_self m)) _ hx).conv h1 h2, ⟨_, Tryd.func22, rfl, by decide⟩⟩
  cases h
theorem ct23_ok (m : Nat) (hct : ∀ k, k < m → ∀ R, CallOK (R := R) Tryd.prog (ct k)) {R : Type} {args : List AV} {objs : List Ob} {K : Res → Option R} {r : R} (h : ct23 m args objs K = some r) : ∃ q : Res, K q = some r ∧ FX Tryd.prog 23 args objs q.1 q.2 ∧ HasBody Tryd.prog 23 := by
  unfold ct23 at h
  split at h
  · rename_i l hl
    obtain ⟨x, hx, hk⟩ := Option.bind_eq_some_iff.1 h
    obtain ⟨h1, h2⟩ := sel25_ok hl
    cases m with
    | zero => cases hx
    | succ m => exact ⟨_, hk, (ref01_Nodes_fx m (hct m (Nat.lt_succ_self m)) _ hx).conv h1 h2, ⟨_, Tryd.func23, rfl, by decide⟩⟩
  cases h
theorem ct24_ok (m : Nat) (hct : ∀ k, k < m → ∀ R, CallOK (R := R) Tryd.prog (ct k)) {R : Type} {args : List AV} {objs : List Ob} {K : Res → Option R} {r : R} (h : ct24 m args objs K = some r) : ∃ q : Res, K q = some r ∧ FX Tryd.prog 24 args objs q.1 q.2 ∧ HasBody Tryd.prog 24 := by
  unfold ct24 at h
  split at h
  · rename_i l hl
    obtain ⟨x, hx, hk⟩ := Option.bind_eq_some_iff.1 h
    obtain ⟨h1, h2⟩ := sel26_ok hl
    cases m with
    | zero => cases hx
    | succ m => exact ⟨_, hk, (ref01_formed_fx m (hct m (Nat.lt_succ_self m)) _ _ hx).conv h1 h2, ⟨_, Tryd.func24, rfl, by decide⟩⟩
  cases h
theorem ct85_ok (m : Nat) (hct : ∀ k, k < m → ∀ R, CallOK (R := R) Tryd.prog (ct k)) {R : Type} {args : List AV} {objs : List Ob} {K : Res → Option R} {r : R} (h : ct85 m args objs K = some r) : ∃ q : Res, K q = some r ∧ FX Tryd.prog 85 args objs q.1 q.2 ∧ HasBody Tryd.prog 85 := by
  unfold ct85 at h
  split at h
  · rename_i l hl
    obtain ⟨x, hx, hk⟩ := Option.bind_eq_some_iff.1 h
    obtain ⟨h1, h2⟩ := sel27_ok hl
    cases m with
    | zero => cases hx
    | succ m => exact ⟨_, hk, (i27_fx m (hct m (Nat.lt_succ_self m)) _ _ _ hx).conv h1 h2, ⟨_, Tryd.func85, rfl, by decide⟩⟩
  split at h
  · rename_i l hl
    obtain ⟨x, hx, hk⟩ := Option.bind_eq_some_iff.1 h
    obtain ⟨h1, h2⟩ := sel29_ok hl
    cases m with
    | zero => cases hx
    | succ m => exact ⟨_, hk, (i29_fx m (hct m (Nat.lt_succ_self m)) _ _ _ hx).conv h1 h2, ⟨_, Tryd.func85, rfl, by decide⟩⟩
  cases h
theorem ct86_ok (m : Nat) (hct : ∀ k, k < m → ∀ R, CallOK (R := R) Tryd.prog (ct k)) {R : Type} {args : List AV} {objs : List Ob} {K : Res → Option R} {r : R} (h : ct86 m args objs K = some r) : ∃ q : Res, K q = some r ∧ FX Tryd.prog 86 args objs q.1 q.2 ∧ HasBody Tryd.prog 86 := by
  unfold ct86 at h
  split at h
  · rename_i l hl
    obtain ⟨x, hx, hk⟩ := Option.bind_eq_some_iff.1 h
    obtain ⟨h1, h2⟩ := sel28_ok hl
    cases m with
    | zero => cases hx
    | succ m => exact ⟨_, hk, (i28_fx m (hct m (Nat.lt_succ_self m)) _ _ _ hx).conv h1 h2, ⟨_, Tryd.func86, rfl, by decide⟩⟩
  cases h
theorem ct87_ok (m : Nat) (hct : ∀ k, k < m → ∀ R, CallOK (R := R) Tryd.prog (ct k)) {R : Type} {args : List AV} {objs : List Ob} {K : Res → Option R} {r : R} (h : ct87 m args objs K = some r) : ∃ q : Res, K q = some r ∧ FX Tryd.prog 87 args objs q.1 q.2 ∧ HasBody Tryd.prog 87 := by
  unfold ct87 at h
  split at h
  · rename_i l hl
    obtain ⟨x, hx, hk⟩ := Option.bind_eq_some_iff.1 h
    obtain ⟨h1, h2⟩ := sel30_ok hl
    cases m with
    | zero => cases hx
    | succ m => exact ⟨_, hk, (i30_fx m (hct m (Nat.lt_succ_self m)) _ _ _ hx).conv h1 h2, ⟨_, Tryd.func87, rfl, by decide⟩⟩
  cases h
theorem ct99_ok (m : Nat) (hct : ∀ k, k < m → ∀ R, CallOK (R := R) Tryd.prog (ct k)) {R : Type} {args : List AV} {objs : List Ob} {K : Res → Option R} {r : R} (h : ct99 m args objs K = some r) : ∃ q : Res, K q = some r ∧ FX Tryd.prog 99 args objs q.1 q.2 ∧ HasBody Tryd.prog 99 := by
  unfold ct99 at h
  split at h
  · rename_i l hl
    obtain ⟨x, hx, hk⟩ := Option.bind_eq_some_iff.1 h
    obtain ⟨h1, h2⟩ := sel31_ok hl
    cases m with
    | zero => cases hx
    | succ m => exact ⟨_, hk, (value_isName_fx m (hct m (Nat.lt_succ_self m)) _ hx).conv h1 h2, ⟨_, Tryd.func99, rfl, by decide⟩⟩
  cases h
theorem ct33_ok (m : Nat) (hct : ∀ k, k < m → ∀ R, CallOK (R := R) Tryd.prog (ct k)) {R : Type} {args : List AV} {objs : List Ob} {K : Res → Option R} {r : R} (h : ct33 m args objs K = some r) : ∃ q : Res, K q = some r ∧ FX Tryd.prog 33 args objs q.1 q.2 ∧ HasBody Tryd.prog 33 := by
  unfold ct33 at h
  split at h
  · rename_i l hl
    obtain ⟨x, hx, hk⟩ := Option.bind_eq_some_iff.1 h
    obtain ⟨h1, h2⟩ := sel32_ok hl
    cases m with
    | zero => cases hx
    | succ m => exact ⟨_, hk, (ref01_levels_fx m (hct m (Nat.lt_succ_self m)) _ _ hx).conv h1 h2, ⟨_, Tryd.func33, rfl, by decide⟩⟩
  cases h
theorem ct34_ok (m : Nat) (hct : ∀ k, k < m → ∀ R, CallOK (R := R) Tryd.prog (ct k)) {R : Type} {args : List AV} {objs : List Ob} {K : Res → Option R} {r : R} (h : ct34 m args objs K = some r) : ∃ q : Res, K q = some r ∧ FX Tryd.prog 34 args objs q.1 q.2 ∧ HasBody Tryd.prog 34 := by
  unfold ct34 at h
  split at h
  · rename_i l hl
    obtain ⟨x, hx, hk⟩ := Option.bind_eq_some_iff.1 h
    obtain ⟨h1, h2⟩ := sel33_ok hl
    cases m with
    | zero => cases hx
    | succ m => exact ⟨_, hk, (ref01_count_fx m (hct m (Nat.lt_succ_self m)) _ _ hx).conv h1 h2, ⟨_, Tryd.func34, rfl, by decide⟩⟩
  cases h
theorem ct35_ok (m : Nat) (hct : ∀ k, k < m → ∀ R, CallOK (R := R) Tryd.prog (ct k)) {R : Type} {args : List AV} {objs : List Ob} {K : Res → Option R} {r : R} (h : ct35 m args objs K = some r) : ∃ q : Res, K q = some r ∧ FX Tryd.prog 35 args objs q.1 q.2 ∧ HasBody Tryd.prog 35 := by
  unfold ct35 at h
  split at h
  · rename_i l hl
    obtain ⟨x, hx, hk⟩ := Option.bind_eq_some_iff.1 h
    obtain ⟨h1, h2⟩ := sel34_ok hl
    cases m with
    | zero => cases hx
    | succ m => exact ⟨_, hk, (ref01_UTF8_fx m (hct m (Nat.lt_succ_self m)) _ hx).conv h1 h2, ⟨_, Tryd.func35, rfl, by decide⟩⟩
  cases h
theorem ct36_ok (m : Nat) (hct : ∀ k, k < m → ∀ R, CallOK (R := R) Tryd.prog (ct k)) {R : Type} {args : List AV} {objs : List Ob} {K : Res → Option R} {r : R} (h : ct36 m args objs K = some r) : ∃ q : Res, K q = some r ∧ FX Tryd.prog 36 args objs q.1 q.2 ∧ HasBody Tryd.prog 36 := by
  unfold ct36 at h
  split at h
  · rename_i l hl
    obtain ⟨x, hx, hk⟩ := Option.bind_eq_some_iff.1 h
    obtain ⟨h1, h2⟩ := sel35_ok hl
    cases m with
    | zero => cases hx
    | succ m => exact ⟨_, hk, (ref01_fields_fx m (hct m (Nat.lt_succ_self m)) _ _ hx).conv h1 h2, ⟨_, Tryd.func36, rfl, by decide⟩⟩
  cases h
theorem ct60_ok (m : Nat) (hct : ∀ k, k < m → ∀ R, CallOK (R := R) Tryd.prog (ct k)) {R : Type} {args : List AV} {objs : List Ob} {K : Res → Option R} {r : R} (h : ct60 m args objs K = some r) : ∃ q : Res, K q = some r ∧ FX Tryd.prog 60 args objs q.1 q.2 ∧ HasBody Tryd.prog 60 := by
  unfold ct60 at h
  split at h
  · rename_i l hl
    obtain ⟨x, hx, hk⟩ := Option.bind_eq_some_iff.1 h
    obtain ⟨h1, h2⟩ := sel36_ok hl
    cases m with
    | zero => cases hx
    | succ m => exact ⟨_, hk, (ref01_Parts_fx m (hct m (Nat.lt_succ_self m)) _ hx).conv h1 h2, ⟨_, Tryd.func60, rfl, by decide⟩⟩
  cases h
theorem ct61_ok (m : Nat) (hct : ∀ k, k < m → ∀ R, CallOK (R := R) Tryd.prog (ct k)) {R : Type} {args : List AV} {objs : List Ob} {K : Res → Option R} {r : R} (h : ct61 m args objs K = some r) : ∃ q : Res, K q = some r ∧ FX Tryd.prog 61 args objs q.1 q.2 ∧ HasBody Tryd.prog 61 := by
  unfold ct61 at h
  split at h
  · rename_i l hl
    obtain ⟨x, hx, hk⟩ := Option.bind_eq_some_iff.1 h
    obtain ⟨h1, h2⟩ := sel37_ok hl
    cases m with
    | zero => cases hx
    | succ m => exact ⟨_, hk, (ref01_tail_fx m (hct m (Nat.lt_succ_self m)) _ _ _ hx).conv h1 h2, ⟨_, Tryd.func61, rfl, by decide⟩⟩
  cases h
theorem ct63_ok (m : Nat) (hct : ∀ k, k < m → ∀ R, CallOK (R := R) Tryd.prog (ct k)) {R : Type} {args : List AV} {objs : List Ob} {K : Res → Option R} {r : R} (h : ct63 m args objs K = some r) : ∃ q : Res, K q = some r ∧ FX Tryd.prog 63 args objs q.1 q.2 ∧ HasBody Tryd.prog 63 := by
  unfold ct63 at h
  split at h
  · rename_i l hl
    obtain ⟨x, hx, hk⟩ := Option.bind_eq_some_iff.1 h
    obtain ⟨h1, h2⟩ := sel38_ok hl
    cases m with
    | zero => cases hx
    | succ m => exact ⟨_, hk, (ref01_wide_fx m (hct m (Nat.lt_succ_self m)) _ hx).conv h1 h2, ⟨_, Tryd.func63, rfl, by decide⟩⟩
  cases h
set_option maxHeartbeats 4000000 in
theorem ct_ok : ∀ (m : Nat) (R : Type), CallOK (R := R) Tryd.prog (ct m) := by
  intro m
  induction m using Nat.strongRecOn with
  | _ m ih =>
    intro R f args objs K r h
    unfold ct at h
    rcases bset_some h with ⟨hb, h1⟩ | ⟨_, h⟩
    · have e := beq_eq hb
      subst e
      exact ct3_ok m ih h1
    rcases bset_some h with ⟨hb, h1⟩ | ⟨_, h⟩
    · have e := beq_eq hb
      subst e
      exact ct7_ok m ih h1
    rcases bset_some h with ⟨hb, h1⟩ | ⟨_, h⟩
    · have e := beq_eq hb
      subst e
      exact ct8_ok m ih h1
    rcases bset_some h with ⟨hb, h1⟩ | ⟨_, h⟩
    · have e := beq_eq hb
      subst e
      exact ct9_ok m ih h1
    rcases bset_some h with ⟨hb, h1⟩ | ⟨_, h⟩
    · have e := beq_eq hb
      subst e
      exact ct10_ok m ih h1
    rcases bset_some h with ⟨hb, h1⟩ | ⟨_, h⟩
    · have e := beq_eq hb
      subst e
      exact ct20_ok m ih h1
    rcases bset_some h with ⟨hb, h1⟩ | ⟨_, h⟩
    · have e := beq_eq hb
      subst e
      exact ct31_ok m ih h1
    rcases bset_some h with ⟨hb, h1⟩ | ⟨_, h⟩
    · have e := beq_eq hb
      subst e
      exact ct21_ok m ih h1
    rcases bset_some h with ⟨hb, h1⟩ | ⟨_, h⟩
    · have e := beq_eq hb
      subst e
      exact ct56_ok m ih h1
    rcases bset_some h with ⟨hb, h1⟩ | ⟨_, h⟩
    · have e := beq_eq hb
      subst e
      exact ct57_ok m ih h1
    rcases bset_some h with ⟨hb, h1⟩ | ⟨_, h⟩
    · have e := beq_eq hb
      subst e
      exact ct54_ok m ih h1
    rcases bset_some h with ⟨hb, h1⟩ | ⟨_, h⟩
    · have e := beq_eq hb
      subst e
      exact ct32_ok m ih h1
    rcases bset_some h with ⟨hb, h1⟩ | ⟨_, h⟩
    · have e := beq_eq hb
      subst e
      exact ct51_ok m ih h1
    rcases bset_some h with ⟨hb, h1⟩ | ⟨_, h⟩
    · have e := beq_eq hb
      subst e
      exact ct52_ok m ih h1
    rcases bset_some h with ⟨hb, h1⟩ | ⟨_, h⟩
    · have e := beq_eq hb
      subst e
      exact ct75_ok m ih h1
    rcases bset_some h with ⟨hb, h1⟩ | ⟨_, h⟩
    · have e := beq_eq hb
      subst e
      exact ct58_ok m ih h1
    rcases bset_some h with ⟨hb, h1⟩ | ⟨_, h⟩
    · have e := beq_eq hb
      subst e
      exact ct59_ok m ih h1
    rcases bset_some h with ⟨hb, h1⟩ | ⟨_, h⟩
    · have e := beq_eq hb
      subst e
      exact ct12_ok m ih h1
    rcases bset_some h with ⟨hb, h1⟩ | ⟨_, h⟩
    · have e := beq_eq hb
      subst e
      exact ct72_ok m ih h1
    rcases bset_some h with ⟨hb, h1⟩ | ⟨_, h⟩
    · have e := beq_eq hb
      subst e
      exact ct73_ok m ih h1
    rcases bset_some h with ⟨hb, h1⟩ | ⟨_, h⟩
    · have e := beq_eq hb
      subst e
      exact ct88_ok m ih h1
    rcases bset_some h with ⟨hb, h1⟩ | ⟨_, h⟩
    · have e := beq_eq hb
      subst e
      exact ct89_ok m ih h1
    rcases bset_some h with ⟨hb, h1⟩ | ⟨_, h⟩
    · have e := beq_eq hb
      subst e
      exact ct62_ok m ih h1
    rcases bset_some h with ⟨hb, h1⟩ | ⟨_, h⟩
    · have e := beq_eq hb
      subst e
      exact ct80_ok m ih h1
    rcases bset_some h with ⟨hb, h1⟩ | ⟨_, h⟩
    · have e := beq_eq hb
      subst e
      exact ct22_ok m ih h1
    rcases bset_some h with ⟨hb, h1⟩ | ⟨_, h⟩
    · have e := beq_eq hb
      subst e
      exact ct23_ok m ih h1
    rcases bset_some h with ⟨hb, h1⟩ | ⟨_, h⟩
    · have e := beq_eq hb
      subst e
      exact ct24_ok m ih h1
    rcases bset_some h with ⟨hb, h1⟩ | ⟨_, h⟩
    · have e := beq_eq hb
      subst e
      exact ct85_ok m ih h1
    rcases bset_some h with ⟨hb, h1⟩ | ⟨_, h⟩
    · have e := beq_eq hb
      subst e
      exact ct86_ok m ih h1
    rcases bset_some h with ⟨hb, h1⟩ | ⟨_, h⟩
    · have e := beq_eq hb
      subst e
      exact ct87_ok m ih h1
    rcases bset_some h with ⟨hb, h1⟩ | ⟨_, h⟩
    · have e := beq_eq hb
      subst e
      exact ct99_ok m ih h1
    rcases bset_some h with ⟨hb, h1⟩ | ⟨_, h⟩
    · have e := beq_eq hb
      subst e
      exact ct33_ok m ih h1
    rcases bset_some h with ⟨hb, h1⟩ | ⟨_, h⟩
    · have e := beq_eq hb
      subst e
      exact ct34_ok m ih h1
    rcases bset_some h with ⟨hb, h1⟩ | ⟨_, h⟩
    · have e := beq_eq hb
      subst e
      exact ct35_ok m ih h1
    rcases bset_some h with ⟨hb, h1⟩ | ⟨_, h⟩
    · have e := beq_eq hb
      subst e
      exact ct36_ok m ih h1
    rcases bset_some h with ⟨hb, h1⟩ | ⟨_, h⟩
    · have e := beq_eq hb
      subst e
      exact ct60_ok m ih h1
    rcases bset_some h with ⟨hb, h1⟩ | ⟨_, h⟩
    · have e := beq_eq hb
      subst e
      exact ct61_ok m ih h1
    rcases bset_some h with ⟨hb, h1⟩ | ⟨_, h⟩
    · have e := beq_eq hb
      subst e
      exact ct63_ok m ih h1
    cases h
end Go.Proofs.YtfneddmmeadacaaDoor
