/- Generated: the contracts. -/
import Derived.Test.YtfneddmmeadacaaGreatDoorEq0
import Derived.Test.YtfneddmmeadacaaGreatDoorEq1
import Derived.Test.YtfneddmmeadacaaGreatDoorEq2
set_option linter.unusedVariables false
set_option linter.unusedSimpArgs false
namespace Go.Proofs.YtfneddmmeadacaaGreatDoor
open Go.Am
set_option maxRecDepth 100000
theorem mixed : Tryz.prog.follows .mixedOrders = true := by kernel_rfl
theorem ref02_count_fx (m : Nat) (hct : ∀ R, CallOK (R := R) Tryz.prog (ct m)) (a0 : Dt) (a1 a2 : Int) {r : Int} (h : ref02_count (m + 1) a0 a1 a2 = some r) : FX Tryz.prog 17 [(.dat 25 a0), (.dat 3 (.int a1)), (.dat 3 (.int a2))] [] (.dat 3 (.int r)) [] :=
  FX_of (q := ((.dat 3 (.int r)), [])) (E := env) (m := m + 1) (dec := d6) jn_ok (hct _) mixed Tryz.func17 rfl (Nat.le_of_ble_eq_true rfl) (fun b hb => d6_sim hb) ((ref02_count_eq m a0 a1 a2).trans h)
theorem ref02_Few_fx (m : Nat) (hct : ∀ R, CallOK (R := R) Tryz.prog (ct m)) (a0 : Dt) (a1 : Int) {r : Bool} (h : ref02_Few (m + 1) a0 a1 = some r) : FX Tryz.prog 6 [(.dat 25 a0), (.dat 3 (.int a1))] [] (.dat 4 (.bool r)) [] :=
  FX_of (q := ((.dat 4 (.bool r)), [])) (E := env) (m := m + 1) (dec := d1) jn_ok (hct _) mixed Tryz.func6 rfl (Nat.le_of_ble_eq_true rfl) (fun b hb => d1_sim hb) ((ref02_Few_eq m a0 a1).trans h)
theorem ref01_Same_fx (m : Nat) (hct : ∀ R, CallOK (R := R) Tryz.prog (ct m)) (a0 a1 : Dt) {r : Bool} (h : ref01_Same (m + 1) a0 a1 = some r) : FX Tryz.prog 26 [(.dat 25 a0), (.dat 25 a1)] [] (.dat 4 (.bool r)) [] :=
  FX_of (q := ((.dat 4 (.bool r)), [])) (E := env) (m := m + 1) (dec := d14) jn_ok (hct _) mixed Tryz.func26 rfl (Nat.le_of_ble_eq_true rfl) (fun b hb => d14_sim hb) ((ref01_Same_eq m a0 a1).trans h)
theorem ref01_SameList_fx (m : Nat) (hct : ∀ R, CallOK (R := R) Tryz.prog (ct m)) (a0 a1 : List Dt) {r : Bool} (h : ref01_SameList (m + 1) a0 a1 = some r) : FX Tryz.prog 27 [(.dat 22 (.lst a0)), (.dat 22 (.lst a1))] [] (.dat 4 (.bool r)) [] :=
  FX_of (q := ((.dat 4 (.bool r)), [])) (E := env) (m := m + 1) (dec := d15) jn_ok (hct _) mixed Tryz.func27 rfl (Nat.le_of_ble_eq_true rfl) (fun b hb => d15_sim hb) ((ref01_SameList_eq m a0 a1).trans h)
theorem schema_clone_fx (m : Nat) (hct : ∀ R, CallOK (R := R) Tryz.prog (ct m)) (a0 : Dt) {r : Dt} (h : schema_clone (m + 1) a0 = some r) : FX Tryz.prog 67 [(.dat 25 a0)] [] (.dat 25 r) [] :=
  FX_of (q := ((.dat 25 r), [])) (E := env) (m := m + 1) (dec := d18) jn_ok (hct _) mixed Tryz.func67 rfl (Nat.le_of_ble_eq_true rfl) (fun b hb => d18_sim hb) ((schema_clone_eq m a0).trans h)
theorem schema_parseNames_fx (m : Nat) (hct : ∀ R, CallOK (R := R) Tryz.prog (ct m)) (a0 : Dt) {r : List Dt × Bool} (h : schema_parseNames (m + 1) a0 = some r) : FX Tryz.prog 68 [(.dat 25 a0)] [] (.tup [(.dat 28 (.lst r.1)), (.dat 4 (.bool r.2))]) [] :=
  FX_of (q := ((.tup [(.dat 28 (.lst r.1)), (.dat 4 (.bool r.2))]), [])) (E := env) (m := m + 1) (dec := d19) jn_ok (hct _) mixed Tryz.func68 rfl (Nat.le_of_ble_eq_true rfl) (fun b hb => d19_sim hb) ((schema_parseNames_eq m a0).trans h)
theorem ref04_prefix_fx (m : Nat) (hct : ∀ R, CallOK (R := R) Tryz.prog (ct m)) (a0 a1 : List Dt) {r : Bool} (h : ref04_prefix (m + 1) a0 a1 = some r) : FX Tryz.prog 43 [(.dat 28 (.lst a0)), (.dat 28 (.lst a1))] [] (.dat 4 (.bool r)) [] :=
  FX_of (q := ((.dat 4 (.bool r)), [])) (E := env) (m := m + 1) (dec := d32) jn_ok (hct _) mixed Tryz.func43 rfl (Nat.le_of_ble_eq_true rfl) (fun b hb => d32_sim hb) ((ref04_prefix_eq m a0 a1).trans h)
theorem ref04_Same_fx (m : Nat) (hct : ∀ R, CallOK (R := R) Tryz.prog (ct m)) (a0 a1 : List Dt) {r : Bool} (h : ref04_Same (m + 1) a0 a1 = some r) : FX Tryz.prog 28 [(.dat 28 (.lst a0)), (.dat 28 (.lst a1))] [] (.dat 4 (.bool r)) [] :=
  FX_of (q := ((.dat 4 (.bool r)), [])) (E := env) (m := m + 1) (dec := d13) jn_ok (hct _) mixed Tryz.func28 rfl (Nat.le_of_ble_eq_true rfl) (fun b hb => d13_sim hb) ((ref04_Same_eq m a0 a1).trans h)
theorem ref14_Same_fx (m : Nat) (hct : ∀ R, CallOK (R := R) Tryz.prog (ct m)) (a0 a1 : Dt) {r : Bool} (h : ref14_Same (m + 1) a0 a1 = some r) : FX Tryz.prog 10 [(.dat 32 a0), (.dat 32 a1)] [] (.dat 4 (.bool r)) [] :=
  FX_of (q := ((.dat 4 (.bool r)), [])) (E := env) (m := m + 1) (dec := d5) jn_ok (hct _) mixed Tryz.func10 rfl (Nat.le_of_ble_eq_true rfl) (fun b hb => d5_sim hb) ((ref14_Same_eq m a0 a1).trans h)
theorem schema_kindOf_fx (m : Nat) (hct : ∀ R, CallOK (R := R) Tryz.prog (ct m)) (a0 : Dt) {r : Int} (h : schema_kindOf (m + 1) a0 = some r) : FX Tryz.prog 99 [(.dat 25 a0)] [] (.dat 3 (.int r)) [] :=
  FX_of (q := ((.dat 3 (.int r)), [])) (E := env) (m := m + 1) (dec := d33) jn_ok (hct _) mixed Tryz.func99 rfl (Nat.le_of_ble_eq_true rfl) (fun b hb => d33_sim hb) ((schema_kindOf_eq m a0).trans h)
theorem schema_parseKinds_fx (m : Nat) (hct : ∀ R, CallOK (R := R) Tryz.prog (ct m)) (a0 : Dt) {r : Int × Bool} (h : schema_parseKinds (m + 1) a0 = some r) : FX Tryz.prog 66 [(.dat 25 a0)] [] (.tup [(.dat 3 (.int r.1)), (.dat 4 (.bool r.2))]) [] :=
  FX_of (q := ((.tup [(.dat 3 (.int r.1)), (.dat 4 (.bool r.2))]), [])) (E := env) (m := m + 1) (dec := d17) jn_ok (hct _) mixed Tryz.func66 rfl (Nat.le_of_ble_eq_true rfl) (fun b hb => d17_sim hb) ((schema_parseKinds_eq m a0).trans h)
theorem schema_parse_fx (m : Nat) (hct : ∀ R, CallOK (R := R) Tryz.prog (ct m)) (a0 : Dt) {r : Dt × Bool} (h : schema_parse (m + 1) a0 = some r) : FX Tryz.prog 22 [(.dat 25 a0)] [] (.tup [(.dat 32 r.1), (.dat 4 (.bool r.2))]) [] :=
  FX_of (q := ((.tup [(.dat 32 r.1), (.dat 4 (.bool r.2))]), [])) (E := env) (m := m + 1) (dec := d7) jn_ok (hct _) mixed Tryz.func22 rfl (Nat.le_of_ble_eq_true rfl) (fun b hb => d7_sim hb) ((schema_parse_eq m a0).trans h)
theorem i16_fx (m : Nat) (hct : ∀ R, CallOK (R := R) Tryz.prog (ct m)) (a0 : ByteArray) (a1 a2 : Dt) {r : Bool × Dt} (h : i16 (m + 1) a0 a1 a2 = some r) : FX Tryz.prog 37 [(.ptr 0 [] 0), (.dat 9 (.str a0)), (.dat 25 a1)] [(.box 32 (.dat 32 a2))] (.dat 4 (.bool r.1)) [(.box 32 (.dat 32 r.2))] :=
  FX_of (q := ((.dat 4 (.bool r.1)), [(.box 32 (.dat 32 r.2))])) (E := env) (m := m + 1) (dec := d16) jn_ok (hct _) mixed Tryz.func37 rfl (Nat.le_of_ble_eq_true rfl) (fun b hb => d16_sim hb) ((i16_eq m a0 a1 a2).trans h)
theorem schema_parseProps_fx (m : Nat) (hct : ∀ R, CallOK (R := R) Tryz.prog (ct m)) (a0 : Dt) {r : List Dt × Bool} (h : schema_parseProps (m + 1) a0 = some r) : FX Tryz.prog 69 [(.dat 25 a0)] [] (.tup [(.dat 29 (.lst r.1)), (.dat 4 (.bool r.2))]) [] :=
  FX_of (q := ((.tup [(.dat 29 (.lst r.1)), (.dat 4 (.bool r.2))]), [])) (E := env) (m := m + 1) (dec := d20) jn_ok (hct _) mixed Tryz.func69 rfl (Nat.le_of_ble_eq_true rfl) (fun b hb => d20_sim hb) ((schema_parseProps_eq m a0).trans h)
theorem schema_isName_fx (m : Nat) (hct : ∀ R, CallOK (R := R) Tryz.prog (ct m)) (a0 : ByteArray) {r : Bool} (h : schema_isName (m + 1) a0 = some r) : FX Tryz.prog 92 [(.dat 9 (.str a0))] [] (.dat 4 (.bool r)) [] :=
  FX_of (q := ((.dat 4 (.bool r)), [])) (E := env) (m := m + 1) (dec := d34) jn_ok (hct _) mixed Tryz.func92 rfl (Nat.le_of_ble_eq_true rfl) (fun b hb => d34_sim hb) ((schema_isName_eq m a0).trans h)
theorem value_nodes_fx (m : Nat) (hct : ∀ R, CallOK (R := R) Tryz.prog (ct m)) (a0 : Dt) (a1 : Int) {r : Int} (h : value_nodes (m + 1) a0 a1 = some r) : FX Tryz.prog 62 [(.dat 25 a0), (.dat 3 (.int a1))] [] (.dat 3 (.int r)) [] :=
  FX_of (q := ((.dat 3 (.int r)), [])) (E := env) (m := m + 1) (dec := d36) jn_ok (hct _) mixed Tryz.func62 rfl (Nat.le_of_ble_eq_true rfl) (fun b hb => d36_sim hb) ((value_nodes_eq m a0 a1).trans h)
theorem i49_fx (m : Nat) (hct : ∀ R, CallOK (R := R) Tryz.prog (ct m)) (a0 : Dt) (a1 a2 : Int) {r : Int × Int} (h : i49 (m + 1) a0 a1 a2 = some r) : FX Tryz.prog 94 [(.dat 25 a0), (.fn 95 [(.ptr 0 [] 0), (.ptr 1 [] 0)])] [(.box 3 (.dat 3 (.int a1))), (.box 3 (.dat 3 (.int a2)))] (.tup []) [(.box 3 (.dat 3 (.int r.1))), (.box 3 (.dat 3 (.int r.2)))] :=
  FX_of (q := ((.tup []), [(.box 3 (.dat 3 (.int r.1))), (.box 3 (.dat 3 (.int r.2)))])) (E := env) (m := m + 1) (dec := d49) jn_ok (hct _) mixed Tryz.func94 rfl (Nat.le_of_ble_eq_true rfl) (fun b hb => d49_sim hb) ((i49_eq m a0 a1 a2).trans h)
theorem i50_fx (m : Nat) (hct : ∀ R, CallOK (R := R) Tryz.prog (ct m)) (a0 : Dt) (a1 a2 : Int) {r : Bool × Int × Int} (h : i50 (m + 1) a0 a1 a2 = some r) : FX Tryz.prog 95 [(.dat 25 a0), (.ptr 0 [] 0), (.ptr 1 [] 0)] [(.box 3 (.dat 3 (.int a1))), (.box 3 (.dat 3 (.int a2)))] (.dat 4 (.bool r.1)) [(.box 3 (.dat 3 (.int r.2.1))), (.box 3 (.dat 3 (.int r.2.2)))] :=
  FX_of (q := ((.dat 4 (.bool r.1)), [(.box 3 (.dat 3 (.int r.2.1))), (.box 3 (.dat 3 (.int r.2.2)))])) (E := env) (m := m + 1) (dec := d50) jn_ok (hct _) mixed Tryz.func95 rfl (Nat.le_of_ble_eq_true rfl) (fun b hb => d50_sim hb) ((i50_eq m a0 a1 a2).trans h)
theorem value_Nodes_fx (m : Nat) (hct : ∀ R, CallOK (R := R) Tryz.prog (ct m)) (a0 : Dt) {r : Int} (h : value_Nodes (m + 1) a0 = some r) : FX Tryz.prog 33 [(.dat 25 a0)] [] (.dat 3 (.int r)) [] :=
  FX_of (q := ((.dat 3 (.int r)), [])) (E := env) (m := m + 1) (dec := d23) jn_ok (hct _) mixed Tryz.func33 rfl (Nat.le_of_ble_eq_true rfl) (fun b hb => d23_sim hb) ((value_Nodes_eq m a0).trans h)
theorem schema_isField_fx (m : Nat) (hct : ∀ R, CallOK (R := R) Tryz.prog (ct m)) (a0 : ByteArray) {r : Bool} (h : schema_isField (m + 1) a0 = some r) : FX Tryz.prog 64 [(.dat 9 (.str a0))] [] (.dat 4 (.bool r)) [] :=
  FX_of (q := ((.dat 4 (.bool r)), [])) (E := env) (m := m + 1) (dec := d38) jn_ok (hct _) mixed Tryz.func64 rfl (Nat.le_of_ble_eq_true rfl) (fun b hb => d38_sim hb) ((schema_isField_eq m a0).trans h)
theorem schema_rename_fx (m : Nat) (hct : ∀ R, CallOK (R := R) Tryz.prog (ct m)) (a0 : Dt) {r : Dt × Bool} (h : schema_rename (m + 1) a0 = some r) : FX Tryz.prog 35 [(.dat 25 a0)] [] (.tup [(.dat 25 r.1), (.dat 4 (.bool r.2))]) [] :=
  FX_of (q := ((.tup [(.dat 25 r.1), (.dat 4 (.bool r.2))]), [])) (E := env) (m := m + 1) (dec := d24) jn_ok (hct _) mixed Tryz.func35 rfl (Nat.le_of_ble_eq_true rfl) (fun b hb => d24_sim hb) ((schema_rename_eq m a0).trans h)
theorem value_depth_fx (m : Nat) (hct : ∀ R, CallOK (R := R) Tryz.prog (ct m)) (a0 : Dt) (a1 : Int) {r : Int} (h : value_depth (m + 1) a0 a1 = some r) : FX Tryz.prog 63 [(.dat 25 a0), (.dat 3 (.int a1))] [] (.dat 3 (.int r)) [] :=
  FX_of (q := ((.dat 3 (.int r)), [])) (E := env) (m := m + 1) (dec := d40) jn_ok (hct _) mixed Tryz.func63 rfl (Nat.le_of_ble_eq_true rfl) (fun b hb => d40_sim hb) ((value_depth_eq m a0 a1).trans h)
theorem i53_fx (m : Nat) (hct : ∀ R, CallOK (R := R) Tryz.prog (ct m)) (a0 : Dt) (a1 a2 : Int) {r : Int × Int} (h : i53 (m + 1) a0 a1 a2 = some r) : FX Tryz.prog 94 [(.dat 25 a0), (.fn 96 [(.ptr 0 [] 0), (.ptr 1 [] 0)])] [(.box 3 (.dat 3 (.int a1))), (.box 3 (.dat 3 (.int a2)))] (.tup []) [(.box 3 (.dat 3 (.int r.1))), (.box 3 (.dat 3 (.int r.2)))] :=
  FX_of (q := ((.tup []), [(.box 3 (.dat 3 (.int r.1))), (.box 3 (.dat 3 (.int r.2)))])) (E := env) (m := m + 1) (dec := d53) jn_ok (hct _) mixed Tryz.func94 rfl (Nat.le_of_ble_eq_true rfl) (fun b hb => d53_sim hb) ((i53_eq m a0 a1 a2).trans h)
theorem i54_fx (m : Nat) (hct : ∀ R, CallOK (R := R) Tryz.prog (ct m)) (a0 : Dt) (a1 a2 : Int) {r : Bool × Int × Int} (h : i54 (m + 1) a0 a1 a2 = some r) : FX Tryz.prog 96 [(.dat 25 a0), (.ptr 0 [] 0), (.ptr 1 [] 0)] [(.box 3 (.dat 3 (.int a1))), (.box 3 (.dat 3 (.int a2)))] (.dat 4 (.bool r.1)) [(.box 3 (.dat 3 (.int r.2.1))), (.box 3 (.dat 3 (.int r.2.2)))] :=
  FX_of (q := ((.dat 4 (.bool r.1)), [(.box 3 (.dat 3 (.int r.2.1))), (.box 3 (.dat 3 (.int r.2.2)))])) (E := env) (m := m + 1) (dec := d54) jn_ok (hct _) mixed Tryz.func96 rfl (Nat.le_of_ble_eq_true rfl) (fun b hb => d54_sim hb) ((i54_eq m a0 a1 a2).trans h)
theorem value_Depth_fx (m : Nat) (hct : ∀ R, CallOK (R := R) Tryz.prog (ct m)) (a0 : Dt) {r : Int} (h : value_Depth (m + 1) a0 = some r) : FX Tryz.prog 34 [(.dat 25 a0)] [] (.dat 3 (.int r)) [] :=
  FX_of (q := ((.dat 3 (.int r)), [])) (E := env) (m := m + 1) (dec := d26) jn_ok (hct _) mixed Tryz.func34 rfl (Nat.le_of_ble_eq_true rfl) (fun b hb => d26_sim hb) ((value_Depth_eq m a0).trans h)
theorem ref14_texts_fx (m : Nat) (hct : ∀ R, CallOK (R := R) Tryz.prog (ct m)) (a0 : Dt) {r : List Dt × Bool} (h : ref14_texts (m + 1) a0 = some r) : FX Tryz.prog 75 [(.dat 25 a0)] [] (.tup [(.dat 28 (.lst r.1)), (.dat 4 (.bool r.2))]) [] :=
  FX_of (q := ((.tup [(.dat 28 (.lst r.1)), (.dat 4 (.bool r.2))]), [])) (E := env) (m := m + 1) (dec := d42) jn_ok (hct _) mixed Tryz.func75 rfl (Nat.le_of_ble_eq_true rfl) (fun b hb => d42_sim hb) ((ref14_texts_eq m a0).trans h)
theorem ref14_kind_fx (m : Nat) (hct : ∀ R, CallOK (R := R) Tryz.prog (ct m)) (a0 : Dt) {r : Int} (h : ref14_kind (m + 1) a0 = some r) : FX Tryz.prog 104 [(.dat 25 a0)] [] (.dat 3 (.int r)) [] :=
  FX_of (q := ((.dat 3 (.int r)), [])) (E := env) (m := m + 1) (dec := d55) jn_ok (hct _) mixed Tryz.func104 rfl (Nat.le_of_ble_eq_true rfl) (fun b hb => d55_sim hb) ((ref14_kind_eq m a0).trans h)
theorem ref14_kinds_fx (m : Nat) (hct : ∀ R, CallOK (R := R) Tryz.prog (ct m)) (a0 : Dt) {r : Int} (h : ref14_kinds (m + 1) a0 = some r) : FX Tryz.prog 74 [(.dat 25 a0)] [] (.dat 3 (.int r)) [] :=
  FX_of (q := ((.dat 3 (.int r)), [])) (E := env) (m := m + 1) (dec := d41) jn_ok (hct _) mixed Tryz.func74 rfl (Nat.le_of_ble_eq_true rfl) (fun b hb => d41_sim hb) ((ref14_kinds_eq m a0).trans h)
theorem ref14_parse_fx (m : Nat) (hct : ∀ R, CallOK (R := R) Tryz.prog (ct m)) (a0 : Dt) {r : Dt × Bool} (h : ref14_parse (m + 1) a0 = some r) : FX Tryz.prog 24 [(.dat 25 a0)] [] (.tup [(.dat 32 r.1), (.dat 4 (.bool r.2))]) [] :=
  FX_of (q := ((.tup [(.dat 32 r.1), (.dat 4 (.bool r.2))]), [])) (E := env) (m := m + 1) (dec := d10) jn_ok (hct _) mixed Tryz.func24 rfl (Nat.le_of_ble_eq_true rfl) (fun b hb => d10_sim hb) ((ref14_parse_eq m a0).trans h)
theorem ref14_field_fx (m : Nat) (hct : ∀ R, CallOK (R := R) Tryz.prog (ct m)) (a0 a1 : Dt) {r : Dt × Bool} (h : ref14_field (m + 1) a0 a1 = some r) : FX Tryz.prog 41 [(.dat 32 a0), (.dat 53 a1)] [] (.tup [(.dat 32 r.1), (.dat 4 (.bool r.2))]) [] :=
  FX_of (q := ((.tup [(.dat 32 r.1), (.dat 4 (.bool r.2))]), [])) (E := env) (m := m + 1) (dec := d27) jn_ok (hct _) mixed Tryz.func41 rfl (Nat.le_of_ble_eq_true rfl) (fun b hb => d27_sim hb) ((ref14_field_eq m a0 a1).trans h)
theorem ref14_props_fx (m : Nat) (hct : ∀ R, CallOK (R := R) Tryz.prog (ct m)) (a0 : Dt) {r : List Dt × Bool} (h : ref14_props (m + 1) a0 = some r) : FX Tryz.prog 76 [(.dat 25 a0)] [] (.tup [(.dat 29 (.lst r.1)), (.dat 4 (.bool r.2))]) [] :=
  FX_of (q := ((.tup [(.dat 29 (.lst r.1)), (.dat 4 (.bool r.2))]), [])) (E := env) (m := m + 1) (dec := d43) jn_ok (hct _) mixed Tryz.func76 rfl (Nat.le_of_ble_eq_true rfl) (fun b hb => d43_sim hb) ((ref14_props_eq m a0).trans h)
theorem ref01_Parts_fx (m : Nat) (hct : ∀ R, CallOK (R := R) Tryz.prog (ct m)) (a0 : Dt) {r : List Dt} (h : ref01_Parts (m + 1) a0 = some r) : FX Tryz.prog 100 [(.dat 25 a0)] [] (.dat 22 (.lst r)) [] :=
  FX_of (q := ((.dat 22 (.lst r)), [])) (E := env) (m := m + 1) (dec := d59) jn_ok (hct _) mixed Tryz.func100 rfl (Nat.le_of_ble_eq_true rfl) (fun b hb => d59_sim hb) ((ref01_Parts_eq m a0).trans h)
theorem ref01_levels_fx (m : Nat) (hct : ∀ R, CallOK (R := R) Tryz.prog (ct m)) (a0 : Dt) (a1 : Int) {r : Int} (h : ref01_levels (m + 1) a0 a1 = some r) : FX Tryz.prog 70 [(.dat 25 a0), (.dat 3 (.int a1))] [] (.dat 3 (.int r)) [] :=
  FX_of (q := ((.dat 3 (.int r)), [])) (E := env) (m := m + 1) (dec := d45) jn_ok (hct _) mixed Tryz.func70 rfl (Nat.le_of_ble_eq_true rfl) (fun b hb => d45_sim hb) ((ref01_levels_eq m a0 a1).trans h)
theorem ref01_Depth_fx (m : Nat) (hct : ∀ R, CallOK (R := R) Tryz.prog (ct m)) (a0 : Dt) {r : Int} (h : ref01_Depth (m + 1) a0 = some r) : FX Tryz.prog 38 [(.dat 25 a0)] [] (.dat 3 (.int r)) [] :=
  FX_of (q := ((.dat 3 (.int r)), [])) (E := env) (m := m + 1) (dec := d29) jn_ok (hct _) mixed Tryz.func38 rfl (Nat.le_of_ble_eq_true rfl) (fun b hb => d29_sim hb) ((ref01_Depth_eq m a0).trans h)
theorem ref01_count_fx (m : Nat) (hct : ∀ R, CallOK (R := R) Tryz.prog (ct m)) (a0 : Dt) (a1 : Int) {r : Int} (h : ref01_count (m + 1) a0 a1 = some r) : FX Tryz.prog 71 [(.dat 25 a0), (.dat 3 (.int a1))] [] (.dat 3 (.int r)) [] :=
  FX_of (q := ((.dat 3 (.int r)), [])) (E := env) (m := m + 1) (dec := d46) jn_ok (hct _) mixed Tryz.func71 rfl (Nat.le_of_ble_eq_true rfl) (fun b hb => d46_sim hb) ((ref01_count_eq m a0 a1).trans h)
theorem ref01_Nodes_fx (m : Nat) (hct : ∀ R, CallOK (R := R) Tryz.prog (ct m)) (a0 : Dt) {r : Int} (h : ref01_Nodes (m + 1) a0 = some r) : FX Tryz.prog 39 [(.dat 25 a0)] [] (.dat 3 (.int r)) [] :=
  FX_of (q := ((.dat 3 (.int r)), [])) (E := env) (m := m + 1) (dec := d30) jn_ok (hct _) mixed Tryz.func39 rfl (Nat.le_of_ble_eq_true rfl) (fun b hb => d30_sim hb) ((ref01_Nodes_eq m a0).trans h)
theorem ref01_tail_fx (m : Nat) (hct : ∀ R, CallOK (R := R) Tryz.prog (ct m)) (a0 : ByteArray) (a1 a2 : Int) {r : Bool} (h : ref01_tail (m + 1) a0 a1 a2 = some r) : FX Tryz.prog 101 [(.dat 9 (.str a0)), (.dat 3 (.int a1)), (.dat 3 (.int a2))] [] (.dat 4 (.bool r)) [] :=
  FX_of (q := ((.dat 4 (.bool r)), [])) (E := env) (m := m + 1) (dec := d60) jn_ok (hct _) mixed Tryz.func101 rfl (Nat.le_of_ble_eq_true rfl) (fun b hb => d60_sim hb) ((ref01_tail_eq m a0 a1 a2).trans h)
theorem ref01_UTF8_fx (m : Nat) (hct : ∀ R, CallOK (R := R) Tryz.prog (ct m)) (a0 : ByteArray) {r : Bool} (h : ref01_UTF8 (m + 1) a0 = some r) : FX Tryz.prog 72 [(.dat 9 (.str a0))] [] (.dat 4 (.bool r)) [] :=
  FX_of (q := ((.dat 4 (.bool r)), [])) (E := env) (m := m + 1) (dec := d47) jn_ok (hct _) mixed Tryz.func72 rfl (Nat.le_of_ble_eq_true rfl) (fun b hb => d47_sim hb) ((ref01_UTF8_eq m a0).trans h)
theorem ref01_Name_fx (m : Nat) (hct : ∀ R, CallOK (R := R) Tryz.prog (ct m)) (a0 : ByteArray) {r : Bool} (h : ref01_Name (m + 1) a0 = some r) : FX Tryz.prog 102 [(.dat 9 (.str a0))] [] (.dat 4 (.bool r)) [] :=
  FX_of (q := ((.dat 4 (.bool r)), [])) (E := env) (m := m + 1) (dec := d61) jn_ok (hct _) mixed Tryz.func102 rfl (Nat.le_of_ble_eq_true rfl) (fun b hb => d61_sim hb) ((ref01_Name_eq m a0).trans h)
theorem ref14_different_fx (m : Nat) (hct : ∀ R, CallOK (R := R) Tryz.prog (ct m)) (a0 : List Dt) {r : Bool} (h : ref14_different (m + 1) a0 = some r) : FX Tryz.prog 105 [(.dat 28 (.lst a0))] [] (.dat 4 (.bool r)) [] :=
  FX_of (q := ((.dat 4 (.bool r)), [])) (E := env) (m := m + 1) (dec := d56) jn_ok (hct _) mixed Tryz.func105 rfl (Nat.le_of_ble_eq_true rfl) (fun b hb => d56_sim hb) ((ref14_different_eq m a0).trans h)
theorem ref01_wide_fx (m : Nat) (hct : ∀ R, CallOK (R := R) Tryz.prog (ct m)) (a0 : ByteArray) {r : Bool} (h : ref01_wide (m + 1) a0 = some r) : FX Tryz.prog 103 [(.dat 9 (.str a0))] [] (.dat 4 (.bool r)) [] :=
  FX_of (q := ((.dat 4 (.bool r)), [])) (E := env) (m := m + 1) (dec := d62) jn_ok (hct _) mixed Tryz.func103 rfl (Nat.le_of_ble_eq_true rfl) (fun b hb => d62_sim hb) ((ref01_wide_eq m a0).trans h)
theorem ref01_formed_fx (m : Nat) (hct : ∀ R, CallOK (R := R) Tryz.prog (ct m)) (a0 : Dt) (a1 : Bool) {r : Bool} (h : ref01_formed (m + 1) a0 a1 = some r) : FX Tryz.prog 40 [(.dat 25 a0), (.dat 4 (.bool a1))] [] (.dat 4 (.bool r)) [] :=
  FX_of (q := ((.dat 4 (.bool r)), [])) (E := env) (m := m + 1) (dec := d31) jn_ok (hct _) mixed Tryz.func40 rfl (Nat.le_of_ble_eq_true rfl) (fun b hb => d31_sim hb) ((ref01_formed_eq m a0 a1).trans h)
theorem ref01_fields_fx (m : Nat) (hct : ∀ R, CallOK (R := R) Tryz.prog (ct m)) (a0 : Dt) (a1 : Bool) {r : Bool} (h : ref01_fields (m + 1) a0 a1 = some r) : FX Tryz.prog 73 [(.dat 25 a0), (.dat 4 (.bool a1))] [] (.dat 4 (.bool r)) [] :=
  FX_of (q := ((.dat 4 (.bool r)), [])) (E := env) (m := m + 1) (dec := d48) jn_ok (hct _) mixed Tryz.func73 rfl (Nat.le_of_ble_eq_true rfl) (fun b hb => d48_sim hb) ((ref01_fields_eq m a0 a1).trans h)
theorem ref01_Formed_fx (m : Nat) (hct : ∀ R, CallOK (R := R) Tryz.prog (ct m)) (a0 : Dt) {r : Bool} (h : ref01_Formed (m + 1) a0 = some r) : FX Tryz.prog 23 [(.dat 25 a0)] [] (.dat 4 (.bool r)) [] :=
  FX_of (q := ((.dat 4 (.bool r)), [])) (E := env) (m := m + 1) (dec := d12) jn_ok (hct _) mixed Tryz.func23 rfl (Nat.le_of_ble_eq_true rfl) (fun b hb => d12_sim hb) ((ref01_Formed_eq m a0).trans h)
theorem ref01_Valid_fx (m : Nat) (hct : ∀ R, CallOK (R := R) Tryz.prog (ct m)) (a0 : Dt) {r : Bool} (h : ref01_Valid (m + 1) a0 = some r) : FX Tryz.prog 107 [(.dat 25 a0)] [] (.dat 4 (.bool r)) [] :=
  FX_of (q := ((.dat 4 (.bool r)), [])) (E := env) (m := m + 1) (dec := d58) jn_ok (hct _) mixed Tryz.func107 rfl (Nat.le_of_ble_eq_true rfl) (fun b hb => d58_sim hb) ((ref01_Valid_eq m a0).trans h)
theorem ref14_unused_fx (m : Nat) (hct : ∀ R, CallOK (R := R) Tryz.prog (ct m)) (a0 : Bool) (a1 : Dt) {r : Bool} (h : ref14_unused (m + 1) a0 a1 = some r) : FX Tryz.prog 106 [(.dat 4 (.bool a0)), (.dat 25 a1)] [] (.dat 4 (.bool r)) [] :=
  FX_of (q := ((.dat 4 (.bool r)), [])) (E := env) (m := m + 1) (dec := d57) jn_ok (hct _) mixed Tryz.func106 rfl (Nat.le_of_ble_eq_true rfl) (fun b hb => d57_sim hb) ((ref14_unused_eq m a0 a1).trans h)
theorem ref14_single_fx (m : Nat) (hct : ∀ R, CallOK (R := R) Tryz.prog (ct m)) (a0 : Dt) {r : Int} (h : ref14_single (m + 1) a0 = some r) : FX Tryz.prog 77 [(.dat 32 a0)] [] (.dat 33 (.int r)) [] :=
  FX_of (q := ((.dat 33 (.int r)), [])) (E := env) (m := m + 1) (dec := d44) jn_ok (hct _) mixed Tryz.func77 rfl (Nat.le_of_ble_eq_true rfl) (fun b hb => d44_sim hb) ((ref14_single_eq m a0).trans h)
theorem ref14_check_fx (m : Nat) (hct : ∀ R, CallOK (R := R) Tryz.prog (ct m)) (a0 : Dt) (a1 a2 : Int) {r : Int × Int} (h : ref14_check (m + 1) a0 a1 a2 = some r) : FX Tryz.prog 42 [(.dat 32 a0), (.dat 3 (.int a1)), (.dat 3 (.int a2))] [] (.tup [(.dat 3 (.int r.1)), (.dat 33 (.int r.2))]) [] :=
  FX_of (q := ((.tup [(.dat 3 (.int r.1)), (.dat 33 (.int r.2))]), [])) (E := env) (m := m + 1) (dec := d28) jn_ok (hct _) mixed Tryz.func42 rfl (Nat.le_of_ble_eq_true rfl) (fun b hb => d28_sim hb) ((ref14_check_eq m a0 a1 a2).trans h)
theorem ref14_Valid_fx (m : Nat) (hct : ∀ R, CallOK (R := R) Tryz.prog (ct m)) (a0 : Dt) {r : Int} (h : ref14_Valid (m + 1) a0 = some r) : FX Tryz.prog 25 [(.dat 32 a0)] [] (.dat 33 (.int r)) [] :=
  FX_of (q := ((.dat 33 (.int r)), [])) (E := env) (m := m + 1) (dec := d11) jn_ok (hct _) mixed Tryz.func25 rfl (Nat.le_of_ble_eq_true rfl) (fun b hb => d11_sim hb) ((ref14_Valid_eq m a0).trans h)
theorem ref14_Parse_fx (m : Nat) (hct : ∀ R, CallOK (R := R) Tryz.prog (ct m)) (a0 : Dt) {r : Dt × Int} (h : ref14_Parse (m + 1) a0 = some r) : FX Tryz.prog 9 [(.dat 25 a0)] [] (.tup [(.dat 32 r.1), (.dat 33 (.int r.2))]) [] :=
  FX_of (q := ((.tup [(.dat 32 r.1), (.dat 33 (.int r.2))]), [])) (E := env) (m := m + 1) (dec := d4) jn_ok (hct _) mixed Tryz.func9 rfl (Nat.le_of_ble_eq_true rfl) (fun b hb => d4_sim hb) ((ref14_Parse_eq m a0).trans h)
theorem value_isName_fx (m : Nat) (hct : ∀ R, CallOK (R := R) Tryz.prog (ct m)) (a0 : ByteArray) {r : Bool} (h : value_isName (m + 1) a0 = some r) : FX Tryz.prog 116 [(.dat 9 (.str a0))] [] (.dat 4 (.bool r)) [] :=
  FX_of (q := ((.dat 4 (.bool r)), [])) (E := env) (m := m + 1) (dec := d63) jn_ok (hct _) mixed Tryz.func116 rfl (Nat.le_of_ble_eq_true rfl) (fun b hb => d63_sim hb) ((value_isName_eq m a0).trans h)
theorem value_sound_fx (m : Nat) (hct : ∀ R, CallOK (R := R) Tryz.prog (ct m)) (a0 : Dt) {r : Bool} (h : value_sound (m + 1) a0 = some r) : FX Tryz.prog 65 [(.dat 25 a0)] [] (.dat 4 (.bool r)) [] :=
  FX_of (q := ((.dat 4 (.bool r)), [])) (E := env) (m := m + 1) (dec := d39) jn_ok (hct _) mixed Tryz.func65 rfl (Nat.le_of_ble_eq_true rfl) (fun b hb => d39_sim hb) ((value_sound_eq m a0).trans h)
theorem value_soundFields_fx (m : Nat) (hct : ∀ R, CallOK (R := R) Tryz.prog (ct m)) (a0 : List Dt) {r : Bool} (h : value_soundFields (m + 1) a0 = some r) : FX Tryz.prog 98 [(.dat 23 (.lst a0))] [] (.dat 4 (.bool r)) [] :=
  FX_of (q := ((.dat 4 (.bool r)), [])) (E := env) (m := m + 1) (dec := d52) jn_ok (hct _) mixed Tryz.func98 rfl (Nat.le_of_ble_eq_true rfl) (fun b hb => d52_sim hb) ((value_soundFields_eq m a0).trans h)
theorem value_Valid_fx (m : Nat) (hct : ∀ R, CallOK (R := R) Tryz.prog (ct m)) (a0 : Dt) {r : Bool} (h : value_Valid (m + 1) a0 = some r) : FX Tryz.prog 36 [(.dat 25 a0)] [] (.dat 4 (.bool r)) [] :=
  FX_of (q := ((.dat 4 (.bool r)), [])) (E := env) (m := m + 1) (dec := d25) jn_ok (hct _) mixed Tryz.func36 rfl (Nat.le_of_ble_eq_true rfl) (fun b hb => d25_sim hb) ((value_Valid_eq m a0).trans h)
theorem schema_wellFormed_fx (m : Nat) (hct : ∀ R, CallOK (R := R) Tryz.prog (ct m)) (a0 : Dt) {r : Bool} (h : schema_wellFormed (m + 1) a0 = some r) : FX Tryz.prog 21 [(.dat 25 a0)] [] (.dat 4 (.bool r)) [] :=
  FX_of (q := ((.dat 4 (.bool r)), [])) (E := env) (m := m + 1) (dec := d9) jn_ok (hct _) mixed Tryz.func21 rfl (Nat.le_of_ble_eq_true rfl) (fun b hb => d9_sim hb) ((schema_wellFormed_eq m a0).trans h)
theorem schema_bound_fx (m : Nat) (hct : ∀ R, CallOK (R := R) Tryz.prog (ct m)) (a0 : Bool) (a1 : Dt) {r : Bool} (h : schema_bound (m + 1) a0 a1 = some r) : FX Tryz.prog 93 [(.dat 4 (.bool a0)), (.dat 25 a1)] [] (.dat 4 (.bool r)) [] :=
  FX_of (q := ((.dat 4 (.bool r)), [])) (E := env) (m := m + 1) (dec := d35) jn_ok (hct _) mixed Tryz.func93 rfl (Nat.le_of_ble_eq_true rfl) (fun b hb => d35_sim hb) ((schema_bound_eq m a0 a1).trans h)
theorem schema_checkOne_fx (m : Nat) (hct : ∀ R, CallOK (R := R) Tryz.prog (ct m)) (a0 : Dt) {r : Int} (h : schema_checkOne (m + 1) a0 = some r) : FX Tryz.prog 61 [(.dat 32 a0)] [] (.dat 33 (.int r)) [] :=
  FX_of (q := ((.dat 33 (.int r)), [])) (E := env) (m := m + 1) (dec := d22) jn_ok (hct _) mixed Tryz.func61 rfl (Nat.le_of_ble_eq_true rfl) (fun b hb => d22_sim hb) ((schema_checkOne_eq m a0).trans h)
theorem i21_fx (m : Nat) (hct : ∀ R, CallOK (R := R) Tryz.prog (ct m)) (a0 : Dt) (a1 a2 : Int) {r : Int × Int} (h : i21 (m + 1) a0 a1 a2 = some r) : FX Tryz.prog 32 [(.dat 32 a0), (.dat 3 (.int a1)), (.ptr 0 [] 0)] [(.box 3 (.dat 3 (.int a2)))] (.dat 33 (.int r.1)) [(.box 3 (.dat 3 (.int r.2)))] :=
  FX_of (q := ((.dat 33 (.int r.1)), [(.box 3 (.dat 3 (.int r.2)))])) (E := env) (m := m + 1) (dec := d21) jn_ok (hct _) mixed Tryz.func32 rfl (Nat.le_of_ble_eq_true rfl) (fun b hb => d21_sim hb) ((i21_eq m a0 a1 a2).trans h)
theorem schema_Valid_fx (m : Nat) (hct : ∀ R, CallOK (R := R) Tryz.prog (ct m)) (a0 : Dt) {r : Int} (h : schema_Valid (m + 1) a0 = some r) : FX Tryz.prog 20 [(.dat 32 a0)] [] (.dat 33 (.int r)) [] :=
  FX_of (q := ((.dat 33 (.int r)), [])) (E := env) (m := m + 1) (dec := d8) jn_ok (hct _) mixed Tryz.func20 rfl (Nat.le_of_ble_eq_true rfl) (fun b hb => d8_sim hb) ((schema_Valid_eq m a0).trans h)
theorem schema_Parse_fx (m : Nat) (hct : ∀ R, CallOK (R := R) Tryz.prog (ct m)) (a0 : Dt) {r : Dt × Int} (h : schema_Parse (m + 1) a0 = some r) : FX Tryz.prog 8 [(.dat 25 a0)] [] (.tup [(.dat 32 r.1), (.dat 33 (.int r.2))]) [] :=
  FX_of (q := ((.tup [(.dat 32 r.1), (.dat 33 (.int r.2))]), [])) (E := env) (m := m + 1) (dec := d3) jn_ok (hct _) mixed Tryz.func8 rfl (Nat.le_of_ble_eq_true rfl) (fun b hb => d3_sim hb) ((schema_Parse_eq m a0).trans h)
theorem law14_SchemaParses_fx (m : Nat) (hct : ∀ R, CallOK (R := R) Tryz.prog (ct m)) (a0 : Dt) {r : Bool} (h : law14_SchemaParses (m + 1) a0 = some r) : FX Tryz.prog 3 [(.dat 25 a0)] [] (.dat 4 (.bool r)) [] :=
  FX_of (q := ((.dat 4 (.bool r)), [])) (E := env) (m := m + 1) (dec := d0) jn_ok (hct _) mixed Tryz.func3 rfl (Nat.le_of_ble_eq_true rfl) (fun b hb => d0_sim hb) ((law14_SchemaParses_eq m a0).trans h)
theorem ct3_ok (m : Nat) (hct : ∀ k, k < m → ∀ R, CallOK (R := R) Tryz.prog (ct k)) {R : Type} {args : List AV} {objs : List Ob} {K : Res → Option R} {r : R} (h : ct3 m args objs K = some r) : ∃ q : Res, K q = some r ∧ FX Tryz.prog 3 args objs q.1 q.2 ∧ HasBody Tryz.prog 3 := by
  unfold ct3 at h
  split at h
  · rename_i l hl
    obtain ⟨x, hx, hk⟩ := Option.bind_eq_some_iff.1 h
    obtain ⟨h1, h2⟩ := sel0_ok hl
    cases m with
    | zero => cases hx
    | succ m => exact ⟨_, hk, (law14_SchemaParses_fx m (hct m (Nat.lt_succ_self m)) _ hx).conv h1 h2, ⟨_, Tryz.func3, rfl, by decide⟩⟩
  cases h
theorem ct6_ok (m : Nat) (hct : ∀ k, k < m → ∀ R, CallOK (R := R) Tryz.prog (ct k)) {R : Type} {args : List AV} {objs : List Ob} {K : Res → Option R} {r : R} (h : ct6 m args objs K = some r) : ∃ q : Res, K q = some r ∧ FX Tryz.prog 6 args objs q.1 q.2 ∧ HasBody Tryz.prog 6 := by
  unfold ct6 at h
  split at h
  · rename_i l hl
    obtain ⟨x, hx, hk⟩ := Option.bind_eq_some_iff.1 h
    obtain ⟨h1, h2⟩ := sel1_ok hl
    cases m with
    | zero => cases hx
    | succ m => exact ⟨_, hk, (ref02_Few_fx m (hct m (Nat.lt_succ_self m)) _ _ hx).conv h1 h2, ⟨_, Tryz.func6, rfl, by decide⟩⟩
  cases h
theorem ct7_ok (m : Nat) (hct : ∀ k, k < m → ∀ R, CallOK (R := R) Tryz.prog (ct k)) {R : Type} {args : List AV} {objs : List Ob} {K : Res → Option R} {r : R} (h : ct7 m args objs K = some r) : ∃ q : Res, K q = some r ∧ FX Tryz.prog 7 args objs q.1 q.2 ∧ HasBody Tryz.prog 7 := by
  unfold ct7 at h
  split at h
  · rename_i l hl
    obtain ⟨x, hx, hk⟩ := Option.bind_eq_some_iff.1 h
    obtain ⟨h1, h2⟩ := sel2_ok hl
    exact ⟨_, hk, (awakeC_fx hx).conv h1 h2, ⟨_, Tryz.func7, rfl, by decide⟩⟩
  cases h
theorem ct8_ok (m : Nat) (hct : ∀ k, k < m → ∀ R, CallOK (R := R) Tryz.prog (ct k)) {R : Type} {args : List AV} {objs : List Ob} {K : Res → Option R} {r : R} (h : ct8 m args objs K = some r) : ∃ q : Res, K q = some r ∧ FX Tryz.prog 8 args objs q.1 q.2 ∧ HasBody Tryz.prog 8 := by
  unfold ct8 at h
  split at h
  · rename_i l hl
    obtain ⟨x, hx, hk⟩ := Option.bind_eq_some_iff.1 h
    obtain ⟨h1, h2⟩ := sel3_ok hl
    cases m with
    | zero => cases hx
    | succ m => exact ⟨_, hk, (schema_Parse_fx m (hct m (Nat.lt_succ_self m)) _ hx).conv h1 h2, ⟨_, Tryz.func8, rfl, by decide⟩⟩
  cases h
theorem ct9_ok (m : Nat) (hct : ∀ k, k < m → ∀ R, CallOK (R := R) Tryz.prog (ct k)) {R : Type} {args : List AV} {objs : List Ob} {K : Res → Option R} {r : R} (h : ct9 m args objs K = some r) : ∃ q : Res, K q = some r ∧ FX Tryz.prog 9 args objs q.1 q.2 ∧ HasBody Tryz.prog 9 := by
  unfold ct9 at h
  split at h
  · rename_i l hl
    obtain ⟨x, hx, hk⟩ := Option.bind_eq_some_iff.1 h
    obtain ⟨h1, h2⟩ := sel4_ok hl
    cases m with
    | zero => cases hx
    | succ m => exact ⟨_, hk, (ref14_Parse_fx m (hct m (Nat.lt_succ_self m)) _ hx).conv h1 h2, ⟨_, Tryz.func9, rfl, by decide⟩⟩
  cases h
theorem ct10_ok (m : Nat) (hct : ∀ k, k < m → ∀ R, CallOK (R := R) Tryz.prog (ct k)) {R : Type} {args : List AV} {objs : List Ob} {K : Res → Option R} {r : R} (h : ct10 m args objs K = some r) : ∃ q : Res, K q = some r ∧ FX Tryz.prog 10 args objs q.1 q.2 ∧ HasBody Tryz.prog 10 := by
  unfold ct10 at h
  split at h
  · rename_i l hl
    obtain ⟨x, hx, hk⟩ := Option.bind_eq_some_iff.1 h
    obtain ⟨h1, h2⟩ := sel5_ok hl
    cases m with
    | zero => cases hx
    | succ m => exact ⟨_, hk, (ref14_Same_fx m (hct m (Nat.lt_succ_self m)) _ _ hx).conv h1 h2, ⟨_, Tryz.func10, rfl, by decide⟩⟩
  cases h
theorem ct17_ok (m : Nat) (hct : ∀ k, k < m → ∀ R, CallOK (R := R) Tryz.prog (ct k)) {R : Type} {args : List AV} {objs : List Ob} {K : Res → Option R} {r : R} (h : ct17 m args objs K = some r) : ∃ q : Res, K q = some r ∧ FX Tryz.prog 17 args objs q.1 q.2 ∧ HasBody Tryz.prog 17 := by
  unfold ct17 at h
  split at h
  · rename_i l hl
    obtain ⟨x, hx, hk⟩ := Option.bind_eq_some_iff.1 h
    obtain ⟨h1, h2⟩ := sel6_ok hl
    cases m with
    | zero => cases hx
    | succ m => exact ⟨_, hk, (ref02_count_fx m (hct m (Nat.lt_succ_self m)) _ _ _ hx).conv h1 h2, ⟨_, Tryz.func17, rfl, by decide⟩⟩
  cases h
theorem ct22_ok (m : Nat) (hct : ∀ k, k < m → ∀ R, CallOK (R := R) Tryz.prog (ct k)) {R : Type} {args : List AV} {objs : List Ob} {K : Res → Option R} {r : R} (h : ct22 m args objs K = some r) : ∃ q : Res, K q = some r ∧ FX Tryz.prog 22 args objs q.1 q.2 ∧ HasBody Tryz.prog 22 := by
  unfold ct22 at h
  split at h
  · rename_i l hl
    obtain ⟨x, hx, hk⟩ := Option.bind_eq_some_iff.1 h
    obtain ⟨h1, h2⟩ := sel7_ok hl
    cases m with
    | zero => cases hx
    | succ m => exact ⟨_, hk, (schema_parse_fx m (hct m (Nat.lt_succ_self m)) _ hx).conv h1 h2, ⟨_, Tryz.func22, rfl, by decide⟩⟩
  cases h
theorem ct20_ok (m : Nat) (hct : ∀ k, k < m → ∀ R, CallOK (R := R) Tryz.prog (ct k)) {R : Type} {args : List AV} {objs : List Ob} {K : Res → Option R} {r : R} (h : ct20 m args objs K = some r) : ∃ q : Res, K q = some r ∧ FX Tryz.prog 20 args objs q.1 q.2 ∧ HasBody Tryz.prog 20 := by
  unfold ct20 at h
  split at h
  · rename_i l hl
    obtain ⟨x, hx, hk⟩ := Option.bind_eq_some_iff.1 h
    obtain ⟨h1, h2⟩ := sel8_ok hl
    cases m with
    | zero => cases hx
    | succ m => exact ⟨_, hk, (schema_Valid_fx m (hct m (Nat.lt_succ_self m)) _ hx).conv h1 h2, ⟨_, Tryz.func20, rfl, by decide⟩⟩
  cases h
theorem ct21_ok (m : Nat) (hct : ∀ k, k < m → ∀ R, CallOK (R := R) Tryz.prog (ct k)) {R : Type} {args : List AV} {objs : List Ob} {K : Res → Option R} {r : R} (h : ct21 m args objs K = some r) : ∃ q : Res, K q = some r ∧ FX Tryz.prog 21 args objs q.1 q.2 ∧ HasBody Tryz.prog 21 := by
  unfold ct21 at h
  split at h
  · rename_i l hl
    obtain ⟨x, hx, hk⟩ := Option.bind_eq_some_iff.1 h
    obtain ⟨h1, h2⟩ := sel9_ok hl
    cases m with
    | zero => cases hx
    | succ m => exact ⟨_, hk, (schema_wellFormed_fx m (hct m (Nat.lt_succ_self m)) _ hx).conv h1 h2, ⟨_, Tryz.func21, rfl, by decide⟩⟩
  cases h
theorem ct24_ok (m : Nat) (hct : ∀ k, k < m → ∀ R, CallOK (R := R) Tryz.prog (ct k)) {R : Type} {args : List AV} {objs : List Ob} {K : Res → Option R} {r : R} (h : ct24 m args objs K = some r) : ∃ q : Res, K q = some r ∧ FX Tryz.prog 24 args objs q.1 q.2 ∧ HasBody Tryz.prog 24 := by
  unfold ct24 at h
  split at h
  · rename_i l hl
    obtain ⟨x, hx, hk⟩ := Option.bind_eq_some_iff.1 h
    obtain ⟨h1, h2⟩ := sel10_ok hl
    cases m with
    | zero => cases hx
    | succ m => exact ⟨_, hk, (ref14_parse_fx m (hct m (Nat.lt_succ_self m)) _ hx).conv h1 h2, ⟨_, Tryz.func24, rfl, by decide⟩⟩
  cases h
theorem ct25_ok (m : Nat) (hct : ∀ k, k < m → ∀ R, CallOK (R := R) Tryz.prog (ct k)) {R : Type} {args : List AV} {objs : List Ob} {K : Res → Option R} {r : R} (h : ct25 m args objs K = some r) : ∃ q : Res, K q = some r ∧ FX Tryz.prog 25 args objs q.1 q.2 ∧ HasBody Tryz.prog 25 := by
  unfold ct25 at h
  split at h
  · rename_i l hl
    obtain ⟨x, hx, hk⟩ := Option.bind_eq_some_iff.1 h
    obtain ⟨h1, h2⟩ := sel11_ok hl
    cases m with
    | zero => cases hx
    | succ m => exact ⟨_, hk, (ref14_Valid_fx m (hct m (Nat.lt_succ_self m)) _ hx).conv h1 h2, ⟨_, Tryz.func25, rfl, by decide⟩⟩
  cases h
theorem ct23_ok (m : Nat) (hct : ∀ k, k < m → ∀ R, CallOK (R := R) Tryz.prog (ct k)) {R : Type} {args : List AV} {objs : List Ob} {K : Res → Option R} {r : R} (h : ct23 m args objs K = some r) : ∃ q : Res, K q = some r ∧ FX Tryz.prog 23 args objs q.1 q.2 ∧ HasBody Tryz.prog 23 := by
  unfold ct23 at h
  split at h
  · rename_i l hl
    obtain ⟨x, hx, hk⟩ := Option.bind_eq_some_iff.1 h
    obtain ⟨h1, h2⟩ := sel12_ok hl
    cases m with
    | zero => cases hx
    | succ m => exact ⟨_, hk, (ref01_Formed_fx m (hct m (Nat.lt_succ_self m)) _ hx).conv h1 h2, ⟨_, Tryz.func23, rfl, by decide⟩⟩
  cases h
theorem ct28_ok (m : Nat) (hct : ∀ k, k < m → ∀ R, CallOK (R := R) Tryz.prog (ct k)) {R : Type} {args : List AV} {objs : List Ob} {K : Res → Option R} {r : R} (h : ct28 m args objs K = some r) : ∃ q : Res, K q = some r ∧ FX Tryz.prog 28 args objs q.1 q.2 ∧ HasBody Tryz.prog 28 := by
  unfold ct28 at h
  split at h
  · rename_i l hl
    obtain ⟨x, hx, hk⟩ := Option.bind_eq_some_iff.1 h
    obtain ⟨h1, h2⟩ := sel13_ok hl
    cases m with
    | zero => cases hx
    | succ m => exact ⟨_, hk, (ref04_Same_fx m (hct m (Nat.lt_succ_self m)) _ _ hx).conv h1 h2, ⟨_, Tryz.func28, rfl, by decide⟩⟩
  cases h
theorem ct26_ok (m : Nat) (hct : ∀ k, k < m → ∀ R, CallOK (R := R) Tryz.prog (ct k)) {R : Type} {args : List AV} {objs : List Ob} {K : Res → Option R} {r : R} (h : ct26 m args objs K = some r) : ∃ q : Res, K q = some r ∧ FX Tryz.prog 26 args objs q.1 q.2 ∧ HasBody Tryz.prog 26 := by
  unfold ct26 at h
  split at h
  · rename_i l hl
    obtain ⟨x, hx, hk⟩ := Option.bind_eq_some_iff.1 h
    obtain ⟨h1, h2⟩ := sel14_ok hl
    cases m with
    | zero => cases hx
    | succ m => exact ⟨_, hk, (ref01_Same_fx m (hct m (Nat.lt_succ_self m)) _ _ hx).conv h1 h2, ⟨_, Tryz.func26, rfl, by decide⟩⟩
  cases h
theorem ct27_ok (m : Nat) (hct : ∀ k, k < m → ∀ R, CallOK (R := R) Tryz.prog (ct k)) {R : Type} {args : List AV} {objs : List Ob} {K : Res → Option R} {r : R} (h : ct27 m args objs K = some r) : ∃ q : Res, K q = some r ∧ FX Tryz.prog 27 args objs q.1 q.2 ∧ HasBody Tryz.prog 27 := by
  unfold ct27 at h
  split at h
  · rename_i l hl
    obtain ⟨x, hx, hk⟩ := Option.bind_eq_some_iff.1 h
    obtain ⟨h1, h2⟩ := sel15_ok hl
    cases m with
    | zero => cases hx
    | succ m => exact ⟨_, hk, (ref01_SameList_fx m (hct m (Nat.lt_succ_self m)) _ _ hx).conv h1 h2, ⟨_, Tryz.func27, rfl, by decide⟩⟩
  cases h
theorem ct37_ok (m : Nat) (hct : ∀ k, k < m → ∀ R, CallOK (R := R) Tryz.prog (ct k)) {R : Type} {args : List AV} {objs : List Ob} {K : Res → Option R} {r : R} (h : ct37 m args objs K = some r) : ∃ q : Res, K q = some r ∧ FX Tryz.prog 37 args objs q.1 q.2 ∧ HasBody Tryz.prog 37 := by
  unfold ct37 at h
  split at h
  · rename_i l hl
    obtain ⟨x, hx, hk⟩ := Option.bind_eq_some_iff.1 h
    obtain ⟨h1, h2⟩ := sel16_ok hl
    cases m with
    | zero => cases hx
    | succ m => exact ⟨_, hk, (i16_fx m (hct m (Nat.lt_succ_self m)) _ _ _ hx).conv h1 h2, ⟨_, Tryz.func37, rfl, by decide⟩⟩
  cases h
theorem ct66_ok (m : Nat) (hct : ∀ k, k < m → ∀ R, CallOK (R := R) Tryz.prog (ct k)) {R : Type} {args : List AV} {objs : List Ob} {K : Res → Option R} {r : R} (h : ct66 m args objs K = some r) : ∃ q : Res, K q = some r ∧ FX Tryz.prog 66 args objs q.1 q.2 ∧ HasBody Tryz.prog 66 := by
  unfold ct66 at h
  split at h
  · rename_i l hl
    obtain ⟨x, hx, hk⟩ := Option.bind_eq_some_iff.1 h
    obtain ⟨h1, h2⟩ := sel17_ok hl
    cases m with
    | zero => cases hx
    | succ m => exact ⟨_, hk, (schema_parseKinds_fx m (hct m (Nat.lt_succ_self m)) _ hx).conv h1 h2, ⟨_, Tryz.func66, rfl, by decide⟩⟩
  cases h
theorem ct67_ok (m : Nat) (hct : ∀ k, k < m → ∀ R, CallOK (R := R) Tryz.prog (ct k)) {R : Type} {args : List AV} {objs : List Ob} {K : Res → Option R} {r : R} (h : ct67 m args objs K = some r) : ∃ q : Res, K q = some r ∧ FX Tryz.prog 67 args objs q.1 q.2 ∧ HasBody Tryz.prog 67 := by
  unfold ct67 at h
  split at h
  · rename_i l hl
    obtain ⟨x, hx, hk⟩ := Option.bind_eq_some_iff.1 h
    obtain ⟨h1, h2⟩ := sel18_ok hl
    cases m with
    | zero => cases hx
    | succ m => exact ⟨_, hk, (schema_clone_fx m (hct m (Nat.lt_succ_self m)) _ hx).conv h1 h2, ⟨_, Tryz.func67, rfl, by decide⟩⟩
  cases h
theorem ct68_ok (m : Nat) (hct : ∀ k, k < m → ∀ R, CallOK (R := R) Tryz.prog (ct k)) {R : Type} {args : List AV} {objs : List Ob} {K : Res → Option R} {r : R} (h : ct68 m args objs K = some r) : ∃ q : Res, K q = some r ∧ FX Tryz.prog 68 args objs q.1 q.2 ∧ HasBody Tryz.prog 68 := by
  unfold ct68 at h
  split at h
  · rename_i l hl
    obtain ⟨x, hx, hk⟩ := Option.bind_eq_some_iff.1 h
    obtain ⟨h1, h2⟩ := sel19_ok hl
    cases m with
    | zero => cases hx
    | succ m => exact ⟨_, hk, (schema_parseNames_fx m (hct m (Nat.lt_succ_self m)) _ hx).conv h1 h2, ⟨_, Tryz.func68, rfl, by decide⟩⟩
  cases h
theorem ct69_ok (m : Nat) (hct : ∀ k, k < m → ∀ R, CallOK (R := R) Tryz.prog (ct k)) {R : Type} {args : List AV} {objs : List Ob} {K : Res → Option R} {r : R} (h : ct69 m args objs K = some r) : ∃ q : Res, K q = some r ∧ FX Tryz.prog 69 args objs q.1 q.2 ∧ HasBody Tryz.prog 69 := by
  unfold ct69 at h
  split at h
  · rename_i l hl
    obtain ⟨x, hx, hk⟩ := Option.bind_eq_some_iff.1 h
    obtain ⟨h1, h2⟩ := sel20_ok hl
    cases m with
    | zero => cases hx
    | succ m => exact ⟨_, hk, (schema_parseProps_fx m (hct m (Nat.lt_succ_self m)) _ hx).conv h1 h2, ⟨_, Tryz.func69, rfl, by decide⟩⟩
  cases h
theorem ct32_ok (m : Nat) (hct : ∀ k, k < m → ∀ R, CallOK (R := R) Tryz.prog (ct k)) {R : Type} {args : List AV} {objs : List Ob} {K : Res → Option R} {r : R} (h : ct32 m args objs K = some r) : ∃ q : Res, K q = some r ∧ FX Tryz.prog 32 args objs q.1 q.2 ∧ HasBody Tryz.prog 32 := by
  unfold ct32 at h
  split at h
  · rename_i l hl
    obtain ⟨x, hx, hk⟩ := Option.bind_eq_some_iff.1 h
    obtain ⟨h1, h2⟩ := sel21_ok hl
    cases m with
    | zero => cases hx
    | succ m => exact ⟨_, hk, (i21_fx m (hct m (Nat.lt_succ_self m)) _ _ _ hx).conv h1 h2, ⟨_, Tryz.func32, rfl, by decide⟩⟩
  cases h
theorem ct61_ok (m : Nat) (hct : ∀ k, k < m → ∀ R, CallOK (R := R) Tryz.prog (ct k)) {R : Type} {args : List AV} {objs : List Ob} {K : Res → Option R} {r : R} (h : ct61 m args objs K = some r) : ∃ q : Res, K q = some r ∧ FX Tryz.prog 61 args objs q.1 q.2 ∧ HasBody Tryz.prog 61 := by
  unfold ct61 at h
  split at h
  · rename_i l hl
    obtain ⟨x, hx, hk⟩ := Option.bind_eq_some_iff.1 h
    obtain ⟨h1, h2⟩ := sel22_ok hl
    cases m with
    | zero => cases hx
    | succ m => exact ⟨_, hk, (schema_checkOne_fx m (hct m (Nat.lt_succ_self m)) _ hx).conv h1 h2, ⟨_, Tryz.func61, rfl, by decide⟩⟩
  cases h
theorem ct33_ok (m : Nat) (hct : ∀ k, k < m → ∀ R, CallOK (R := R) Tryz.prog (ct k)) {R : Type} {args : List AV} {objs : List Ob} {K : Res → Option R} {r : R} (h : ct33 m args objs K = some r) : ∃ q : Res, K q = some r ∧ FX Tryz.prog 33 args objs q.1 q.2 ∧ HasBody Tryz.prog 33 := by
  unfold ct33 at h
  split at h
  · rename_i l hl
    obtain ⟨x, hx, hk⟩ := Option.bind_eq_some_iff.1 h
    obtain ⟨h1, h2⟩ := sel23_ok hl
    cases m with
    | zero => cases hx
    | succ m => exact ⟨_, hk, (value_Nodes_fx m (hct m (Nat.lt_succ_self m)) _ hx).conv h1 h2, ⟨_, Tryz.func33, rfl, by decide⟩⟩
  cases h
theorem ct35_ok (m : Nat) (hct : ∀ k, k < m → ∀ R, CallOK (R := R) Tryz.prog (ct k)) {R : Type} {args : List AV} {objs : List Ob} {K : Res → Option R} {r : R} (h : ct35 m args objs K = some r) : ∃ q : Res, K q = some r ∧ FX Tryz.prog 35 args objs q.1 q.2 ∧ HasBody Tryz.prog 35 := by
  unfold ct35 at h
  split at h
  · rename_i l hl
    obtain ⟨x, hx, hk⟩ := Option.bind_eq_some_iff.1 h
    obtain ⟨h1, h2⟩ := sel24_ok hl
    cases m with
    | zero => cases hx
    | succ m => exact ⟨_, hk, (schema_rename_fx m (hct m (Nat.lt_succ_self m)) _ hx).conv h1 h2, ⟨_, Tryz.func35, rfl, by decide⟩⟩
  cases h
theorem ct36_ok (m : Nat) (hct : ∀ k, k < m → ∀ R, CallOK (R := R) Tryz.prog (ct k)) {R : Type} {args : List AV} {objs : List Ob} {K : Res → Option R} {r : R} (h : ct36 m args objs K = some r) : ∃ q : Res, K q = some r ∧ FX Tryz.prog 36 args objs q.1 q.2 ∧ HasBody Tryz.prog 36 := by
  unfold ct36 at h
  split at h
  · rename_i l hl
    obtain ⟨x, hx, hk⟩ := Option.bind_eq_some_iff.1 h
    obtain ⟨h1, h2⟩ := sel25_ok hl
    cases m with
    | zero => cases hx
    | succ m => exact ⟨_, hk, (value_Valid_fx m (hct m (Nat.lt_succ_self m)) _ hx).conv h1 h2, ⟨_, Tryz.func36, rfl, by decide⟩⟩
  cases h
theorem ct34_ok (m : Nat) (hct : ∀ k, k < m → ∀ R, CallOK (R := R) Tryz.prog (ct k)) {R : Type} {args : List AV} {objs : List Ob} {K : Res → Option R} {r : R} (h : ct34 m args objs K = some r) : ∃ q : Res, K q = some r ∧ FX Tryz.prog 34 args objs q.1 q.2 ∧ HasBody Tryz.prog 34 := by
  unfold ct34 at h
  split at h
  · rename_i l hl
    obtain ⟨x, hx, hk⟩ := Option.bind_eq_some_iff.1 h
    obtain ⟨h1, h2⟩ := sel26_ok hl
    cases m with
    | zero => cases hx
    | succ m => exact ⟨_, hk, (value_Depth_fx m (hct m (Nat.lt_succ_self m)) _ hx).conv h1 h2, ⟨_, Tryz.func34, rfl, by decide⟩⟩
  cases h
theorem ct41_ok (m : Nat) (hct : ∀ k, k < m → ∀ R, CallOK (R := R) Tryz.prog (ct k)) {R : Type} {args : List AV} {objs : List Ob} {K : Res → Option R} {r : R} (h : ct41 m args objs K = some r) : ∃ q : Res, K q = some r ∧ FX Tryz.prog 41 args objs q.1 q.2 ∧ HasBody Tryz.prog 41 := by
  unfold ct41 at h
  split at h
  · rename_i l hl
    obtain ⟨x, hx, hk⟩ := Option.bind_eq_some_iff.1 h
    obtain ⟨h1, h2⟩ := sel27_ok hl
    cases m with
    | zero => cases hx
    | succ m => exact ⟨_, hk, (ref14_field_fx m (hct m (Nat.lt_succ_self m)) _ _ hx).conv h1 h2, ⟨_, Tryz.func41, rfl, by decide⟩⟩
  cases h
theorem ct42_ok (m : Nat) (hct : ∀ k, k < m → ∀ R, CallOK (R := R) Tryz.prog (ct k)) {R : Type} {args : List AV} {objs : List Ob} {K : Res → Option R} {r : R} (h : ct42 m args objs K = some r) : ∃ q : Res, K q = some r ∧ FX Tryz.prog 42 args objs q.1 q.2 ∧ HasBody Tryz.prog 42 := by
  unfold ct42 at h
  split at h
  · rename_i l hl
    obtain ⟨x, hx, hk⟩ := Option.bind_eq_some_iff.1 h
    obtain ⟨h1, h2⟩ := sel28_ok hl
    cases m with
    | zero => cases hx
    | succ m => exact ⟨_, hk, (ref14_check_fx m (hct m (Nat.lt_succ_self m)) _ _ _ hx).conv h1 h2, ⟨_, Tryz.func42, rfl, by decide⟩⟩
  cases h
theorem ct38_ok (m : Nat) (hct : ∀ k, k < m → ∀ R, CallOK (R := R) Tryz.prog (ct k)) {R : Type} {args : List AV} {objs : List Ob} {K : Res → Option R} {r : R} (h : ct38 m args objs K = some r) : ∃ q : Res, K q = some r ∧ FX Tryz.prog 38 args objs q.1 q.2 ∧ HasBody Tryz.prog 38 := by
  unfold ct38 at h
  split at h
  · rename_i l hl
    obtain ⟨x, hx, hk⟩ := Option.bind_eq_some_iff.1 h
    obtain ⟨h1, h2⟩ := sel29_ok hl
    cases m with
    | zero => cases hx
    | succ m => exact ⟨_, hk, (ref01_Depth_fx m (hct m (Nat.lt_succ_self m)) _ hx).conv h1 h2, ⟨_, Tryz.func38, rfl, by decide⟩⟩
  cases h
theorem ct39_ok (m : Nat) (hct : ∀ k, k < m → ∀ R, CallOK (R := R) Tryz.prog (ct k)) {R : Type} {args : List AV} {objs : List Ob} {K : Res → Option R} {r : R} (h : ct39 m args objs K = some r) : ∃ q : Res, K q = some r ∧ FX Tryz.prog 39 args objs q.1 q.2 ∧ HasBody Tryz.prog 39 := by
  unfold ct39 at h
  split at h
  · rename_i l hl
    obtain ⟨x, hx, hk⟩ := Option.bind_eq_some_iff.1 h
    obtain ⟨h1, h2⟩ := sel30_ok hl
    cases m with
    | zero => cases hx
    | succ m => exact ⟨_, hk, (ref01_Nodes_fx m (hct m (Nat.lt_succ_self m)) _ hx).conv h1 h2, ⟨_, Tryz.func39, rfl, by decide⟩⟩
  cases h
theorem ct40_ok (m : Nat) (hct : ∀ k, k < m → ∀ R, CallOK (R := R) Tryz.prog (ct k)) {R : Type} {args : List AV} {objs : List Ob} {K : Res → Option R} {r : R} (h : ct40 m args objs K = some r) : ∃ q : Res, K q = some r ∧ FX Tryz.prog 40 args objs q.1 q.2 ∧ HasBody Tryz.prog 40 := by
  unfold ct40 at h
  split at h
  · rename_i l hl
    obtain ⟨x, hx, hk⟩ := Option.bind_eq_some_iff.1 h
    obtain ⟨h1, h2⟩ := sel31_ok hl
    cases m with
    | zero => cases hx
    | succ m => exact ⟨_, hk, (ref01_formed_fx m (hct m (Nat.lt_succ_self m)) _ _ hx).conv h1 h2, ⟨_, Tryz.func40, rfl, by decide⟩⟩
  cases h
theorem ct43_ok (m : Nat) (hct : ∀ k, k < m → ∀ R, CallOK (R := R) Tryz.prog (ct k)) {R : Type} {args : List AV} {objs : List Ob} {K : Res → Option R} {r : R} (h : ct43 m args objs K = some r) : ∃ q : Res, K q = some r ∧ FX Tryz.prog 43 args objs q.1 q.2 ∧ HasBody Tryz.prog 43 := by
  unfold ct43 at h
  split at h
  · rename_i l hl
    obtain ⟨x, hx, hk⟩ := Option.bind_eq_some_iff.1 h
    obtain ⟨h1, h2⟩ := sel32_ok hl
    cases m with
    | zero => cases hx
    | succ m => exact ⟨_, hk, (ref04_prefix_fx m (hct m (Nat.lt_succ_self m)) _ _ hx).conv h1 h2, ⟨_, Tryz.func43, rfl, by decide⟩⟩
  cases h
theorem ct99_ok (m : Nat) (hct : ∀ k, k < m → ∀ R, CallOK (R := R) Tryz.prog (ct k)) {R : Type} {args : List AV} {objs : List Ob} {K : Res → Option R} {r : R} (h : ct99 m args objs K = some r) : ∃ q : Res, K q = some r ∧ FX Tryz.prog 99 args objs q.1 q.2 ∧ HasBody Tryz.prog 99 := by
  unfold ct99 at h
  split at h
  · rename_i l hl
    obtain ⟨x, hx, hk⟩ := Option.bind_eq_some_iff.1 h
    obtain ⟨h1, h2⟩ := sel33_ok hl
    cases m with
    | zero => cases hx
    | succ m => exact ⟨_, hk, (schema_kindOf_fx m (hct m (Nat.lt_succ_self m)) _ hx).conv h1 h2, ⟨_, Tryz.func99, rfl, by decide⟩⟩
  cases h
theorem ct92_ok (m : Nat) (hct : ∀ k, k < m → ∀ R, CallOK (R := R) Tryz.prog (ct k)) {R : Type} {args : List AV} {objs : List Ob} {K : Res → Option R} {r : R} (h : ct92 m args objs K = some r) : ∃ q : Res, K q = some r ∧ FX Tryz.prog 92 args objs q.1 q.2 ∧ HasBody Tryz.prog 92 := by
  unfold ct92 at h
  split at h
  · rename_i l hl
    obtain ⟨x, hx, hk⟩ := Option.bind_eq_some_iff.1 h
    obtain ⟨h1, h2⟩ := sel34_ok hl
    cases m with
    | zero => cases hx
    | succ m => exact ⟨_, hk, (schema_isName_fx m (hct m (Nat.lt_succ_self m)) _ hx).conv h1 h2, ⟨_, Tryz.func92, rfl, by decide⟩⟩
  cases h
theorem ct93_ok (m : Nat) (hct : ∀ k, k < m → ∀ R, CallOK (R := R) Tryz.prog (ct k)) {R : Type} {args : List AV} {objs : List Ob} {K : Res → Option R} {r : R} (h : ct93 m args objs K = some r) : ∃ q : Res, K q = some r ∧ FX Tryz.prog 93 args objs q.1 q.2 ∧ HasBody Tryz.prog 93 := by
  unfold ct93 at h
  split at h
  · rename_i l hl
    obtain ⟨x, hx, hk⟩ := Option.bind_eq_some_iff.1 h
    obtain ⟨h1, h2⟩ := sel35_ok hl
    cases m with
    | zero => cases hx
    | succ m => exact ⟨_, hk, (schema_bound_fx m (hct m (Nat.lt_succ_self m)) _ _ hx).conv h1 h2, ⟨_, Tryz.func93, rfl, by decide⟩⟩
  cases h
theorem ct62_ok (m : Nat) (hct : ∀ k, k < m → ∀ R, CallOK (R := R) Tryz.prog (ct k)) {R : Type} {args : List AV} {objs : List Ob} {K : Res → Option R} {r : R} (h : ct62 m args objs K = some r) : ∃ q : Res, K q = some r ∧ FX Tryz.prog 62 args objs q.1 q.2 ∧ HasBody Tryz.prog 62 := by
  unfold ct62 at h
  split at h
  · rename_i l hl
    obtain ⟨x, hx, hk⟩ := Option.bind_eq_some_iff.1 h
    obtain ⟨h1, h2⟩ := sel36_ok hl
    cases m with
    | zero => cases hx
    | succ m => exact ⟨_, hk, (value_nodes_fx m (hct m (Nat.lt_succ_self m)) _ _ hx).conv h1 h2, ⟨_, Tryz.func62, rfl, by decide⟩⟩
  cases h
theorem ct56_ok (m : Nat) (hct : ∀ k, k < m → ∀ R, CallOK (R := R) Tryz.prog (ct k)) {R : Type} {args : List AV} {objs : List Ob} {K : Res → Option R} {r : R} (h : ct56 m args objs K = some r) : ∃ q : Res, K q = some r ∧ FX Tryz.prog 56 args objs q.1 q.2 ∧ HasBody Tryz.prog 56 := by
  unfold ct56 at h
  split at h
  · rename_i l hl
    obtain ⟨x, hx, hk⟩ := Option.bind_eq_some_iff.1 h
    obtain ⟨h1, h2⟩ := sel37_ok hl
    exact ⟨_, hk, (Itoa_fx hx).conv h1 h2, ⟨_, Tryz.func56, rfl, by decide⟩⟩
  cases h
theorem ct64_ok (m : Nat) (hct : ∀ k, k < m → ∀ R, CallOK (R := R) Tryz.prog (ct k)) {R : Type} {args : List AV} {objs : List Ob} {K : Res → Option R} {r : R} (h : ct64 m args objs K = some r) : ∃ q : Res, K q = some r ∧ FX Tryz.prog 64 args objs q.1 q.2 ∧ HasBody Tryz.prog 64 := by
  unfold ct64 at h
  split at h
  · rename_i l hl
    obtain ⟨x, hx, hk⟩ := Option.bind_eq_some_iff.1 h
    obtain ⟨h1, h2⟩ := sel38_ok hl
    cases m with
    | zero => cases hx
    | succ m => exact ⟨_, hk, (schema_isField_fx m (hct m (Nat.lt_succ_self m)) _ hx).conv h1 h2, ⟨_, Tryz.func64, rfl, by decide⟩⟩
  cases h
theorem ct65_ok (m : Nat) (hct : ∀ k, k < m → ∀ R, CallOK (R := R) Tryz.prog (ct k)) {R : Type} {args : List AV} {objs : List Ob} {K : Res → Option R} {r : R} (h : ct65 m args objs K = some r) : ∃ q : Res, K q = some r ∧ FX Tryz.prog 65 args objs q.1 q.2 ∧ HasBody Tryz.prog 65 := by
  unfold ct65 at h
  split at h
  · rename_i l hl
    obtain ⟨x, hx, hk⟩ := Option.bind_eq_some_iff.1 h
    obtain ⟨h1, h2⟩ := sel39_ok hl
    cases m with
    | zero => cases hx
    | succ m => exact ⟨_, hk, (value_sound_fx m (hct m (Nat.lt_succ_self m)) _ hx).conv h1 h2, ⟨_, Tryz.func65, rfl, by decide⟩⟩
  cases h
theorem ct63_ok (m : Nat) (hct : ∀ k, k < m → ∀ R, CallOK (R := R) Tryz.prog (ct k)) {R : Type} {args : List AV} {objs : List Ob} {K : Res → Option R} {r : R} (h : ct63 m args objs K = some r) : ∃ q : Res, K q = some r ∧ FX Tryz.prog 63 args objs q.1 q.2 ∧ HasBody Tryz.prog 63 := by
  unfold ct63 at h
  split at h
  · rename_i l hl
    obtain ⟨x, hx, hk⟩ := Option.bind_eq_some_iff.1 h
    obtain ⟨h1, h2⟩ := sel40_ok hl
    cases m with
    | zero => cases hx
    | succ m => exact ⟨_, hk, (value_depth_fx m (hct m (Nat.lt_succ_self m)) _ _ hx).conv h1 h2, ⟨_, Tryz.func63, rfl, by decide⟩⟩
  cases h
theorem ct74_ok (m : Nat) (hct : ∀ k, k < m → ∀ R, CallOK (R := R) Tryz.prog (ct k)) {R : Type} {args : List AV} {objs : List Ob} {K : Res → Option R} {r : R} (h : ct74 m args objs K = some r) : ∃ q : Res, K q = some r ∧ FX Tryz.prog 74 args objs q.1 q.2 ∧ HasBody Tryz.prog 74 := by
  unfold ct74 at h
  split at h
  · rename_i l hl
    obtain ⟨x, hx, hk⟩ := Option.bind_eq_some_iff.1 h
    obtain ⟨h1, h2⟩ := sel41_ok hl
    cases m with
    | zero => cases hx
    | succ m => exact ⟨_, hk, (ref14_kinds_fx m (hct m (Nat.lt_succ_self m)) _ hx).conv h1 h2, ⟨_, Tryz.func74, rfl, by decide⟩⟩
  cases h
theorem ct75_ok (m : Nat) (hct : ∀ k, k < m → ∀ R, CallOK (R := R) Tryz.prog (ct k)) {R : Type} {args : List AV} {objs : List Ob} {K : Res → Option R} {r : R} (h : ct75 m args objs K = some r) : ∃ q : Res, K q = some r ∧ FX Tryz.prog 75 args objs q.1 q.2 ∧ HasBody Tryz.prog 75 := by
  unfold ct75 at h
  split at h
  · rename_i l hl
    obtain ⟨x, hx, hk⟩ := Option.bind_eq_some_iff.1 h
    obtain ⟨h1, h2⟩ := sel42_ok hl
    cases m with
    | zero => cases hx
    | succ m => exact ⟨_, hk, (ref14_texts_fx m (hct m (Nat.lt_succ_self m)) _ hx).conv h1 h2, ⟨_, Tryz.func75, rfl, by decide⟩⟩
  cases h
theorem ct76_ok (m : Nat) (hct : ∀ k, k < m → ∀ R, CallOK (R := R) Tryz.prog (ct k)) {R : Type} {args : List AV} {objs : List Ob} {K : Res → Option R} {r : R} (h : ct76 m args objs K = some r) : ∃ q : Res, K q = some r ∧ FX Tryz.prog 76 args objs q.1 q.2 ∧ HasBody Tryz.prog 76 := by
  unfold ct76 at h
  split at h
  · rename_i l hl
    obtain ⟨x, hx, hk⟩ := Option.bind_eq_some_iff.1 h
    obtain ⟨h1, h2⟩ := sel43_ok hl
    cases m with
    | zero => cases hx
    | succ m => exact ⟨_, hk, (ref14_props_fx m (hct m (Nat.lt_succ_self m)) _ hx).conv h1 h2, ⟨_, Tryz.func76, rfl, by decide⟩⟩
  cases h
theorem ct77_ok (m : Nat) (hct : ∀ k, k < m → ∀ R, CallOK (R := R) Tryz.prog (ct k)) {R : Type} {args : List AV} {objs : List Ob} {K : Res → Option R} {r : R} (h : ct77 m args objs K = some r) : ∃ q : Res, K q = some r ∧ FX Tryz.prog 77 args objs q.1 q.2 ∧ HasBody Tryz.prog 77 := by
  unfold ct77 at h
  split at h
  · rename_i l hl
    obtain ⟨x, hx, hk⟩ := Option.bind_eq_some_iff.1 h
    obtain ⟨h1, h2⟩ := sel44_ok hl
    cases m with
    | zero => cases hx
    | succ m => exact ⟨_, hk, (ref14_single_fx m (hct m (Nat.lt_succ_self m)) _ hx).conv h1 h2, ⟨_, Tryz.func77, rfl, by decide⟩⟩
  cases h
theorem ct70_ok (m : Nat) (hct : ∀ k, k < m → ∀ R, CallOK (R := R) Tryz.prog (ct k)) {R : Type} {args : List AV} {objs : List Ob} {K : Res → Option R} {r : R} (h : ct70 m args objs K = some r) : ∃ q : Res, K q = some r ∧ FX Tryz.prog 70 args objs q.1 q.2 ∧ HasBody Tryz.prog 70 := by
  unfold ct70 at h
  split at h
  · rename_i l hl
    obtain ⟨x, hx, hk⟩ := Option.bind_eq_some_iff.1 h
    obtain ⟨h1, h2⟩ := sel45_ok hl
    cases m with
    | zero => cases hx
    | succ m => exact ⟨_, hk, (ref01_levels_fx m (hct m (Nat.lt_succ_self m)) _ _ hx).conv h1 h2, ⟨_, Tryz.func70, rfl, by decide⟩⟩
  cases h
theorem ct71_ok (m : Nat) (hct : ∀ k, k < m → ∀ R, CallOK (R := R) Tryz.prog (ct k)) {R : Type} {args : List AV} {objs : List Ob} {K : Res → Option R} {r : R} (h : ct71 m args objs K = some r) : ∃ q : Res, K q = some r ∧ FX Tryz.prog 71 args objs q.1 q.2 ∧ HasBody Tryz.prog 71 := by
  unfold ct71 at h
  split at h
  · rename_i l hl
    obtain ⟨x, hx, hk⟩ := Option.bind_eq_some_iff.1 h
    obtain ⟨h1, h2⟩ := sel46_ok hl
    cases m with
    | zero => cases hx
    | succ m => exact ⟨_, hk, (ref01_count_fx m (hct m (Nat.lt_succ_self m)) _ _ hx).conv h1 h2, ⟨_, Tryz.func71, rfl, by decide⟩⟩
  cases h
theorem ct72_ok (m : Nat) (hct : ∀ k, k < m → ∀ R, CallOK (R := R) Tryz.prog (ct k)) {R : Type} {args : List AV} {objs : List Ob} {K : Res → Option R} {r : R} (h : ct72 m args objs K = some r) : ∃ q : Res, K q = some r ∧ FX Tryz.prog 72 args objs q.1 q.2 ∧ HasBody Tryz.prog 72 := by
  unfold ct72 at h
  split at h
  · rename_i l hl
    obtain ⟨x, hx, hk⟩ := Option.bind_eq_some_iff.1 h
    obtain ⟨h1, h2⟩ := sel47_ok hl
    cases m with
    | zero => cases hx
    | succ m => exact ⟨_, hk, (ref01_UTF8_fx m (hct m (Nat.lt_succ_self m)) _ hx).conv h1 h2, ⟨_, Tryz.func72, rfl, by decide⟩⟩
  cases h
theorem ct73_ok (m : Nat) (hct : ∀ k, k < m → ∀ R, CallOK (R := R) Tryz.prog (ct k)) {R : Type} {args : List AV} {objs : List Ob} {K : Res → Option R} {r : R} (h : ct73 m args objs K = some r) : ∃ q : Res, K q = some r ∧ FX Tryz.prog 73 args objs q.1 q.2 ∧ HasBody Tryz.prog 73 := by
  unfold ct73 at h
  split at h
  · rename_i l hl
    obtain ⟨x, hx, hk⟩ := Option.bind_eq_some_iff.1 h
    obtain ⟨h1, h2⟩ := sel48_ok hl
    cases m with
    | zero => cases hx
    | succ m => exact ⟨_, hk, (ref01_fields_fx m (hct m (Nat.lt_succ_self m)) _ _ hx).conv h1 h2, ⟨_, Tryz.func73, rfl, by decide⟩⟩
  cases h
theorem ct94_ok (m : Nat) (hct : ∀ k, k < m → ∀ R, CallOK (R := R) Tryz.prog (ct k)) {R : Type} {args : List AV} {objs : List Ob} {K : Res → Option R} {r : R} (h : ct94 m args objs K = some r) : ∃ q : Res, K q = some r ∧ FX Tryz.prog 94 args objs q.1 q.2 ∧ HasBody Tryz.prog 94 := by
  unfold ct94 at h
  split at h
  · rename_i l hl
    obtain ⟨x, hx, hk⟩ := Option.bind_eq_some_iff.1 h
    obtain ⟨h1, h2⟩ := sel49_ok hl
    cases m with
    | zero => cases hx
    | succ m => exact ⟨_, hk, (i49_fx m (hct m (Nat.lt_succ_self m)) _ _ _ hx).conv h1 h2, ⟨_, Tryz.func94, rfl, by decide⟩⟩
  split at h
  · rename_i l hl
    obtain ⟨x, hx, hk⟩ := Option.bind_eq_some_iff.1 h
    obtain ⟨h1, h2⟩ := sel53_ok hl
    cases m with
    | zero => cases hx
    | succ m => exact ⟨_, hk, (i53_fx m (hct m (Nat.lt_succ_self m)) _ _ _ hx).conv h1 h2, ⟨_, Tryz.func94, rfl, by decide⟩⟩
  cases h
theorem ct95_ok (m : Nat) (hct : ∀ k, k < m → ∀ R, CallOK (R := R) Tryz.prog (ct k)) {R : Type} {args : List AV} {objs : List Ob} {K : Res → Option R} {r : R} (h : ct95 m args objs K = some r) : ∃ q : Res, K q = some r ∧ FX Tryz.prog 95 args objs q.1 q.2 ∧ HasBody Tryz.prog 95 := by
  unfold ct95 at h
  split at h
  · rename_i l hl
    obtain ⟨x, hx, hk⟩ := Option.bind_eq_some_iff.1 h
    obtain ⟨h1, h2⟩ := sel50_ok hl
    cases m with
    | zero => cases hx
    | succ m => exact ⟨_, hk, (i50_fx m (hct m (Nat.lt_succ_self m)) _ _ _ hx).conv h1 h2, ⟨_, Tryz.func95, rfl, by decide⟩⟩
  cases h
theorem ct97_ok (m : Nat) (hct : ∀ k, k < m → ∀ R, CallOK (R := R) Tryz.prog (ct k)) {R : Type} {args : List AV} {objs : List Ob} {K : Res → Option R} {r : R} (h : ct97 m args objs K = some r) : ∃ q : Res, K q = some r ∧ FX Tryz.prog 97 args objs q.1 q.2 ∧ HasBody Tryz.prog 97 := by
  unfold ct97 at h
  split at h
  · rename_i l hl
    obtain ⟨x, hx, hk⟩ := Option.bind_eq_some_iff.1 h
    obtain ⟨h1, h2⟩ := sel51_ok hl
    exact ⟨_, hk, (ValidString_fx hx).conv h1 h2, ⟨_, Tryz.func97, rfl, by decide⟩⟩
  cases h
theorem ct98_ok (m : Nat) (hct : ∀ k, k < m → ∀ R, CallOK (R := R) Tryz.prog (ct k)) {R : Type} {args : List AV} {objs : List Ob} {K : Res → Option R} {r : R} (h : ct98 m args objs K = some r) : ∃ q : Res, K q = some r ∧ FX Tryz.prog 98 args objs q.1 q.2 ∧ HasBody Tryz.prog 98 := by
  unfold ct98 at h
  split at h
  · rename_i l hl
    obtain ⟨x, hx, hk⟩ := Option.bind_eq_some_iff.1 h
    obtain ⟨h1, h2⟩ := sel52_ok hl
    cases m with
    | zero => cases hx
    | succ m => exact ⟨_, hk, (value_soundFields_fx m (hct m (Nat.lt_succ_self m)) _ hx).conv h1 h2, ⟨_, Tryz.func98, rfl, by decide⟩⟩
  cases h
theorem ct96_ok (m : Nat) (hct : ∀ k, k < m → ∀ R, CallOK (R := R) Tryz.prog (ct k)) {R : Type} {args : List AV} {objs : List Ob} {K : Res → Option R} {r : R} (h : ct96 m args objs K = some r) : ∃ q : Res, K q = some r ∧ FX Tryz.prog 96 args objs q.1 q.2 ∧ HasBody Tryz.prog 96 := by
  unfold ct96 at h
  split at h
  · rename_i l hl
    obtain ⟨x, hx, hk⟩ := Option.bind_eq_some_iff.1 h
    obtain ⟨h1, h2⟩ := sel54_ok hl
    cases m with
    | zero => cases hx
    | succ m => exact ⟨_, hk, (i54_fx m (hct m (Nat.lt_succ_self m)) _ _ _ hx).conv h1 h2, ⟨_, Tryz.func96, rfl, by decide⟩⟩
  cases h
theorem ct104_ok (m : Nat) (hct : ∀ k, k < m → ∀ R, CallOK (R := R) Tryz.prog (ct k)) {R : Type} {args : List AV} {objs : List Ob} {K : Res → Option R} {r : R} (h : ct104 m args objs K = some r) : ∃ q : Res, K q = some r ∧ FX Tryz.prog 104 args objs q.1 q.2 ∧ HasBody Tryz.prog 104 := by
  unfold ct104 at h
  split at h
  · rename_i l hl
    obtain ⟨x, hx, hk⟩ := Option.bind_eq_some_iff.1 h
    obtain ⟨h1, h2⟩ := sel55_ok hl
    cases m with
    | zero => cases hx
    | succ m => exact ⟨_, hk, (ref14_kind_fx m (hct m (Nat.lt_succ_self m)) _ hx).conv h1 h2, ⟨_, Tryz.func104, rfl, by decide⟩⟩
  cases h
theorem ct105_ok (m : Nat) (hct : ∀ k, k < m → ∀ R, CallOK (R := R) Tryz.prog (ct k)) {R : Type} {args : List AV} {objs : List Ob} {K : Res → Option R} {r : R} (h : ct105 m args objs K = some r) : ∃ q : Res, K q = some r ∧ FX Tryz.prog 105 args objs q.1 q.2 ∧ HasBody Tryz.prog 105 := by
  unfold ct105 at h
  split at h
  · rename_i l hl
    obtain ⟨x, hx, hk⟩ := Option.bind_eq_some_iff.1 h
    obtain ⟨h1, h2⟩ := sel56_ok hl
    cases m with
    | zero => cases hx
    | succ m => exact ⟨_, hk, (ref14_different_fx m (hct m (Nat.lt_succ_self m)) _ hx).conv h1 h2, ⟨_, Tryz.func105, rfl, by decide⟩⟩
  cases h
theorem ct106_ok (m : Nat) (hct : ∀ k, k < m → ∀ R, CallOK (R := R) Tryz.prog (ct k)) {R : Type} {args : List AV} {objs : List Ob} {K : Res → Option R} {r : R} (h : ct106 m args objs K = some r) : ∃ q : Res, K q = some r ∧ FX Tryz.prog 106 args objs q.1 q.2 ∧ HasBody Tryz.prog 106 := by
  unfold ct106 at h
  split at h
  · rename_i l hl
    obtain ⟨x, hx, hk⟩ := Option.bind_eq_some_iff.1 h
    obtain ⟨h1, h2⟩ := sel57_ok hl
    cases m with
    | zero => cases hx
    | succ m => exact ⟨_, hk, (ref14_unused_fx m (hct m (Nat.lt_succ_self m)) _ _ hx).conv h1 h2, ⟨_, Tryz.func106, rfl, by decide⟩⟩
  cases h
theorem ct107_ok (m : Nat) (hct : ∀ k, k < m → ∀ R, CallOK (R := R) Tryz.prog (ct k)) {R : Type} {args : List AV} {objs : List Ob} {K : Res → Option R} {r : R} (h : ct107 m args objs K = some r) : ∃ q : Res, K q = some r ∧ FX Tryz.prog 107 args objs q.1 q.2 ∧ HasBody Tryz.prog 107 := by
  unfold ct107 at h
  split at h
  · rename_i l hl
    obtain ⟨x, hx, hk⟩ := Option.bind_eq_some_iff.1 h
    obtain ⟨h1, h2⟩ := sel58_ok hl
    cases m with
    | zero => cases hx
    | succ m => exact ⟨_, hk, (ref01_Valid_fx m (hct m (Nat.lt_succ_self m)) _ hx).conv h1 h2, ⟨_, Tryz.func107, rfl, by decide⟩⟩
  cases h
theorem ct100_ok (m : Nat) (hct : ∀ k, k < m → ∀ R, CallOK (R := R) Tryz.prog (ct k)) {R : Type} {args : List AV} {objs : List Ob} {K : Res → Option R} {r : R} (h : ct100 m args objs K = some r) : ∃ q : Res, K q = some r ∧ FX Tryz.prog 100 args objs q.1 q.2 ∧ HasBody Tryz.prog 100 := by
  unfold ct100 at h
  split at h
  · rename_i l hl
    obtain ⟨x, hx, hk⟩ := Option.bind_eq_some_iff.1 h
    obtain ⟨h1, h2⟩ := sel59_ok hl
    cases m with
    | zero => cases hx
    | succ m => exact ⟨_, hk, (ref01_Parts_fx m (hct m (Nat.lt_succ_self m)) _ hx).conv h1 h2, ⟨_, Tryz.func100, rfl, by decide⟩⟩
  cases h
theorem ct101_ok (m : Nat) (hct : ∀ k, k < m → ∀ R, CallOK (R := R) Tryz.prog (ct k)) {R : Type} {args : List AV} {objs : List Ob} {K : Res → Option R} {r : R} (h : ct101 m args objs K = some r) : ∃ q : Res, K q = some r ∧ FX Tryz.prog 101 args objs q.1 q.2 ∧ HasBody Tryz.prog 101 := by
  unfold ct101 at h
  split at h
  · rename_i l hl
    obtain ⟨x, hx, hk⟩ := Option.bind_eq_some_iff.1 h
    obtain ⟨h1, h2⟩ := sel60_ok hl
    cases m with
    | zero => cases hx
    | succ m => exact ⟨_, hk, (ref01_tail_fx m (hct m (Nat.lt_succ_self m)) _ _ _ hx).conv h1 h2, ⟨_, Tryz.func101, rfl, by decide⟩⟩
  cases h
theorem ct102_ok (m : Nat) (hct : ∀ k, k < m → ∀ R, CallOK (R := R) Tryz.prog (ct k)) {R : Type} {args : List AV} {objs : List Ob} {K : Res → Option R} {r : R} (h : ct102 m args objs K = some r) : ∃ q : Res, K q = some r ∧ FX Tryz.prog 102 args objs q.1 q.2 ∧ HasBody Tryz.prog 102 := by
  unfold ct102 at h
  split at h
  · rename_i l hl
    obtain ⟨x, hx, hk⟩ := Option.bind_eq_some_iff.1 h
    obtain ⟨h1, h2⟩ := sel61_ok hl
    cases m with
    | zero => cases hx
    | succ m => exact ⟨_, hk, (ref01_Name_fx m (hct m (Nat.lt_succ_self m)) _ hx).conv h1 h2, ⟨_, Tryz.func102, rfl, by decide⟩⟩
  cases h
theorem ct103_ok (m : Nat) (hct : ∀ k, k < m → ∀ R, CallOK (R := R) Tryz.prog (ct k)) {R : Type} {args : List AV} {objs : List Ob} {K : Res → Option R} {r : R} (h : ct103 m args objs K = some r) : ∃ q : Res, K q = some r ∧ FX Tryz.prog 103 args objs q.1 q.2 ∧ HasBody Tryz.prog 103 := by
  unfold ct103 at h
  split at h
  · rename_i l hl
    obtain ⟨x, hx, hk⟩ := Option.bind_eq_some_iff.1 h
    obtain ⟨h1, h2⟩ := sel62_ok hl
    cases m with
    | zero => cases hx
    | succ m => exact ⟨_, hk, (ref01_wide_fx m (hct m (Nat.lt_succ_self m)) _ hx).conv h1 h2, ⟨_, Tryz.func103, rfl, by decide⟩⟩
  cases h
theorem ct116_ok (m : Nat) (hct : ∀ k, k < m → ∀ R, CallOK (R := R) Tryz.prog (ct k)) {R : Type} {args : List AV} {objs : List Ob} {K : Res → Option R} {r : R} (h : ct116 m args objs K = some r) : ∃ q : Res, K q = some r ∧ FX Tryz.prog 116 args objs q.1 q.2 ∧ HasBody Tryz.prog 116 := by
  unfold ct116 at h
  split at h
  · rename_i l hl
    obtain ⟨x, hx, hk⟩ := Option.bind_eq_some_iff.1 h
    obtain ⟨h1, h2⟩ := sel63_ok hl
    cases m with
    | zero => cases hx
    | succ m => exact ⟨_, hk, (value_isName_fx m (hct m (Nat.lt_succ_self m)) _ hx).conv h1 h2, ⟨_, Tryz.func116, rfl, by decide⟩⟩
  cases h
set_option maxHeartbeats 4000000 in
theorem ct_ok : ∀ (m : Nat) (R : Type), CallOK (R := R) Tryz.prog (ct m) := by
  intro m
  induction m using Nat.strongRecOn with
  | _ m ih =>
    intro R f args objs K r h
    unfold ct at h
    rcases bset_some h with ⟨hb, h1⟩ | ⟨_, h⟩
    · have e := beq_eq hb
      subst e
      exact ct3_ok m ih h1
    rcases bset_some h with ⟨hb, h1⟩ | ⟨_, h⟩
    · have e := beq_eq hb
      subst e
      exact ct6_ok m ih h1
    rcases bset_some h with ⟨hb, h1⟩ | ⟨_, h⟩
    · have e := beq_eq hb
      subst e
      exact ct7_ok m ih h1
    rcases bset_some h with ⟨hb, h1⟩ | ⟨_, h⟩
    · have e := beq_eq hb
      subst e
      exact ct8_ok m ih h1
    rcases bset_some h with ⟨hb, h1⟩ | ⟨_, h⟩
    · have e := beq_eq hb
      subst e
      exact ct9_ok m ih h1
    rcases bset_some h with ⟨hb, h1⟩ | ⟨_, h⟩
    · have e := beq_eq hb
      subst e
      exact ct10_ok m ih h1
    rcases bset_some h with ⟨hb, h1⟩ | ⟨_, h⟩
    · have e := beq_eq hb
      subst e
      exact ct17_ok m ih h1
    rcases bset_some h with ⟨hb, h1⟩ | ⟨_, h⟩
    · have e := beq_eq hb
      subst e
      exact ct22_ok m ih h1
    rcases bset_some h with ⟨hb, h1⟩ | ⟨_, h⟩
    · have e := beq_eq hb
      subst e
      exact ct20_ok m ih h1
    rcases bset_some h with ⟨hb, h1⟩ | ⟨_, h⟩
    · have e := beq_eq hb
      subst e
      exact ct21_ok m ih h1
    rcases bset_some h with ⟨hb, h1⟩ | ⟨_, h⟩
    · have e := beq_eq hb
      subst e
      exact ct24_ok m ih h1
    rcases bset_some h with ⟨hb, h1⟩ | ⟨_, h⟩
    · have e := beq_eq hb
      subst e
      exact ct25_ok m ih h1
    rcases bset_some h with ⟨hb, h1⟩ | ⟨_, h⟩
    · have e := beq_eq hb
      subst e
      exact ct23_ok m ih h1
    rcases bset_some h with ⟨hb, h1⟩ | ⟨_, h⟩
    · have e := beq_eq hb
      subst e
      exact ct28_ok m ih h1
    rcases bset_some h with ⟨hb, h1⟩ | ⟨_, h⟩
    · have e := beq_eq hb
      subst e
      exact ct26_ok m ih h1
    rcases bset_some h with ⟨hb, h1⟩ | ⟨_, h⟩
    · have e := beq_eq hb
      subst e
      exact ct27_ok m ih h1
    rcases bset_some h with ⟨hb, h1⟩ | ⟨_, h⟩
    · have e := beq_eq hb
      subst e
      exact ct37_ok m ih h1
    rcases bset_some h with ⟨hb, h1⟩ | ⟨_, h⟩
    · have e := beq_eq hb
      subst e
      exact ct66_ok m ih h1
    rcases bset_some h with ⟨hb, h1⟩ | ⟨_, h⟩
    · have e := beq_eq hb
      subst e
      exact ct67_ok m ih h1
    rcases bset_some h with ⟨hb, h1⟩ | ⟨_, h⟩
    · have e := beq_eq hb
      subst e
      exact ct68_ok m ih h1
    rcases bset_some h with ⟨hb, h1⟩ | ⟨_, h⟩
    · have e := beq_eq hb
      subst e
      exact ct69_ok m ih h1
    rcases bset_some h with ⟨hb, h1⟩ | ⟨_, h⟩
    · have e := beq_eq hb
      subst e
      exact ct32_ok m ih h1
    rcases bset_some h with ⟨hb, h1⟩ | ⟨_, h⟩
    · have e := beq_eq hb
      subst e
      exact ct61_ok m ih h1
    rcases bset_some h with ⟨hb, h1⟩ | ⟨_, h⟩
    · have e := beq_eq hb
      subst e
      exact ct33_ok m ih h1
    rcases bset_some h with ⟨hb, h1⟩ | ⟨_, h⟩
    · have e := beq_eq hb
      subst e
      exact ct35_ok m ih h1
    rcases bset_some h with ⟨hb, h1⟩ | ⟨_, h⟩
    · have e := beq_eq hb
      subst e
      exact ct36_ok m ih h1
    rcases bset_some h with ⟨hb, h1⟩ | ⟨_, h⟩
    · have e := beq_eq hb
      subst e
      exact ct34_ok m ih h1
    rcases bset_some h with ⟨hb, h1⟩ | ⟨_, h⟩
    · have e := beq_eq hb
      subst e
      exact ct41_ok m ih h1
    rcases bset_some h with ⟨hb, h1⟩ | ⟨_, h⟩
    · have e := beq_eq hb
      subst e
      exact ct42_ok m ih h1
    rcases bset_some h with ⟨hb, h1⟩ | ⟨_, h⟩
    · have e := beq_eq hb
      subst e
      exact ct38_ok m ih h1
    rcases bset_some h with ⟨hb, h1⟩ | ⟨_, h⟩
    · have e := beq_eq hb
      subst e
      exact ct39_ok m ih h1
    rcases bset_some h with ⟨hb, h1⟩ | ⟨_, h⟩
    · have e := beq_eq hb
      subst e
      exact ct40_ok m ih h1
    rcases bset_some h with ⟨hb, h1⟩ | ⟨_, h⟩
    · have e := beq_eq hb
      subst e
      exact ct43_ok m ih h1
    rcases bset_some h with ⟨hb, h1⟩ | ⟨_, h⟩
    · have e := beq_eq hb
      subst e
      exact ct99_ok m ih h1
    rcases bset_some h with ⟨hb, h1⟩ | ⟨_, h⟩
    · have e := beq_eq hb
      subst e
      exact ct92_ok m ih h1
    rcases bset_some h with ⟨hb, h1⟩ | ⟨_, h⟩
    · have e := beq_eq hb
      subst e
      exact ct93_ok m ih h1
    rcases bset_some h with ⟨hb, h1⟩ | ⟨_, h⟩
    · have e := beq_eq hb
      subst e
      exact ct62_ok m ih h1
    rcases bset_some h with ⟨hb, h1⟩ | ⟨_, h⟩
    · have e := beq_eq hb
      subst e
      exact ct56_ok m ih h1
    rcases bset_some h with ⟨hb, h1⟩ | ⟨_, h⟩
    · have e := beq_eq hb
      subst e
      exact ct64_ok m ih h1
    rcases bset_some h with ⟨hb, h1⟩ | ⟨_, h⟩
    · have e := beq_eq hb
      subst e
      exact ct65_ok m ih h1
    rcases bset_some h with ⟨hb, h1⟩ | ⟨_, h⟩
    · have e := beq_eq hb
      subst e
      exact ct63_ok m ih h1
    rcases bset_some h with ⟨hb, h1⟩ | ⟨_, h⟩
    · have e := beq_eq hb
      subst e
      exact ct74_ok m ih h1
    rcases bset_some h with ⟨hb, h1⟩ | ⟨_, h⟩
    · have e := beq_eq hb
      subst e
      exact ct75_ok m ih h1
    rcases bset_some h with ⟨hb, h1⟩ | ⟨_, h⟩
    · have e := beq_eq hb
      subst e
      exact ct76_ok m ih h1
    rcases bset_some h with ⟨hb, h1⟩ | ⟨_, h⟩
    · have e := beq_eq hb
      subst e
      exact ct77_ok m ih h1
    rcases bset_some h with ⟨hb, h1⟩ | ⟨_, h⟩
    · have e := beq_eq hb
      subst e
      exact ct70_ok m ih h1
    rcases bset_some h with ⟨hb, h1⟩ | ⟨_, h⟩
    · have e := beq_eq hb
      subst e
      exact ct71_ok m ih h1
    rcases bset_some h with ⟨hb, h1⟩ | ⟨_, h⟩
    · have e := beq_eq hb
      subst e
      exact ct72_ok m ih h1
    rcases bset_some h with ⟨hb, h1⟩ | ⟨_, h⟩
    · have e := beq_eq hb
      subst e
      exact ct73_ok m ih h1
    rcases bset_some h with ⟨hb, h1⟩ | ⟨_, h⟩
    · have e := beq_eq hb
      subst e
      exact ct94_ok m ih h1
    rcases bset_some h with ⟨hb, h1⟩ | ⟨_, h⟩
    · have e := beq_eq hb
      subst e
      exact ct95_ok m ih h1
    rcases bset_some h with ⟨hb, h1⟩ | ⟨_, h⟩
    · have e := beq_eq hb
      subst e
      exact ct97_ok m ih h1
    rcases bset_some h with ⟨hb, h1⟩ | ⟨_, h⟩
    · have e := beq_eq hb
      subst e
      exact ct98_ok m ih h1
    rcases bset_some h with ⟨hb, h1⟩ | ⟨_, h⟩
    · have e := beq_eq hb
      subst e
      exact ct96_ok m ih h1
    rcases bset_some h with ⟨hb, h1⟩ | ⟨_, h⟩
    · have e := beq_eq hb
      subst e
      exact ct104_ok m ih h1
    rcases bset_some h with ⟨hb, h1⟩ | ⟨_, h⟩
    · have e := beq_eq hb
      subst e
      exact ct105_ok m ih h1
    rcases bset_some h with ⟨hb, h1⟩ | ⟨_, h⟩
    · have e := beq_eq hb
      subst e
      exact ct106_ok m ih h1
    rcases bset_some h with ⟨hb, h1⟩ | ⟨_, h⟩
    · have e := beq_eq hb
      subst e
      exact ct107_ok m ih h1
    rcases bset_some h with ⟨hb, h1⟩ | ⟨_, h⟩
    · have e := beq_eq hb
      subst e
      exact ct100_ok m ih h1
    rcases bset_some h with ⟨hb, h1⟩ | ⟨_, h⟩
    · have e := beq_eq hb
      subst e
      exact ct101_ok m ih h1
    rcases bset_some h with ⟨hb, h1⟩ | ⟨_, h⟩
    · have e := beq_eq hb
      subst e
      exact ct102_ok m ih h1
    rcases bset_some h with ⟨hb, h1⟩ | ⟨_, h⟩
    · have e := beq_eq hb
      subst e
      exact ct103_ok m ih h1
    rcases bset_some h with ⟨hb, h1⟩ | ⟨_, h⟩
    · have e := beq_eq hb
      subst e
      exact ct116_ok m ih h1
    cases h
end Go.Proofs.YtfneddmmeadacaaGreatDoor
