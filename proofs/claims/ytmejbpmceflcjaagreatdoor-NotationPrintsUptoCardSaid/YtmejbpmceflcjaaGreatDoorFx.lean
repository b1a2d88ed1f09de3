/- Generated: the contracts. -/
import Derived.Test.YtmejbpmceflcjaaGreatDoorEq0
import Derived.Test.YtmejbpmceflcjaaGreatDoorEq1
set_option linter.unusedVariables false
set_option linter.unusedSimpArgs false
namespace Go.Proofs.YtmejbpmceflcjaaGreatDoor
open Go.Am
set_option maxRecDepth 100000
theorem mixed : Tryz.prog.follows .mixedOrders = true := by kernel_rfl
theorem ref02_count_fx (m : Nat) (hct : ∀ R, CallOK (R := R) Tryz.prog (ct m)) (a0 : Dt) (a1 a2 : Int) {r : Int} (h : ref02_count (m + 1) a0 a1 a2 = some r) : FX Tryz.prog 12 [(.dat 25 a0), (.dat 3 (.int a1)), (.dat 3 (.int a2))] [] (.dat 3 (.int r)) [] :=
  FX_of (q := ((.dat 3 (.int r)), [])) (E := env) (m := m + 1) (dec := d5) jn_ok (hct _) mixed Tryz.func12 rfl (Nat.le_of_ble_eq_true rfl) (fun b hb => d5_sim hb) ((ref02_count_eq m a0 a1 a2).trans h)
theorem ref02_Few_fx (m : Nat) (hct : ∀ R, CallOK (R := R) Tryz.prog (ct m)) (a0 : Dt) (a1 : Int) {r : Bool} (h : ref02_Few (m + 1) a0 a1 = some r) : FX Tryz.prog 5 [(.dat 25 a0), (.dat 3 (.int a1))] [] (.dat 4 (.bool r)) [] :=
  FX_of (q := ((.dat 4 (.bool r)), [])) (E := env) (m := m + 1) (dec := d1) jn_ok (hct _) mixed Tryz.func5 rfl (Nat.le_of_ble_eq_true rfl) (fun b hb => d1_sim hb) ((ref02_Few_eq m a0 a1).trans h)
theorem i9_fx (m : Nat) (hct : ∀ R, CallOK (R := R) Tryz.prog (ct m)) (a0 : Bool) (a1 : List Dt) {r : List Dt} (h : i9 (m + 1) a0 a1 = some r) : FX Tryz.prog 60 [(.row 0), (.dat 4 (.bool a0))] [(.row 40 a1)] (.row 1) [.gone, (.row 40 r)] :=
  FX_of (q := ((.row 1), [.gone, (.row 40 r)])) (E := env) (m := m + 1) (dec := d9) jn_ok (hct _) mixed Tryz.func60 rfl (Nat.le_of_ble_eq_true rfl) (fun b hb => d9_sim hb) ((i9_eq m a0 a1).trans h)
theorem i8_fx (m : Nat) (hct : ∀ R, CallOK (R := R) Tryz.prog (ct m)) (a0 : Bool) (a1 : List Dt) {r : List Dt} (h : i8 (m + 1) a0 a1 = some r) : FX Tryz.prog 30 [(.row 0), (.dat 4 (.bool a0))] [(.row 40 a1)] (.row 1) [.gone, (.row 40 r)] :=
  FX_of (q := ((.row 1), [.gone, (.row 40 r)])) (E := env) (m := m + 1) (dec := d9) jn_ok (hct _) mixed Tryz.func30 rfl (Nat.le_of_ble_eq_true rfl) (fun b hb => d9_sim hb) ((i8_eq m a0 a1).trans h)
theorem notation_Quote_fx (m : Nat) (hct : ∀ R, CallOK (R := R) Tryz.prog (ct m)) (a0 : ByteArray) {r : ByteArray} (h : notation_Quote (m + 1) a0 = some r) : FX Tryz.prog 13 [(.dat 9 (.str a0))] [] (.dat 9 (.str r)) [] :=
  FX_of (q := ((.dat 9 (.str r)), [])) (E := env) (m := m + 1) (dec := d11) jn_ok (hct _) mixed Tryz.func13 rfl (Nat.le_of_ble_eq_true rfl) (fun b hb => d11_sim hb) ((notation_Quote_eq m a0).trans h)
theorem i12_fx (m : Nat) (hct : ∀ R, CallOK (R := R) Tryz.prog (ct m)) (a0 : ByteArray) (a1 : List Dt) {r : List Dt} (h : i12 (m + 1) a0 a1 = some r) : FX Tryz.prog 32 [(.row 0), (.dat 9 (.str a0))] [(.row 40 a1)] (.row 1) [.gone, (.row 40 r)] :=
  FX_of (q := ((.row 1), [.gone, (.row 40 r)])) (E := env) (m := m + 1) (dec := d9) jn_ok (hct _) mixed Tryz.func32 rfl (Nat.le_of_ble_eq_true rfl) (fun b hb => d9_sim hb) ((i12_eq m a0 a1).trans h)
theorem notation_fromHex_fx (m : Nat) (hct : ∀ R, CallOK (R := R) Tryz.prog (ct m)) (a0 : Dt) {r : ByteArray × Bool} (h : notation_fromHex (m + 1) a0 = some r) : FX Tryz.prog 85 [(.dat 25 a0)] [] (.tup [(.dat 9 (.str r.1)), (.dat 4 (.bool r.2))]) [] :=
  FX_of (q := ((.tup [(.dat 9 (.str r.1)), (.dat 4 (.bool r.2))]), [])) (E := env) (m := m + 1) (dec := d23) jn_ok (hct _) mixed Tryz.func85 rfl (Nat.le_of_ble_eq_true rfl) (fun b hb => d23_sim hb) ((notation_fromHex_eq m a0).trans h)
theorem notation_special_fx (m : Nat) (hct : ∀ R, CallOK (R := R) Tryz.prog (ct m)) (a0 : List Dt) {r : Dt × Bool} (h : notation_special (m + 1) a0 = some r) : FX Tryz.prog 62 [(.dat 23 (.lst a0))] [] (.tup [(.dat 25 r.1), (.dat 4 (.bool r.2))]) [] :=
  FX_of (q := ((.tup [(.dat 25 r.1), (.dat 4 (.bool r.2))]), [])) (E := env) (m := m + 1) (dec := d15) jn_ok (hct _) mixed Tryz.func62 rfl (Nat.le_of_ble_eq_true rfl) (fun b hb => d15_sim hb) ((notation_special_eq m a0).trans h)
theorem i7_fx (m : Nat) (hct : ∀ R, CallOK (R := R) Tryz.prog (ct m)) (a0 : Dt) (a1 : List Dt) {r : Int × List Dt} (h : i7 (m + 1) a0 a1 = some r) : FX Tryz.prog 15 [(.row 0), (.dat 25 a0)] [(.row 40 a1)] (.tup [(.row 1), (.dat 28 (.int r.1))]) [.gone, (.row 40 r.2)] :=
  FX_of (q := ((.tup [(.row 1), (.dat 28 (.int r.1))]), [.gone, (.row 40 r.2)])) (E := env) (m := m + 1) (dec := d7) jn_ok (hct _) mixed Tryz.func15 rfl (Nat.le_of_ble_eq_true rfl) (fun b hb => d7_sim hb) ((i7_eq m a0 a1).trans h)
theorem i13_fx (m : Nat) (hct : ∀ R, CallOK (R := R) Tryz.prog (ct m)) (a0 a1 : List Dt) {r : Int × List Dt} (h : i13 (m + 1) a0 a1 = some r) : FX Tryz.prog 33 [(.row 0), (.dat 22 (.lst a0))] [(.row 40 a1)] (.tup [(.row 1), (.dat 28 (.int r.1))]) [.gone, (.row 40 r.2)] :=
  FX_of (q := ((.tup [(.row 1), (.dat 28 (.int r.1))]), [.gone, (.row 40 r.2)])) (E := env) (m := m + 1) (dec := d7) jn_ok (hct _) mixed Tryz.func33 rfl (Nat.le_of_ble_eq_true rfl) (fun b hb => d7_sim hb) ((i13_eq m a0 a1).trans h)
theorem i14_fx (m : Nat) (hct : ∀ R, CallOK (R := R) Tryz.prog (ct m)) (a0 a1 : List Dt) {r : Int × List Dt} (h : i14 (m + 1) a0 a1 = some r) : FX Tryz.prog 34 [(.row 0), (.dat 23 (.lst a0))] [(.row 40 a1)] (.tup [(.row 1), (.dat 28 (.int r.1))]) [.gone, (.row 40 r.2)] :=
  FX_of (q := ((.tup [(.row 1), (.dat 28 (.int r.1))]), [.gone, (.row 40 r.2)])) (E := env) (m := m + 1) (dec := d7) jn_ok (hct _) mixed Tryz.func34 rfl (Nat.le_of_ble_eq_true rfl) (fun b hb => d7_sim hb) ((i14_eq m a0 a1).trans h)
theorem value_nodes_fx (m : Nat) (hct : ∀ R, CallOK (R := R) Tryz.prog (ct m)) (a0 : Dt) (a1 : Int) {r : Int} (h : value_nodes (m + 1) a0 a1 = some r) : FX Tryz.prog 55 [(.dat 25 a0), (.dat 3 (.int a1))] [] (.dat 3 (.int r)) [] :=
  FX_of (q := ((.dat 3 (.int r)), [])) (E := env) (m := m + 1) (dec := d5) jn_ok (hct _) mixed Tryz.func55 rfl (Nat.le_of_ble_eq_true rfl) (fun b hb => d5_sim hb) ((value_nodes_eq m a0 a1).trans h)
theorem i42_fx (m : Nat) (hct : ∀ R, CallOK (R := R) Tryz.prog (ct m)) (a0 : Dt) (a1 a2 : Int) {r : Int × Int} (h : i42 (m + 1) a0 a1 a2 = some r) : FX Tryz.prog 79 [(.dat 25 a0), (.fn 80 [(.ptr 0 [] 0), (.ptr 1 [] 0)])] [(.box 3 (.dat 3 (.int a1))), (.box 3 (.dat 3 (.int a2)))] (.tup []) [(.box 3 (.dat 3 (.int r.1))), (.box 3 (.dat 3 (.int r.2)))] :=
  FX_of (q := ((.tup []), [(.box 3 (.dat 3 (.int r.1))), (.box 3 (.dat 3 (.int r.2)))])) (E := env) (m := m + 1) (dec := d42) jn_ok (hct _) mixed Tryz.func79 rfl (Nat.le_of_ble_eq_true rfl) (fun b hb => d42_sim hb) ((i42_eq m a0 a1 a2).trans h)
theorem i43_fx (m : Nat) (hct : ∀ R, CallOK (R := R) Tryz.prog (ct m)) (a0 : Dt) (a1 a2 : Int) {r : Bool × Int × Int} (h : i43 (m + 1) a0 a1 a2 = some r) : FX Tryz.prog 80 [(.dat 25 a0), (.ptr 0 [] 0), (.ptr 1 [] 0)] [(.box 3 (.dat 3 (.int a1))), (.box 3 (.dat 3 (.int a2)))] (.dat 4 (.bool r.1)) [(.box 3 (.dat 3 (.int r.2.1))), (.box 3 (.dat 3 (.int r.2.2)))] :=
  FX_of (q := ((.dat 4 (.bool r.1)), [(.box 3 (.dat 3 (.int r.2.1))), (.box 3 (.dat 3 (.int r.2.2)))])) (E := env) (m := m + 1) (dec := d43) jn_ok (hct _) mixed Tryz.func80 rfl (Nat.le_of_ble_eq_true rfl) (fun b hb => d43_sim hb) ((i43_eq m a0 a1 a2).trans h)
theorem value_Nodes_fx (m : Nat) (hct : ∀ R, CallOK (R := R) Tryz.prog (ct m)) (a0 : Dt) {r : Int} (h : value_Nodes (m + 1) a0 = some r) : FX Tryz.prog 26 [(.dat 25 a0)] [] (.dat 3 (.int r)) [] :=
  FX_of (q := ((.dat 3 (.int r)), [])) (E := env) (m := m + 1) (dec := d5) jn_ok (hct _) mixed Tryz.func26 rfl (Nat.le_of_ble_eq_true rfl) (fun b hb => d5_sim hb) ((value_Nodes_eq m a0).trans h)
theorem notation_isField_fx (m : Nat) (hct : ∀ R, CallOK (R := R) Tryz.prog (ct m)) (a0 : ByteArray) {r : Bool} (h : notation_isField (m + 1) a0 = some r) : FX Tryz.prog 57 [(.dat 9 (.str a0))] [] (.dat 4 (.bool r)) [] :=
  FX_of (q := ((.dat 4 (.bool r)), [])) (E := env) (m := m + 1) (dec := d1) jn_ok (hct _) mixed Tryz.func57 rfl (Nat.le_of_ble_eq_true rfl) (fun b hb => d1_sim hb) ((notation_isField_eq m a0).trans h)
theorem notation_rename_fx (m : Nat) (hct : ∀ R, CallOK (R := R) Tryz.prog (ct m)) (a0 : Dt) {r : Dt × Bool} (h : notation_rename (m + 1) a0 = some r) : FX Tryz.prog 28 [(.dat 25 a0)] [] (.tup [(.dat 25 r.1), (.dat 4 (.bool r.2))]) [] :=
  FX_of (q := ((.tup [(.dat 25 r.1), (.dat 4 (.bool r.2))]), [])) (E := env) (m := m + 1) (dec := d15) jn_ok (hct _) mixed Tryz.func28 rfl (Nat.le_of_ble_eq_true rfl) (fun b hb => d15_sim hb) ((notation_rename_eq m a0).trans h)
theorem value_depth_fx (m : Nat) (hct : ∀ R, CallOK (R := R) Tryz.prog (ct m)) (a0 : Dt) (a1 : Int) {r : Int} (h : value_depth (m + 1) a0 a1 = some r) : FX Tryz.prog 56 [(.dat 25 a0), (.dat 3 (.int a1))] [] (.dat 3 (.int r)) [] :=
  FX_of (q := ((.dat 3 (.int r)), [])) (E := env) (m := m + 1) (dec := d5) jn_ok (hct _) mixed Tryz.func56 rfl (Nat.le_of_ble_eq_true rfl) (fun b hb => d5_sim hb) ((value_depth_eq m a0 a1).trans h)
theorem i46_fx (m : Nat) (hct : ∀ R, CallOK (R := R) Tryz.prog (ct m)) (a0 : Dt) (a1 a2 : Int) {r : Int × Int} (h : i46 (m + 1) a0 a1 a2 = some r) : FX Tryz.prog 79 [(.dat 25 a0), (.fn 81 [(.ptr 0 [] 0), (.ptr 1 [] 0)])] [(.box 3 (.dat 3 (.int a1))), (.box 3 (.dat 3 (.int a2)))] (.tup []) [(.box 3 (.dat 3 (.int r.1))), (.box 3 (.dat 3 (.int r.2)))] :=
  FX_of (q := ((.tup []), [(.box 3 (.dat 3 (.int r.1))), (.box 3 (.dat 3 (.int r.2)))])) (E := env) (m := m + 1) (dec := d42) jn_ok (hct _) mixed Tryz.func79 rfl (Nat.le_of_ble_eq_true rfl) (fun b hb => d42_sim hb) ((i46_eq m a0 a1 a2).trans h)
theorem i47_fx (m : Nat) (hct : ∀ R, CallOK (R := R) Tryz.prog (ct m)) (a0 : Dt) (a1 a2 : Int) {r : Bool × Int × Int} (h : i47 (m + 1) a0 a1 a2 = some r) : FX Tryz.prog 81 [(.dat 25 a0), (.ptr 0 [] 0), (.ptr 1 [] 0)] [(.box 3 (.dat 3 (.int a1))), (.box 3 (.dat 3 (.int a2)))] (.dat 4 (.bool r.1)) [(.box 3 (.dat 3 (.int r.2.1))), (.box 3 (.dat 3 (.int r.2.2)))] :=
  FX_of (q := ((.dat 4 (.bool r.1)), [(.box 3 (.dat 3 (.int r.2.1))), (.box 3 (.dat 3 (.int r.2.2)))])) (E := env) (m := m + 1) (dec := d43) jn_ok (hct _) mixed Tryz.func81 rfl (Nat.le_of_ble_eq_true rfl) (fun b hb => d43_sim hb) ((i47_eq m a0 a1 a2).trans h)
theorem value_Depth_fx (m : Nat) (hct : ∀ R, CallOK (R := R) Tryz.prog (ct m)) (a0 : Dt) {r : Int} (h : value_Depth (m + 1) a0 = some r) : FX Tryz.prog 27 [(.dat 25 a0)] [] (.dat 3 (.int r)) [] :=
  FX_of (q := ((.dat 3 (.int r)), [])) (E := env) (m := m + 1) (dec := d5) jn_ok (hct _) mixed Tryz.func27 rfl (Nat.le_of_ble_eq_true rfl) (fun b hb => d5_sim hb) ((value_Depth_eq m a0).trans h)
theorem ref05_Label_fx (m : Nat) (hct : ∀ R, CallOK (R := R) Tryz.prog (ct m)) (a0 : ByteArray) {r : Bool} (h : ref05_Label (m + 1) a0 = some r) : FX Tryz.prog 66 [(.dat 9 (.str a0))] [] (.dat 4 (.bool r)) [] :=
  FX_of (q := ((.dat 4 (.bool r)), [])) (E := env) (m := m + 1) (dec := d1) jn_ok (hct _) mixed Tryz.func66 rfl (Nat.le_of_ble_eq_true rfl) (fun b hb => d1_sim hb) ((ref05_Label_eq m a0).trans h)
theorem ref05_digit_fx (m : Nat) (hct : ∀ R, CallOK (R := R) Tryz.prog (ct m)) (a0 : Int) {r : ByteArray} (h : ref05_digit (m + 1) a0 = some r) : FX Tryz.prog 68 [(.dat 3 (.int a0))] [] (.dat 9 (.str r)) [] :=
  FX_of (q := ((.dat 9 (.str r)), [])) (E := env) (m := m + 1) (dec := d11) jn_ok (hct _) mixed Tryz.func68 rfl (Nat.le_of_ble_eq_true rfl) (fun b hb => d11_sim hb) ((ref05_digit_eq m a0).trans h)
theorem ref05_Decimal_fx (m : Nat) (hct : ∀ R, CallOK (R := R) Tryz.prog (ct m)) (a0 : Int) {r : ByteArray} (h : ref05_Decimal (m + 1) a0 = some r) : FX Tryz.prog 39 [(.dat 3 (.int a0))] [] (.dat 9 (.str r)) [] :=
  FX_of (q := ((.dat 9 (.str r)), [])) (E := env) (m := m + 1) (dec := d11) jn_ok (hct _) mixed Tryz.func39 rfl (Nat.le_of_ble_eq_true rfl) (fun b hb => d11_sim hb) ((ref05_Decimal_eq m a0).trans h)
theorem ref05_Quote_fx (m : Nat) (hct : ∀ R, CallOK (R := R) Tryz.prog (ct m)) (a0 : ByteArray) {r : ByteArray} (h : ref05_Quote (m + 1) a0 = some r) : FX Tryz.prog 40 [(.dat 9 (.str a0))] [] (.dat 9 (.str r)) [] :=
  FX_of (q := ((.dat 9 (.str r)), [])) (E := env) (m := m + 1) (dec := d11) jn_ok (hct _) mixed Tryz.func40 rfl (Nat.le_of_ble_eq_true rfl) (fun b hb => d11_sim hb) ((ref05_Quote_eq m a0).trans h)
theorem ref05_hex_fx (m : Nat) (hct : ∀ R, CallOK (R := R) Tryz.prog (ct m)) (a0 : ByteArray) {r : ByteArray} (h : ref05_hex (m + 1) a0 = some r) : FX Tryz.prog 41 [(.dat 9 (.str a0))] [] (.dat 9 (.str r)) [] :=
  FX_of (q := ((.dat 9 (.str r)), [])) (E := env) (m := m + 1) (dec := d11) jn_ok (hct _) mixed Tryz.func41 rfl (Nat.le_of_ble_eq_true rfl) (fun b hb => d11_sim hb) ((ref05_hex_eq m a0).trans h)
theorem ref05_text_fx (m : Nat) (hct : ∀ R, CallOK (R := R) Tryz.prog (ct m)) (a0 : Dt) {r : ByteArray} (h : ref05_text (m + 1) a0 = some r) : FX Tryz.prog 18 [(.dat 25 a0)] [] (.dat 9 (.str r)) [] :=
  FX_of (q := ((.dat 9 (.str r)), [])) (E := env) (m := m + 1) (dec := d11) jn_ok (hct _) mixed Tryz.func18 rfl (Nat.le_of_ble_eq_true rfl) (fun b hb => d11_sim hb) ((ref05_text_eq m a0).trans h)
theorem ref01_Parts_fx (m : Nat) (hct : ∀ R, CallOK (R := R) Tryz.prog (ct m)) (a0 : Dt) {r : List Dt} (h : ref01_Parts (m + 1) a0 = some r) : FX Tryz.prog 86 [(.dat 25 a0)] [] (.dat 22 (.lst r)) [] :=
  FX_of (q := ((.dat 22 (.lst r)), [])) (E := env) (m := m + 1) (dec := d48) jn_ok (hct _) mixed Tryz.func86 rfl (Nat.le_of_ble_eq_true rfl) (fun b hb => d48_sim hb) ((ref01_Parts_eq m a0).trans h)
theorem ref01_levels_fx (m : Nat) (hct : ∀ R, CallOK (R := R) Tryz.prog (ct m)) (a0 : Dt) (a1 : Int) {r : Int} (h : ref01_levels (m + 1) a0 a1 = some r) : FX Tryz.prog 63 [(.dat 25 a0), (.dat 3 (.int a1))] [] (.dat 3 (.int r)) [] :=
  FX_of (q := ((.dat 3 (.int r)), [])) (E := env) (m := m + 1) (dec := d5) jn_ok (hct _) mixed Tryz.func63 rfl (Nat.le_of_ble_eq_true rfl) (fun b hb => d5_sim hb) ((ref01_levels_eq m a0 a1).trans h)
theorem ref01_Depth_fx (m : Nat) (hct : ∀ R, CallOK (R := R) Tryz.prog (ct m)) (a0 : Dt) {r : Int} (h : ref01_Depth (m + 1) a0 = some r) : FX Tryz.prog 35 [(.dat 25 a0)] [] (.dat 3 (.int r)) [] :=
  FX_of (q := ((.dat 3 (.int r)), [])) (E := env) (m := m + 1) (dec := d5) jn_ok (hct _) mixed Tryz.func35 rfl (Nat.le_of_ble_eq_true rfl) (fun b hb => d5_sim hb) ((ref01_Depth_eq m a0).trans h)
theorem ref01_count_fx (m : Nat) (hct : ∀ R, CallOK (R := R) Tryz.prog (ct m)) (a0 : Dt) (a1 : Int) {r : Int} (h : ref01_count (m + 1) a0 a1 = some r) : FX Tryz.prog 64 [(.dat 25 a0), (.dat 3 (.int a1))] [] (.dat 3 (.int r)) [] :=
  FX_of (q := ((.dat 3 (.int r)), [])) (E := env) (m := m + 1) (dec := d5) jn_ok (hct _) mixed Tryz.func64 rfl (Nat.le_of_ble_eq_true rfl) (fun b hb => d5_sim hb) ((ref01_count_eq m a0 a1).trans h)
theorem ref01_Nodes_fx (m : Nat) (hct : ∀ R, CallOK (R := R) Tryz.prog (ct m)) (a0 : Dt) {r : Int} (h : ref01_Nodes (m + 1) a0 = some r) : FX Tryz.prog 36 [(.dat 25 a0)] [] (.dat 3 (.int r)) [] :=
  FX_of (q := ((.dat 3 (.int r)), [])) (E := env) (m := m + 1) (dec := d5) jn_ok (hct _) mixed Tryz.func36 rfl (Nat.le_of_ble_eq_true rfl) (fun b hb => d5_sim hb) ((ref01_Nodes_eq m a0).trans h)
theorem ref05_place_fx (m : Nat) (hct : ∀ R, CallOK (R := R) Tryz.prog (ct m)) (a0 : Int) {r : Int} (h : ref05_place (m + 1) a0 = some r) : FX Tryz.prog 88 [(.dat 5 (.int a0))] [] (.dat 3 (.int r)) [] :=
  FX_of (q := ((.dat 3 (.int r)), [])) (E := env) (m := m + 1) (dec := d5) jn_ok (hct _) mixed Tryz.func88 rfl (Nat.le_of_ble_eq_true rfl) (fun b hb => d5_sim hb) ((ref05_place_eq m a0).trans h)
theorem ref05_unhex_fx (m : Nat) (hct : ∀ R, CallOK (R := R) Tryz.prog (ct m)) (a0 : ByteArray) {r : ByteArray × Bool} (h : ref05_unhex (m + 1) a0 = some r) : FX Tryz.prog 67 [(.dat 9 (.str a0))] [] (.tup [(.dat 9 (.str r.1)), (.dat 4 (.bool r.2))]) [] :=
  FX_of (q := ((.tup [(.dat 9 (.str r.1)), (.dat 4 (.bool r.2))]), [])) (E := env) (m := m + 1) (dec := d23) jn_ok (hct _) mixed Tryz.func67 rfl (Nat.le_of_ble_eq_true rfl) (fun b hb => d23_sim hb) ((ref05_unhex_eq m a0).trans h)
theorem ref05_special_fx (m : Nat) (hct : ∀ R, CallOK (R := R) Tryz.prog (ct m)) (a0 : List Dt) {r : Dt × Bool} (h : ref05_special (m + 1) a0 = some r) : FX Tryz.prog 38 [(.dat 23 (.lst a0))] [] (.tup [(.dat 25 r.1), (.dat 4 (.bool r.2))]) [] :=
  FX_of (q := ((.tup [(.dat 25 r.1), (.dat 4 (.bool r.2))]), [])) (E := env) (m := m + 1) (dec := d15) jn_ok (hct _) mixed Tryz.func38 rfl (Nat.le_of_ble_eq_true rfl) (fun b hb => d15_sim hb) ((ref05_special_eq m a0).trans h)
theorem ref05_printable_fx (m : Nat) (hct : ∀ R, CallOK (R := R) Tryz.prog (ct m)) (a0 : Dt) {r : Int} (h : ref05_printable (m + 1) a0 = some r) : FX Tryz.prog 17 [(.dat 25 a0)] [] (.dat 28 (.int r)) [] :=
  FX_of (q := ((.dat 28 (.int r)), [])) (E := env) (m := m + 1) (dec := d17) jn_ok (hct _) mixed Tryz.func17 rfl (Nat.le_of_ble_eq_true rfl) (fun b hb => d17_sim hb) ((ref05_printable_eq m a0).trans h)
theorem value_isName_fx (m : Nat) (hct : ∀ R, CallOK (R := R) Tryz.prog (ct m)) (a0 : ByteArray) {r : Bool} (h : value_isName (m + 1) a0 = some r) : FX Tryz.prog 96 [(.dat 9 (.str a0))] [] (.dat 4 (.bool r)) [] :=
  FX_of (q := ((.dat 4 (.bool r)), [])) (E := env) (m := m + 1) (dec := d1) jn_ok (hct _) mixed Tryz.func96 rfl (Nat.le_of_ble_eq_true rfl) (fun b hb => d1_sim hb) ((value_isName_eq m a0).trans h)
theorem value_sound_fx (m : Nat) (hct : ∀ R, CallOK (R := R) Tryz.prog (ct m)) (a0 : Dt) {r : Bool} (h : value_sound (m + 1) a0 = some r) : FX Tryz.prog 59 [(.dat 25 a0)] [] (.dat 4 (.bool r)) [] :=
  FX_of (q := ((.dat 4 (.bool r)), [])) (E := env) (m := m + 1) (dec := d1) jn_ok (hct _) mixed Tryz.func59 rfl (Nat.le_of_ble_eq_true rfl) (fun b hb => d1_sim hb) ((value_sound_eq m a0).trans h)
theorem value_soundFields_fx (m : Nat) (hct : ∀ R, CallOK (R := R) Tryz.prog (ct m)) (a0 : List Dt) {r : Bool} (h : value_soundFields (m + 1) a0 = some r) : FX Tryz.prog 83 [(.dat 23 (.lst a0))] [] (.dat 4 (.bool r)) [] :=
  FX_of (q := ((.dat 4 (.bool r)), [])) (E := env) (m := m + 1) (dec := d1) jn_ok (hct _) mixed Tryz.func83 rfl (Nat.le_of_ble_eq_true rfl) (fun b hb => d1_sim hb) ((value_soundFields_eq m a0).trans h)
theorem value_Valid_fx (m : Nat) (hct : ∀ R, CallOK (R := R) Tryz.prog (ct m)) (a0 : Dt) {r : Bool} (h : value_Valid (m + 1) a0 = some r) : FX Tryz.prog 29 [(.dat 25 a0)] [] (.dat 4 (.bool r)) [] :=
  FX_of (q := ((.dat 4 (.bool r)), [])) (E := env) (m := m + 1) (dec := d1) jn_ok (hct _) mixed Tryz.func29 rfl (Nat.le_of_ble_eq_true rfl) (fun b hb => d1_sim hb) ((value_Valid_eq m a0).trans h)
theorem notation_wellFormed_fx (m : Nat) (hct : ∀ R, CallOK (R := R) Tryz.prog (ct m)) (a0 : Dt) {r : Bool} (h : notation_wellFormed (m + 1) a0 = some r) : FX Tryz.prog 14 [(.dat 25 a0)] [] (.dat 4 (.bool r)) [] :=
  FX_of (q := ((.dat 4 (.bool r)), [])) (E := env) (m := m + 1) (dec := d1) jn_ok (hct _) mixed Tryz.func14 rfl (Nat.le_of_ble_eq_true rfl) (fun b hb => d1_sim hb) ((notation_wellFormed_eq m a0).trans h)
theorem notation_Print_fx (m : Nat) (hct : ∀ R, CallOK (R := R) Tryz.prog (ct m)) (a0 : Dt) {r : ByteArray × Int} (h : notation_Print (m + 1) a0 = some r) : FX Tryz.prog 7 [(.dat 25 a0)] [] (.tup [(.dat 9 (.str r.1)), (.dat 28 (.int r.2))]) [] :=
  FX_of (q := ((.tup [(.dat 9 (.str r.1)), (.dat 28 (.int r.2))]), [])) (E := env) (m := m + 1) (dec := d3) jn_ok (hct _) mixed Tryz.func7 rfl (Nat.le_of_ble_eq_true rfl) (fun b hb => d3_sim hb) ((notation_Print_eq m a0).trans h)
theorem ref01_tail_fx (m : Nat) (hct : ∀ R, CallOK (R := R) Tryz.prog (ct m)) (a0 : ByteArray) (a1 a2 : Int) {r : Bool} (h : ref01_tail (m + 1) a0 a1 a2 = some r) : FX Tryz.prog 116 [(.dat 9 (.str a0)), (.dat 3 (.int a1)), (.dat 3 (.int a2))] [] (.dat 4 (.bool r)) [] :=
  FX_of (q := ((.dat 4 (.bool r)), [])) (E := env) (m := m + 1) (dec := d1) jn_ok (hct _) mixed Tryz.func116 rfl (Nat.le_of_ble_eq_true rfl) (fun b hb => d1_sim hb) ((ref01_tail_eq m a0 a1 a2).trans h)
theorem ref01_UTF8_fx (m : Nat) (hct : ∀ R, CallOK (R := R) Tryz.prog (ct m)) (a0 : ByteArray) {r : Bool} (h : ref01_UTF8 (m + 1) a0 = some r) : FX Tryz.prog 101 [(.dat 9 (.str a0))] [] (.dat 4 (.bool r)) [] :=
  FX_of (q := ((.dat 4 (.bool r)), [])) (E := env) (m := m + 1) (dec := d1) jn_ok (hct _) mixed Tryz.func101 rfl (Nat.le_of_ble_eq_true rfl) (fun b hb => d1_sim hb) ((ref01_UTF8_eq m a0).trans h)
theorem ref01_Name_fx (m : Nat) (hct : ∀ R, CallOK (R := R) Tryz.prog (ct m)) (a0 : ByteArray) {r : Bool} (h : ref01_Name (m + 1) a0 = some r) : FX Tryz.prog 117 [(.dat 9 (.str a0))] [] (.dat 4 (.bool r)) [] :=
  FX_of (q := ((.dat 4 (.bool r)), [])) (E := env) (m := m + 1) (dec := d1) jn_ok (hct _) mixed Tryz.func117 rfl (Nat.le_of_ble_eq_true rfl) (fun b hb => d1_sim hb) ((ref01_Name_eq m a0).trans h)
theorem ref01_wide_fx (m : Nat) (hct : ∀ R, CallOK (R := R) Tryz.prog (ct m)) (a0 : ByteArray) {r : Bool} (h : ref01_wide (m + 1) a0 = some r) : FX Tryz.prog 118 [(.dat 9 (.str a0))] [] (.dat 4 (.bool r)) [] :=
  FX_of (q := ((.dat 4 (.bool r)), [])) (E := env) (m := m + 1) (dec := d1) jn_ok (hct _) mixed Tryz.func118 rfl (Nat.le_of_ble_eq_true rfl) (fun b hb => d1_sim hb) ((ref01_wide_eq m a0).trans h)
theorem ref01_formed_fx (m : Nat) (hct : ∀ R, CallOK (R := R) Tryz.prog (ct m)) (a0 : Dt) (a1 : Bool) {r : Bool} (h : ref01_formed (m + 1) a0 a1 = some r) : FX Tryz.prog 87 [(.dat 25 a0), (.dat 4 (.bool a1))] [] (.dat 4 (.bool r)) [] :=
  FX_of (q := ((.dat 4 (.bool r)), [])) (E := env) (m := m + 1) (dec := d1) jn_ok (hct _) mixed Tryz.func87 rfl (Nat.le_of_ble_eq_true rfl) (fun b hb => d1_sim hb) ((ref01_formed_eq m a0 a1).trans h)
theorem ref01_fields_fx (m : Nat) (hct : ∀ R, CallOK (R := R) Tryz.prog (ct m)) (a0 : Dt) (a1 : Bool) {r : Bool} (h : ref01_fields (m + 1) a0 a1 = some r) : FX Tryz.prog 102 [(.dat 25 a0), (.dat 4 (.bool a1))] [] (.dat 4 (.bool r)) [] :=
  FX_of (q := ((.dat 4 (.bool r)), [])) (E := env) (m := m + 1) (dec := d1) jn_ok (hct _) mixed Tryz.func102 rfl (Nat.le_of_ble_eq_true rfl) (fun b hb => d1_sim hb) ((ref01_fields_eq m a0 a1).trans h)
theorem ref01_Valid_fx (m : Nat) (hct : ∀ R, CallOK (R := R) Tryz.prog (ct m)) (a0 : Dt) {r : Bool} (h : ref01_Valid (m + 1) a0 = some r) : FX Tryz.prog 65 [(.dat 25 a0)] [] (.dat 4 (.bool r)) [] :=
  FX_of (q := ((.dat 4 (.bool r)), [])) (E := env) (m := m + 1) (dec := d1) jn_ok (hct _) mixed Tryz.func65 rfl (Nat.le_of_ble_eq_true rfl) (fun b hb => d1_sim hb) ((ref01_Valid_eq m a0).trans h)
theorem ref05_formed_fx (m : Nat) (hct : ∀ R, CallOK (R := R) Tryz.prog (ct m)) (a0 : Dt) {r : Bool} (h : ref05_formed (m + 1) a0 = some r) : FX Tryz.prog 37 [(.dat 25 a0)] [] (.dat 4 (.bool r)) [] :=
  FX_of (q := ((.dat 4 (.bool r)), [])) (E := env) (m := m + 1) (dec := d1) jn_ok (hct _) mixed Tryz.func37 rfl (Nat.le_of_ble_eq_true rfl) (fun b hb => d1_sim hb) ((ref05_formed_eq m a0).trans h)
theorem ref05_WellFormed_fx (m : Nat) (hct : ∀ R, CallOK (R := R) Tryz.prog (ct m)) (a0 : Dt) {r : Bool} (h : ref05_WellFormed (m + 1) a0 = some r) : FX Tryz.prog 16 [(.dat 25 a0)] [] (.dat 4 (.bool r)) [] :=
  FX_of (q := ((.dat 4 (.bool r)), [])) (E := env) (m := m + 1) (dec := d1) jn_ok (hct _) mixed Tryz.func16 rfl (Nat.le_of_ble_eq_true rfl) (fun b hb => d1_sim hb) ((ref05_WellFormed_eq m a0).trans h)
theorem ref05_Print_fx (m : Nat) (hct : ∀ R, CallOK (R := R) Tryz.prog (ct m)) (a0 : Dt) {r : ByteArray × Int} (h : ref05_Print (m + 1) a0 = some r) : FX Tryz.prog 8 [(.dat 25 a0)] [] (.tup [(.dat 9 (.str r.1)), (.dat 28 (.int r.2))]) [] :=
  FX_of (q := ((.tup [(.dat 9 (.str r.1)), (.dat 28 (.int r.2))]), [])) (E := env) (m := m + 1) (dec := d3) jn_ok (hct _) mixed Tryz.func8 rfl (Nat.le_of_ble_eq_true rfl) (fun b hb => d3_sim hb) ((ref05_Print_eq m a0).trans h)
theorem law05_NotationPrints_fx (m : Nat) (hct : ∀ R, CallOK (R := R) Tryz.prog (ct m)) (a0 : Dt) {r : Bool} (h : law05_NotationPrints (m + 1) a0 = some r) : FX Tryz.prog 3 [(.dat 25 a0)] [] (.dat 4 (.bool r)) [] :=
  FX_of (q := ((.dat 4 (.bool r)), [])) (E := env) (m := m + 1) (dec := d1) jn_ok (hct _) mixed Tryz.func3 rfl (Nat.le_of_ble_eq_true rfl) (fun b hb => d1_sim hb) ((law05_NotationPrints_eq m a0).trans h)
theorem ct3_ok (m : Nat) (hct : ∀ k, k < m → ∀ R, CallOK (R := R) Tryz.prog (ct k)) {R : Type} {args : List AV} {objs : List Ob} {K : Res → Option R} {r : R} (h : ct3 m args objs K = some r) : ∃ q : Res, K q = some r ∧ FX Tryz.prog 3 args objs q.1 q.2 ∧ HasBody Tryz.prog 3 := by
  unfold ct3 at h
  split at h
  · rename_i l hl
    obtain ⟨x, hx, hk⟩ := Option.bind_eq_some_iff.1 h
    obtain ⟨h1, h2⟩ := sel0_ok hl
    cases m with
    | zero => cases hx
    | succ m => exact ⟨_, hk, (law05_NotationPrints_fx m (hct m (Nat.lt_succ_self m)) _ hx).conv h1 h2, ⟨_, Tryz.func3, rfl, by decide⟩⟩
  cases h
theorem ct5_ok (m : Nat) (hct : ∀ k, k < m → ∀ R, CallOK (R := R) Tryz.prog (ct k)) {R : Type} {args : List AV} {objs : List Ob} {K : Res → Option R} {r : R} (h : ct5 m args objs K = some r) : ∃ q : Res, K q = some r ∧ FX Tryz.prog 5 args objs q.1 q.2 ∧ HasBody Tryz.prog 5 := by
  unfold ct5 at h
  split at h
  · rename_i l hl
    obtain ⟨x, hx, hk⟩ := Option.bind_eq_some_iff.1 h
    obtain ⟨h1, h2⟩ := sel1_ok hl
    cases m with
    | zero => cases hx
    | succ m => exact ⟨_, hk, (ref02_Few_fx m (hct m (Nat.lt_succ_self m)) _ _ hx).conv h1 h2, ⟨_, Tryz.func5, rfl, by decide⟩⟩
  cases h
theorem ct6_ok (m : Nat) (hct : ∀ k, k < m → ∀ R, CallOK (R := R) Tryz.prog (ct k)) {R : Type} {args : List AV} {objs : List Ob} {K : Res → Option R} {r : R} (h : ct6 m args objs K = some r) : ∃ q : Res, K q = some r ∧ FX Tryz.prog 6 args objs q.1 q.2 ∧ HasBody Tryz.prog 6 := by
  unfold ct6 at h
  split at h
  · rename_i l hl
    obtain ⟨x, hx, hk⟩ := Option.bind_eq_some_iff.1 h
    obtain ⟨h1, h2⟩ := sel2_ok hl
    exact ⟨_, hk, (awakeC_fx hx).conv h1 h2, ⟨_, Tryz.func6, rfl, by decide⟩⟩
  cases h
theorem ct7_ok (m : Nat) (hct : ∀ k, k < m → ∀ R, CallOK (R := R) Tryz.prog (ct k)) {R : Type} {args : List AV} {objs : List Ob} {K : Res → Option R} {r : R} (h : ct7 m args objs K = some r) : ∃ q : Res, K q = some r ∧ FX Tryz.prog 7 args objs q.1 q.2 ∧ HasBody Tryz.prog 7 := by
  unfold ct7 at h
  split at h
  · rename_i l hl
    obtain ⟨x, hx, hk⟩ := Option.bind_eq_some_iff.1 h
    obtain ⟨h1, h2⟩ := sel0_ok hl
    cases m with
    | zero => cases hx
    | succ m => exact ⟨_, hk, (notation_Print_fx m (hct m (Nat.lt_succ_self m)) _ hx).conv h1 h2, ⟨_, Tryz.func7, rfl, by decide⟩⟩
  cases h
theorem ct8_ok (m : Nat) (hct : ∀ k, k < m → ∀ R, CallOK (R := R) Tryz.prog (ct k)) {R : Type} {args : List AV} {objs : List Ob} {K : Res → Option R} {r : R} (h : ct8 m args objs K = some r) : ∃ q : Res, K q = some r ∧ FX Tryz.prog 8 args objs q.1 q.2 ∧ HasBody Tryz.prog 8 := by
  unfold ct8 at h
  split at h
  · rename_i l hl
    obtain ⟨x, hx, hk⟩ := Option.bind_eq_some_iff.1 h
    obtain ⟨h1, h2⟩ := sel0_ok hl
    cases m with
    | zero => cases hx
    | succ m => exact ⟨_, hk, (ref05_Print_fx m (hct m (Nat.lt_succ_self m)) _ hx).conv h1 h2, ⟨_, Tryz.func8, rfl, by decide⟩⟩
  cases h
theorem ct12_ok (m : Nat) (hct : ∀ k, k < m → ∀ R, CallOK (R := R) Tryz.prog (ct k)) {R : Type} {args : List AV} {objs : List Ob} {K : Res → Option R} {r : R} (h : ct12 m args objs K = some r) : ∃ q : Res, K q = some r ∧ FX Tryz.prog 12 args objs q.1 q.2 ∧ HasBody Tryz.prog 12 := by
  unfold ct12 at h
  split at h
  · rename_i l hl
    obtain ⟨x, hx, hk⟩ := Option.bind_eq_some_iff.1 h
    obtain ⟨h1, h2⟩ := sel5_ok hl
    cases m with
    | zero => cases hx
    | succ m => exact ⟨_, hk, (ref02_count_fx m (hct m (Nat.lt_succ_self m)) _ _ _ hx).conv h1 h2, ⟨_, Tryz.func12, rfl, by decide⟩⟩
  cases h
theorem ct14_ok (m : Nat) (hct : ∀ k, k < m → ∀ R, CallOK (R := R) Tryz.prog (ct k)) {R : Type} {args : List AV} {objs : List Ob} {K : Res → Option R} {r : R} (h : ct14 m args objs K = some r) : ∃ q : Res, K q = some r ∧ FX Tryz.prog 14 args objs q.1 q.2 ∧ HasBody Tryz.prog 14 := by
  unfold ct14 at h
  split at h
  · rename_i l hl
    obtain ⟨x, hx, hk⟩ := Option.bind_eq_some_iff.1 h
    obtain ⟨h1, h2⟩ := sel0_ok hl
    cases m with
    | zero => cases hx
    | succ m => exact ⟨_, hk, (notation_wellFormed_fx m (hct m (Nat.lt_succ_self m)) _ hx).conv h1 h2, ⟨_, Tryz.func14, rfl, by decide⟩⟩
  cases h
theorem ct15_ok (m : Nat) (hct : ∀ k, k < m → ∀ R, CallOK (R := R) Tryz.prog (ct k)) {R : Type} {args : List AV} {objs : List Ob} {K : Res → Option R} {r : R} (h : ct15 m args objs K = some r) : ∃ q : Res, K q = some r ∧ FX Tryz.prog 15 args objs q.1 q.2 ∧ HasBody Tryz.prog 15 := by
  unfold ct15 at h
  split at h
  · rename_i l hl
    obtain ⟨x, hx, hk⟩ := Option.bind_eq_some_iff.1 h
    obtain ⟨h1, h2⟩ := sel7_ok hl
    cases m with
    | zero => cases hx
    | succ m => exact ⟨_, hk, (i7_fx m (hct m (Nat.lt_succ_self m)) _ _ hx).conv h1 h2, ⟨_, Tryz.func15, rfl, by decide⟩⟩
  cases h
theorem ct30_ok (m : Nat) (hct : ∀ k, k < m → ∀ R, CallOK (R := R) Tryz.prog (ct k)) {R : Type} {args : List AV} {objs : List Ob} {K : Res → Option R} {r : R} (h : ct30 m args objs K = some r) : ∃ q : Res, K q = some r ∧ FX Tryz.prog 30 args objs q.1 q.2 ∧ HasBody Tryz.prog 30 := by
  unfold ct30 at h
  split at h
  · rename_i l hl
    obtain ⟨x, hx, hk⟩ := Option.bind_eq_some_iff.1 h
    obtain ⟨h1, h2⟩ := sel8_ok hl
    cases m with
    | zero => cases hx
    | succ m => exact ⟨_, hk, (i8_fx m (hct m (Nat.lt_succ_self m)) _ _ hx).conv h1 h2, ⟨_, Tryz.func30, rfl, by decide⟩⟩
  cases h
theorem ct60_ok (m : Nat) (hct : ∀ k, k < m → ∀ R, CallOK (R := R) Tryz.prog (ct k)) {R : Type} {args : List AV} {objs : List Ob} {K : Res → Option R} {r : R} (h : ct60 m args objs K = some r) : ∃ q : Res, K q = some r ∧ FX Tryz.prog 60 args objs q.1 q.2 ∧ HasBody Tryz.prog 60 := by
  unfold ct60 at h
  split at h
  · rename_i l hl
    obtain ⟨x, hx, hk⟩ := Option.bind_eq_some_iff.1 h
    obtain ⟨h1, h2⟩ := sel8_ok hl
    cases m with
    | zero => cases hx
    | succ m => exact ⟨_, hk, (i9_fx m (hct m (Nat.lt_succ_self m)) _ _ hx).conv h1 h2, ⟨_, Tryz.func60, rfl, by decide⟩⟩
  cases h
theorem ct31_ok (m : Nat) (hct : ∀ k, k < m → ∀ R, CallOK (R := R) Tryz.prog (ct k)) {R : Type} {args : List AV} {objs : List Ob} {K : Res → Option R} {r : R} (h : ct31 m args objs K = some r) : ∃ q : Res, K q = some r ∧ FX Tryz.prog 31 args objs q.1 q.2 ∧ HasBody Tryz.prog 31 := by
  unfold ct31 at h
  split at h
  · rename_i l hl
    obtain ⟨x, hx, hk⟩ := Option.bind_eq_some_iff.1 h
    obtain ⟨h1, h2⟩ := sel10_ok hl
    exact ⟨_, hk, (AppendInt_fx hx).conv h1 h2, ⟨_, Tryz.func31, rfl, by decide⟩⟩
  cases h
theorem ct13_ok (m : Nat) (hct : ∀ k, k < m → ∀ R, CallOK (R := R) Tryz.prog (ct k)) {R : Type} {args : List AV} {objs : List Ob} {K : Res → Option R} {r : R} (h : ct13 m args objs K = some r) : ∃ q : Res, K q = some r ∧ FX Tryz.prog 13 args objs q.1 q.2 ∧ HasBody Tryz.prog 13 := by
  unfold ct13 at h
  split at h
  · rename_i l hl
    obtain ⟨x, hx, hk⟩ := Option.bind_eq_some_iff.1 h
    obtain ⟨h1, h2⟩ := sel11_ok hl
    cases m with
    | zero => cases hx
    | succ m => exact ⟨_, hk, (notation_Quote_fx m (hct m (Nat.lt_succ_self m)) _ hx).conv h1 h2, ⟨_, Tryz.func13, rfl, by decide⟩⟩
  cases h
theorem ct32_ok (m : Nat) (hct : ∀ k, k < m → ∀ R, CallOK (R := R) Tryz.prog (ct k)) {R : Type} {args : List AV} {objs : List Ob} {K : Res → Option R} {r : R} (h : ct32 m args objs K = some r) : ∃ q : Res, K q = some r ∧ FX Tryz.prog 32 args objs q.1 q.2 ∧ HasBody Tryz.prog 32 := by
  unfold ct32 at h
  split at h
  · rename_i l hl
    obtain ⟨x, hx, hk⟩ := Option.bind_eq_some_iff.1 h
    obtain ⟨h1, h2⟩ := sel12_ok hl
    cases m with
    | zero => cases hx
    | succ m => exact ⟨_, hk, (i12_fx m (hct m (Nat.lt_succ_self m)) _ _ hx).conv h1 h2, ⟨_, Tryz.func32, rfl, by decide⟩⟩
  cases h
theorem ct33_ok (m : Nat) (hct : ∀ k, k < m → ∀ R, CallOK (R := R) Tryz.prog (ct k)) {R : Type} {args : List AV} {objs : List Ob} {K : Res → Option R} {r : R} (h : ct33 m args objs K = some r) : ∃ q : Res, K q = some r ∧ FX Tryz.prog 33 args objs q.1 q.2 ∧ HasBody Tryz.prog 33 := by
  unfold ct33 at h
  split at h
  · rename_i l hl
    obtain ⟨x, hx, hk⟩ := Option.bind_eq_some_iff.1 h
    obtain ⟨h1, h2⟩ := sel13_ok hl
    cases m with
    | zero => cases hx
    | succ m => exact ⟨_, hk, (i13_fx m (hct m (Nat.lt_succ_self m)) _ _ hx).conv h1 h2, ⟨_, Tryz.func33, rfl, by decide⟩⟩
  cases h
theorem ct34_ok (m : Nat) (hct : ∀ k, k < m → ∀ R, CallOK (R := R) Tryz.prog (ct k)) {R : Type} {args : List AV} {objs : List Ob} {K : Res → Option R} {r : R} (h : ct34 m args objs K = some r) : ∃ q : Res, K q = some r ∧ FX Tryz.prog 34 args objs q.1 q.2 ∧ HasBody Tryz.prog 34 := by
  unfold ct34 at h
  split at h
  · rename_i l hl
    obtain ⟨x, hx, hk⟩ := Option.bind_eq_some_iff.1 h
    obtain ⟨h1, h2⟩ := sel14_ok hl
    cases m with
    | zero => cases hx
    | succ m => exact ⟨_, hk, (i14_fx m (hct m (Nat.lt_succ_self m)) _ _ hx).conv h1 h2, ⟨_, Tryz.func34, rfl, by decide⟩⟩
  cases h
theorem ct62_ok (m : Nat) (hct : ∀ k, k < m → ∀ R, CallOK (R := R) Tryz.prog (ct k)) {R : Type} {args : List AV} {objs : List Ob} {K : Res → Option R} {r : R} (h : ct62 m args objs K = some r) : ∃ q : Res, K q = some r ∧ FX Tryz.prog 62 args objs q.1 q.2 ∧ HasBody Tryz.prog 62 := by
  unfold ct62 at h
  split at h
  · rename_i l hl
    obtain ⟨x, hx, hk⟩ := Option.bind_eq_some_iff.1 h
    obtain ⟨h1, h2⟩ := sel15_ok hl
    cases m with
    | zero => cases hx
    | succ m => exact ⟨_, hk, (notation_special_fx m (hct m (Nat.lt_succ_self m)) _ hx).conv h1 h2, ⟨_, Tryz.func62, rfl, by decide⟩⟩
  cases h
theorem ct16_ok (m : Nat) (hct : ∀ k, k < m → ∀ R, CallOK (R := R) Tryz.prog (ct k)) {R : Type} {args : List AV} {objs : List Ob} {K : Res → Option R} {r : R} (h : ct16 m args objs K = some r) : ∃ q : Res, K q = some r ∧ FX Tryz.prog 16 args objs q.1 q.2 ∧ HasBody Tryz.prog 16 := by
  unfold ct16 at h
  split at h
  · rename_i l hl
    obtain ⟨x, hx, hk⟩ := Option.bind_eq_some_iff.1 h
    obtain ⟨h1, h2⟩ := sel0_ok hl
    cases m with
    | zero => cases hx
    | succ m => exact ⟨_, hk, (ref05_WellFormed_fx m (hct m (Nat.lt_succ_self m)) _ hx).conv h1 h2, ⟨_, Tryz.func16, rfl, by decide⟩⟩
  cases h
theorem ct17_ok (m : Nat) (hct : ∀ k, k < m → ∀ R, CallOK (R := R) Tryz.prog (ct k)) {R : Type} {args : List AV} {objs : List Ob} {K : Res → Option R} {r : R} (h : ct17 m args objs K = some r) : ∃ q : Res, K q = some r ∧ FX Tryz.prog 17 args objs q.1 q.2 ∧ HasBody Tryz.prog 17 := by
  unfold ct17 at h
  split at h
  · rename_i l hl
    obtain ⟨x, hx, hk⟩ := Option.bind_eq_some_iff.1 h
    obtain ⟨h1, h2⟩ := sel0_ok hl
    cases m with
    | zero => cases hx
    | succ m => exact ⟨_, hk, (ref05_printable_fx m (hct m (Nat.lt_succ_self m)) _ hx).conv h1 h2, ⟨_, Tryz.func17, rfl, by decide⟩⟩
  cases h
theorem ct18_ok (m : Nat) (hct : ∀ k, k < m → ∀ R, CallOK (R := R) Tryz.prog (ct k)) {R : Type} {args : List AV} {objs : List Ob} {K : Res → Option R} {r : R} (h : ct18 m args objs K = some r) : ∃ q : Res, K q = some r ∧ FX Tryz.prog 18 args objs q.1 q.2 ∧ HasBody Tryz.prog 18 := by
  unfold ct18 at h
  split at h
  · rename_i l hl
    obtain ⟨x, hx, hk⟩ := Option.bind_eq_some_iff.1 h
    obtain ⟨h1, h2⟩ := sel0_ok hl
    cases m with
    | zero => cases hx
    | succ m => exact ⟨_, hk, (ref05_text_fx m (hct m (Nat.lt_succ_self m)) _ hx).conv h1 h2, ⟨_, Tryz.func18, rfl, by decide⟩⟩
  cases h
theorem ct26_ok (m : Nat) (hct : ∀ k, k < m → ∀ R, CallOK (R := R) Tryz.prog (ct k)) {R : Type} {args : List AV} {objs : List Ob} {K : Res → Option R} {r : R} (h : ct26 m args objs K = some r) : ∃ q : Res, K q = some r ∧ FX Tryz.prog 26 args objs q.1 q.2 ∧ HasBody Tryz.prog 26 := by
  unfold ct26 at h
  split at h
  · rename_i l hl
    obtain ⟨x, hx, hk⟩ := Option.bind_eq_some_iff.1 h
    obtain ⟨h1, h2⟩ := sel0_ok hl
    cases m with
    | zero => cases hx
    | succ m => exact ⟨_, hk, (value_Nodes_fx m (hct m (Nat.lt_succ_self m)) _ hx).conv h1 h2, ⟨_, Tryz.func26, rfl, by decide⟩⟩
  cases h
theorem ct28_ok (m : Nat) (hct : ∀ k, k < m → ∀ R, CallOK (R := R) Tryz.prog (ct k)) {R : Type} {args : List AV} {objs : List Ob} {K : Res → Option R} {r : R} (h : ct28 m args objs K = some r) : ∃ q : Res, K q = some r ∧ FX Tryz.prog 28 args objs q.1 q.2 ∧ HasBody Tryz.prog 28 := by
  unfold ct28 at h
  split at h
  · rename_i l hl
    obtain ⟨x, hx, hk⟩ := Option.bind_eq_some_iff.1 h
    obtain ⟨h1, h2⟩ := sel0_ok hl
    cases m with
    | zero => cases hx
    | succ m => exact ⟨_, hk, (notation_rename_fx m (hct m (Nat.lt_succ_self m)) _ hx).conv h1 h2, ⟨_, Tryz.func28, rfl, by decide⟩⟩
  cases h
theorem ct29_ok (m : Nat) (hct : ∀ k, k < m → ∀ R, CallOK (R := R) Tryz.prog (ct k)) {R : Type} {args : List AV} {objs : List Ob} {K : Res → Option R} {r : R} (h : ct29 m args objs K = some r) : ∃ q : Res, K q = some r ∧ FX Tryz.prog 29 args objs q.1 q.2 ∧ HasBody Tryz.prog 29 := by
  unfold ct29 at h
  split at h
  · rename_i l hl
    obtain ⟨x, hx, hk⟩ := Option.bind_eq_some_iff.1 h
    obtain ⟨h1, h2⟩ := sel0_ok hl
    cases m with
    | zero => cases hx
    | succ m => exact ⟨_, hk, (value_Valid_fx m (hct m (Nat.lt_succ_self m)) _ hx).conv h1 h2, ⟨_, Tryz.func29, rfl, by decide⟩⟩
  cases h
theorem ct27_ok (m : Nat) (hct : ∀ k, k < m → ∀ R, CallOK (R := R) Tryz.prog (ct k)) {R : Type} {args : List AV} {objs : List Ob} {K : Res → Option R} {r : R} (h : ct27 m args objs K = some r) : ∃ q : Res, K q = some r ∧ FX Tryz.prog 27 args objs q.1 q.2 ∧ HasBody Tryz.prog 27 := by
  unfold ct27 at h
  split at h
  · rename_i l hl
    obtain ⟨x, hx, hk⟩ := Option.bind_eq_some_iff.1 h
    obtain ⟨h1, h2⟩ := sel0_ok hl
    cases m with
    | zero => cases hx
    | succ m => exact ⟨_, hk, (value_Depth_fx m (hct m (Nat.lt_succ_self m)) _ hx).conv h1 h2, ⟨_, Tryz.func27, rfl, by decide⟩⟩
  cases h
theorem ct85_ok (m : Nat) (hct : ∀ k, k < m → ∀ R, CallOK (R := R) Tryz.prog (ct k)) {R : Type} {args : List AV} {objs : List Ob} {K : Res → Option R} {r : R} (h : ct85 m args objs K = some r) : ∃ q : Res, K q = some r ∧ FX Tryz.prog 85 args objs q.1 q.2 ∧ HasBody Tryz.prog 85 := by
  unfold ct85 at h
  split at h
  · rename_i l hl
    obtain ⟨x, hx, hk⟩ := Option.bind_eq_some_iff.1 h
    obtain ⟨h1, h2⟩ := sel0_ok hl
    cases m with
    | zero => cases hx
    | succ m => exact ⟨_, hk, (notation_fromHex_fx m (hct m (Nat.lt_succ_self m)) _ hx).conv h1 h2, ⟨_, Tryz.func85, rfl, by decide⟩⟩
  cases h
theorem ct35_ok (m : Nat) (hct : ∀ k, k < m → ∀ R, CallOK (R := R) Tryz.prog (ct k)) {R : Type} {args : List AV} {objs : List Ob} {K : Res → Option R} {r : R} (h : ct35 m args objs K = some r) : ∃ q : Res, K q = some r ∧ FX Tryz.prog 35 args objs q.1 q.2 ∧ HasBody Tryz.prog 35 := by
  unfold ct35 at h
  split at h
  · rename_i l hl
    obtain ⟨x, hx, hk⟩ := Option.bind_eq_some_iff.1 h
    obtain ⟨h1, h2⟩ := sel0_ok hl
    cases m with
    | zero => cases hx
    | succ m => exact ⟨_, hk, (ref01_Depth_fx m (hct m (Nat.lt_succ_self m)) _ hx).conv h1 h2, ⟨_, Tryz.func35, rfl, by decide⟩⟩
  cases h
theorem ct36_ok (m : Nat) (hct : ∀ k, k < m → ∀ R, CallOK (R := R) Tryz.prog (ct k)) {R : Type} {args : List AV} {objs : List Ob} {K : Res → Option R} {r : R} (h : ct36 m args objs K = some r) : ∃ q : Res, K q = some r ∧ FX Tryz.prog 36 args objs q.1 q.2 ∧ HasBody Tryz.prog 36 := by
  unfold ct36 at h
  split at h
  · rename_i l hl
    obtain ⟨x, hx, hk⟩ := Option.bind_eq_some_iff.1 h
    obtain ⟨h1, h2⟩ := sel0_ok hl
    cases m with
    | zero => cases hx
    | succ m => exact ⟨_, hk, (ref01_Nodes_fx m (hct m (Nat.lt_succ_self m)) _ hx).conv h1 h2, ⟨_, Tryz.func36, rfl, by decide⟩⟩
  cases h
theorem ct37_ok (m : Nat) (hct : ∀ k, k < m → ∀ R, CallOK (R := R) Tryz.prog (ct k)) {R : Type} {args : List AV} {objs : List Ob} {K : Res → Option R} {r : R} (h : ct37 m args objs K = some r) : ∃ q : Res, K q = some r ∧ FX Tryz.prog 37 args objs q.1 q.2 ∧ HasBody Tryz.prog 37 := by
  unfold ct37 at h
  split at h
  · rename_i l hl
    obtain ⟨x, hx, hk⟩ := Option.bind_eq_some_iff.1 h
    obtain ⟨h1, h2⟩ := sel0_ok hl
    cases m with
    | zero => cases hx
    | succ m => exact ⟨_, hk, (ref05_formed_fx m (hct m (Nat.lt_succ_self m)) _ hx).conv h1 h2, ⟨_, Tryz.func37, rfl, by decide⟩⟩
  cases h
theorem ct38_ok (m : Nat) (hct : ∀ k, k < m → ∀ R, CallOK (R := R) Tryz.prog (ct k)) {R : Type} {args : List AV} {objs : List Ob} {K : Res → Option R} {r : R} (h : ct38 m args objs K = some r) : ∃ q : Res, K q = some r ∧ FX Tryz.prog 38 args objs q.1 q.2 ∧ HasBody Tryz.prog 38 := by
  unfold ct38 at h
  split at h
  · rename_i l hl
    obtain ⟨x, hx, hk⟩ := Option.bind_eq_some_iff.1 h
    obtain ⟨h1, h2⟩ := sel15_ok hl
    cases m with
    | zero => cases hx
    | succ m => exact ⟨_, hk, (ref05_special_fx m (hct m (Nat.lt_succ_self m)) _ hx).conv h1 h2, ⟨_, Tryz.func38, rfl, by decide⟩⟩
  cases h
theorem ct39_ok (m : Nat) (hct : ∀ k, k < m → ∀ R, CallOK (R := R) Tryz.prog (ct k)) {R : Type} {args : List AV} {objs : List Ob} {K : Res → Option R} {r : R} (h : ct39 m args objs K = some r) : ∃ q : Res, K q = some r ∧ FX Tryz.prog 39 args objs q.1 q.2 ∧ HasBody Tryz.prog 39 := by
  unfold ct39 at h
  split at h
  · rename_i l hl
    obtain ⟨x, hx, hk⟩ := Option.bind_eq_some_iff.1 h
    obtain ⟨h1, h2⟩ := sel28_ok hl
    cases m with
    | zero => cases hx
    | succ m => exact ⟨_, hk, (ref05_Decimal_fx m (hct m (Nat.lt_succ_self m)) _ hx).conv h1 h2, ⟨_, Tryz.func39, rfl, by decide⟩⟩
  cases h
theorem ct40_ok (m : Nat) (hct : ∀ k, k < m → ∀ R, CallOK (R := R) Tryz.prog (ct k)) {R : Type} {args : List AV} {objs : List Ob} {K : Res → Option R} {r : R} (h : ct40 m args objs K = some r) : ∃ q : Res, K q = some r ∧ FX Tryz.prog 40 args objs q.1 q.2 ∧ HasBody Tryz.prog 40 := by
  unfold ct40 at h
  split at h
  · rename_i l hl
    obtain ⟨x, hx, hk⟩ := Option.bind_eq_some_iff.1 h
    obtain ⟨h1, h2⟩ := sel11_ok hl
    cases m with
    | zero => cases hx
    | succ m => exact ⟨_, hk, (ref05_Quote_fx m (hct m (Nat.lt_succ_self m)) _ hx).conv h1 h2, ⟨_, Tryz.func40, rfl, by decide⟩⟩
  cases h
theorem ct41_ok (m : Nat) (hct : ∀ k, k < m → ∀ R, CallOK (R := R) Tryz.prog (ct k)) {R : Type} {args : List AV} {objs : List Ob} {K : Res → Option R} {r : R} (h : ct41 m args objs K = some r) : ∃ q : Res, K q = some r ∧ FX Tryz.prog 41 args objs q.1 q.2 ∧ HasBody Tryz.prog 41 := by
  unfold ct41 at h
  split at h
  · rename_i l hl
    obtain ⟨x, hx, hk⟩ := Option.bind_eq_some_iff.1 h
    obtain ⟨h1, h2⟩ := sel11_ok hl
    cases m with
    | zero => cases hx
    | succ m => exact ⟨_, hk, (ref05_hex_fx m (hct m (Nat.lt_succ_self m)) _ hx).conv h1 h2, ⟨_, Tryz.func41, rfl, by decide⟩⟩
  cases h
theorem ct55_ok (m : Nat) (hct : ∀ k, k < m → ∀ R, CallOK (R := R) Tryz.prog (ct k)) {R : Type} {args : List AV} {objs : List Ob} {K : Res → Option R} {r : R} (h : ct55 m args objs K = some r) : ∃ q : Res, K q = some r ∧ FX Tryz.prog 55 args objs q.1 q.2 ∧ HasBody Tryz.prog 55 := by
  unfold ct55 at h
  split at h
  · rename_i l hl
    obtain ⟨x, hx, hk⟩ := Option.bind_eq_some_iff.1 h
    obtain ⟨h1, h2⟩ := sel1_ok hl
    cases m with
    | zero => cases hx
    | succ m => exact ⟨_, hk, (value_nodes_fx m (hct m (Nat.lt_succ_self m)) _ _ hx).conv h1 h2, ⟨_, Tryz.func55, rfl, by decide⟩⟩
  cases h
theorem ct58_ok (m : Nat) (hct : ∀ k, k < m → ∀ R, CallOK (R := R) Tryz.prog (ct k)) {R : Type} {args : List AV} {objs : List Ob} {K : Res → Option R} {r : R} (h : ct58 m args objs K = some r) : ∃ q : Res, K q = some r ∧ FX Tryz.prog 58 args objs q.1 q.2 ∧ HasBody Tryz.prog 58 := by
  unfold ct58 at h
  split at h
  · rename_i l hl
    obtain ⟨x, hx, hk⟩ := Option.bind_eq_some_iff.1 h
    obtain ⟨h1, h2⟩ := sel28_ok hl
    exact ⟨_, hk, (Itoa_fx hx).conv h1 h2, ⟨_, Tryz.func58, rfl, by decide⟩⟩
  cases h
theorem ct57_ok (m : Nat) (hct : ∀ k, k < m → ∀ R, CallOK (R := R) Tryz.prog (ct k)) {R : Type} {args : List AV} {objs : List Ob} {K : Res → Option R} {r : R} (h : ct57 m args objs K = some r) : ∃ q : Res, K q = some r ∧ FX Tryz.prog 57 args objs q.1 q.2 ∧ HasBody Tryz.prog 57 := by
  unfold ct57 at h
  split at h
  · rename_i l hl
    obtain ⟨x, hx, hk⟩ := Option.bind_eq_some_iff.1 h
    obtain ⟨h1, h2⟩ := sel11_ok hl
    cases m with
    | zero => cases hx
    | succ m => exact ⟨_, hk, (notation_isField_fx m (hct m (Nat.lt_succ_self m)) _ hx).conv h1 h2, ⟨_, Tryz.func57, rfl, by decide⟩⟩
  cases h
theorem ct59_ok (m : Nat) (hct : ∀ k, k < m → ∀ R, CallOK (R := R) Tryz.prog (ct k)) {R : Type} {args : List AV} {objs : List Ob} {K : Res → Option R} {r : R} (h : ct59 m args objs K = some r) : ∃ q : Res, K q = some r ∧ FX Tryz.prog 59 args objs q.1 q.2 ∧ HasBody Tryz.prog 59 := by
  unfold ct59 at h
  split at h
  · rename_i l hl
    obtain ⟨x, hx, hk⟩ := Option.bind_eq_some_iff.1 h
    obtain ⟨h1, h2⟩ := sel0_ok hl
    cases m with
    | zero => cases hx
    | succ m => exact ⟨_, hk, (value_sound_fx m (hct m (Nat.lt_succ_self m)) _ hx).conv h1 h2, ⟨_, Tryz.func59, rfl, by decide⟩⟩
  cases h
theorem ct56_ok (m : Nat) (hct : ∀ k, k < m → ∀ R, CallOK (R := R) Tryz.prog (ct k)) {R : Type} {args : List AV} {objs : List Ob} {K : Res → Option R} {r : R} (h : ct56 m args objs K = some r) : ∃ q : Res, K q = some r ∧ FX Tryz.prog 56 args objs q.1 q.2 ∧ HasBody Tryz.prog 56 := by
  unfold ct56 at h
  split at h
  · rename_i l hl
    obtain ⟨x, hx, hk⟩ := Option.bind_eq_some_iff.1 h
    obtain ⟨h1, h2⟩ := sel1_ok hl
    cases m with
    | zero => cases hx
    | succ m => exact ⟨_, hk, (value_depth_fx m (hct m (Nat.lt_succ_self m)) _ _ hx).conv h1 h2, ⟨_, Tryz.func56, rfl, by decide⟩⟩
  cases h
theorem ct63_ok (m : Nat) (hct : ∀ k, k < m → ∀ R, CallOK (R := R) Tryz.prog (ct k)) {R : Type} {args : List AV} {objs : List Ob} {K : Res → Option R} {r : R} (h : ct63 m args objs K = some r) : ∃ q : Res, K q = some r ∧ FX Tryz.prog 63 args objs q.1 q.2 ∧ HasBody Tryz.prog 63 := by
  unfold ct63 at h
  split at h
  · rename_i l hl
    obtain ⟨x, hx, hk⟩ := Option.bind_eq_some_iff.1 h
    obtain ⟨h1, h2⟩ := sel1_ok hl
    cases m with
    | zero => cases hx
    | succ m => exact ⟨_, hk, (ref01_levels_fx m (hct m (Nat.lt_succ_self m)) _ _ hx).conv h1 h2, ⟨_, Tryz.func63, rfl, by decide⟩⟩
  cases h
theorem ct64_ok (m : Nat) (hct : ∀ k, k < m → ∀ R, CallOK (R := R) Tryz.prog (ct k)) {R : Type} {args : List AV} {objs : List Ob} {K : Res → Option R} {r : R} (h : ct64 m args objs K = some r) : ∃ q : Res, K q = some r ∧ FX Tryz.prog 64 args objs q.1 q.2 ∧ HasBody Tryz.prog 64 := by
  unfold ct64 at h
  split at h
  · rename_i l hl
    obtain ⟨x, hx, hk⟩ := Option.bind_eq_some_iff.1 h
    obtain ⟨h1, h2⟩ := sel1_ok hl
    cases m with
    | zero => cases hx
    | succ m => exact ⟨_, hk, (ref01_count_fx m (hct m (Nat.lt_succ_self m)) _ _ hx).conv h1 h2, ⟨_, Tryz.func64, rfl, by decide⟩⟩
  cases h
theorem ct66_ok (m : Nat) (hct : ∀ k, k < m → ∀ R, CallOK (R := R) Tryz.prog (ct k)) {R : Type} {args : List AV} {objs : List Ob} {K : Res → Option R} {r : R} (h : ct66 m args objs K = some r) : ∃ q : Res, K q = some r ∧ FX Tryz.prog 66 args objs q.1 q.2 ∧ HasBody Tryz.prog 66 := by
  unfold ct66 at h
  split at h
  · rename_i l hl
    obtain ⟨x, hx, hk⟩ := Option.bind_eq_some_iff.1 h
    obtain ⟨h1, h2⟩ := sel11_ok hl
    cases m with
    | zero => cases hx
    | succ m => exact ⟨_, hk, (ref05_Label_fx m (hct m (Nat.lt_succ_self m)) _ hx).conv h1 h2, ⟨_, Tryz.func66, rfl, by decide⟩⟩
  cases h
theorem ct65_ok (m : Nat) (hct : ∀ k, k < m → ∀ R, CallOK (R := R) Tryz.prog (ct k)) {R : Type} {args : List AV} {objs : List Ob} {K : Res → Option R} {r : R} (h : ct65 m args objs K = some r) : ∃ q : Res, K q = some r ∧ FX Tryz.prog 65 args objs q.1 q.2 ∧ HasBody Tryz.prog 65 := by
  unfold ct65 at h
  split at h
  · rename_i l hl
    obtain ⟨x, hx, hk⟩ := Option.bind_eq_some_iff.1 h
    obtain ⟨h1, h2⟩ := sel0_ok hl
    cases m with
    | zero => cases hx
    | succ m => exact ⟨_, hk, (ref01_Valid_fx m (hct m (Nat.lt_succ_self m)) _ hx).conv h1 h2, ⟨_, Tryz.func65, rfl, by decide⟩⟩
  cases h
theorem ct67_ok (m : Nat) (hct : ∀ k, k < m → ∀ R, CallOK (R := R) Tryz.prog (ct k)) {R : Type} {args : List AV} {objs : List Ob} {K : Res → Option R} {r : R} (h : ct67 m args objs K = some r) : ∃ q : Res, K q = some r ∧ FX Tryz.prog 67 args objs q.1 q.2 ∧ HasBody Tryz.prog 67 := by
  unfold ct67 at h
  split at h
  · rename_i l hl
    obtain ⟨x, hx, hk⟩ := Option.bind_eq_some_iff.1 h
    obtain ⟨h1, h2⟩ := sel11_ok hl
    cases m with
    | zero => cases hx
    | succ m => exact ⟨_, hk, (ref05_unhex_fx m (hct m (Nat.lt_succ_self m)) _ hx).conv h1 h2, ⟨_, Tryz.func67, rfl, by decide⟩⟩
  cases h
theorem ct68_ok (m : Nat) (hct : ∀ k, k < m → ∀ R, CallOK (R := R) Tryz.prog (ct k)) {R : Type} {args : List AV} {objs : List Ob} {K : Res → Option R} {r : R} (h : ct68 m args objs K = some r) : ∃ q : Res, K q = some r ∧ FX Tryz.prog 68 args objs q.1 q.2 ∧ HasBody Tryz.prog 68 := by
  unfold ct68 at h
  split at h
  · rename_i l hl
    obtain ⟨x, hx, hk⟩ := Option.bind_eq_some_iff.1 h
    obtain ⟨h1, h2⟩ := sel28_ok hl
    cases m with
    | zero => cases hx
    | succ m => exact ⟨_, hk, (ref05_digit_fx m (hct m (Nat.lt_succ_self m)) _ hx).conv h1 h2, ⟨_, Tryz.func68, rfl, by decide⟩⟩
  cases h
theorem ct79_ok (m : Nat) (hct : ∀ k, k < m → ∀ R, CallOK (R := R) Tryz.prog (ct k)) {R : Type} {args : List AV} {objs : List Ob} {K : Res → Option R} {r : R} (h : ct79 m args objs K = some r) : ∃ q : Res, K q = some r ∧ FX Tryz.prog 79 args objs q.1 q.2 ∧ HasBody Tryz.prog 79 := by
  unfold ct79 at h
  split at h
  · rename_i l hl
    obtain ⟨x, hx, hk⟩ := Option.bind_eq_some_iff.1 h
    obtain ⟨h1, h2⟩ := sel42_ok hl
    cases m with
    | zero => cases hx
    | succ m => exact ⟨_, hk, (i42_fx m (hct m (Nat.lt_succ_self m)) _ _ _ hx).conv h1 h2, ⟨_, Tryz.func79, rfl, by decide⟩⟩
  split at h
  · rename_i l hl
    obtain ⟨x, hx, hk⟩ := Option.bind_eq_some_iff.1 h
    obtain ⟨h1, h2⟩ := sel46_ok hl
    cases m with
    | zero => cases hx
    | succ m => exact ⟨_, hk, (i46_fx m (hct m (Nat.lt_succ_self m)) _ _ _ hx).conv h1 h2, ⟨_, Tryz.func79, rfl, by decide⟩⟩
  cases h
theorem ct80_ok (m : Nat) (hct : ∀ k, k < m → ∀ R, CallOK (R := R) Tryz.prog (ct k)) {R : Type} {args : List AV} {objs : List Ob} {K : Res → Option R} {r : R} (h : ct80 m args objs K = some r) : ∃ q : Res, K q = some r ∧ FX Tryz.prog 80 args objs q.1 q.2 ∧ HasBody Tryz.prog 80 := by
  unfold ct80 at h
  split at h
  · rename_i l hl
    obtain ⟨x, hx, hk⟩ := Option.bind_eq_some_iff.1 h
    obtain ⟨h1, h2⟩ := sel43_ok hl
    cases m with
    | zero => cases hx
    | succ m => exact ⟨_, hk, (i43_fx m (hct m (Nat.lt_succ_self m)) _ _ _ hx).conv h1 h2, ⟨_, Tryz.func80, rfl, by decide⟩⟩
  cases h
theorem ct70_ok (m : Nat) (hct : ∀ k, k < m → ∀ R, CallOK (R := R) Tryz.prog (ct k)) {R : Type} {args : List AV} {objs : List Ob} {K : Res → Option R} {r : R} (h : ct70 m args objs K = some r) : ∃ q : Res, K q = some r ∧ FX Tryz.prog 70 args objs q.1 q.2 ∧ HasBody Tryz.prog 70 := by
  unfold ct70 at h
  split at h
  · rename_i l hl
    obtain ⟨x, hx, hk⟩ := Option.bind_eq_some_iff.1 h
    obtain ⟨h1, h2⟩ := sel11_ok hl
    exact ⟨_, hk, (ValidString_fx hx).conv h1 h2, ⟨_, Tryz.func70, rfl, by decide⟩⟩
  cases h
theorem ct83_ok (m : Nat) (hct : ∀ k, k < m → ∀ R, CallOK (R := R) Tryz.prog (ct k)) {R : Type} {args : List AV} {objs : List Ob} {K : Res → Option R} {r : R} (h : ct83 m args objs K = some r) : ∃ q : Res, K q = some r ∧ FX Tryz.prog 83 args objs q.1 q.2 ∧ HasBody Tryz.prog 83 := by
  unfold ct83 at h
  split at h
  · rename_i l hl
    obtain ⟨x, hx, hk⟩ := Option.bind_eq_some_iff.1 h
    obtain ⟨h1, h2⟩ := sel15_ok hl
    cases m with
    | zero => cases hx
    | succ m => exact ⟨_, hk, (value_soundFields_fx m (hct m (Nat.lt_succ_self m)) _ hx).conv h1 h2, ⟨_, Tryz.func83, rfl, by decide⟩⟩
  cases h
theorem ct81_ok (m : Nat) (hct : ∀ k, k < m → ∀ R, CallOK (R := R) Tryz.prog (ct k)) {R : Type} {args : List AV} {objs : List Ob} {K : Res → Option R} {r : R} (h : ct81 m args objs K = some r) : ∃ q : Res, K q = some r ∧ FX Tryz.prog 81 args objs q.1 q.2 ∧ HasBody Tryz.prog 81 := by
  unfold ct81 at h
  split at h
  · rename_i l hl
    obtain ⟨x, hx, hk⟩ := Option.bind_eq_some_iff.1 h
    obtain ⟨h1, h2⟩ := sel43_ok hl
    cases m with
    | zero => cases hx
    | succ m => exact ⟨_, hk, (i47_fx m (hct m (Nat.lt_succ_self m)) _ _ _ hx).conv h1 h2, ⟨_, Tryz.func81, rfl, by decide⟩⟩
  cases h
theorem ct86_ok (m : Nat) (hct : ∀ k, k < m → ∀ R, CallOK (R := R) Tryz.prog (ct k)) {R : Type} {args : List AV} {objs : List Ob} {K : Res → Option R} {r : R} (h : ct86 m args objs K = some r) : ∃ q : Res, K q = some r ∧ FX Tryz.prog 86 args objs q.1 q.2 ∧ HasBody Tryz.prog 86 := by
  unfold ct86 at h
  split at h
  · rename_i l hl
    obtain ⟨x, hx, hk⟩ := Option.bind_eq_some_iff.1 h
    obtain ⟨h1, h2⟩ := sel0_ok hl
    cases m with
    | zero => cases hx
    | succ m => exact ⟨_, hk, (ref01_Parts_fx m (hct m (Nat.lt_succ_self m)) _ hx).conv h1 h2, ⟨_, Tryz.func86, rfl, by decide⟩⟩
  cases h
theorem ct87_ok (m : Nat) (hct : ∀ k, k < m → ∀ R, CallOK (R := R) Tryz.prog (ct k)) {R : Type} {args : List AV} {objs : List Ob} {K : Res → Option R} {r : R} (h : ct87 m args objs K = some r) : ∃ q : Res, K q = some r ∧ FX Tryz.prog 87 args objs q.1 q.2 ∧ HasBody Tryz.prog 87 := by
  unfold ct87 at h
  split at h
  · rename_i l hl
    obtain ⟨x, hx, hk⟩ := Option.bind_eq_some_iff.1 h
    obtain ⟨h1, h2⟩ := sel49_ok hl
    cases m with
    | zero => cases hx
    | succ m => exact ⟨_, hk, (ref01_formed_fx m (hct m (Nat.lt_succ_self m)) _ _ hx).conv h1 h2, ⟨_, Tryz.func87, rfl, by decide⟩⟩
  cases h
theorem ct88_ok (m : Nat) (hct : ∀ k, k < m → ∀ R, CallOK (R := R) Tryz.prog (ct k)) {R : Type} {args : List AV} {objs : List Ob} {K : Res → Option R} {r : R} (h : ct88 m args objs K = some r) : ∃ q : Res, K q = some r ∧ FX Tryz.prog 88 args objs q.1 q.2 ∧ HasBody Tryz.prog 88 := by
  unfold ct88 at h
  split at h
  · rename_i l hl
    obtain ⟨x, hx, hk⟩ := Option.bind_eq_some_iff.1 h
    obtain ⟨h1, h2⟩ := sel50_ok hl
    cases m with
    | zero => cases hx
    | succ m => exact ⟨_, hk, (ref05_place_fx m (hct m (Nat.lt_succ_self m)) _ hx).conv h1 h2, ⟨_, Tryz.func88, rfl, by decide⟩⟩
  cases h
theorem ct96_ok (m : Nat) (hct : ∀ k, k < m → ∀ R, CallOK (R := R) Tryz.prog (ct k)) {R : Type} {args : List AV} {objs : List Ob} {K : Res → Option R} {r : R} (h : ct96 m args objs K = some r) : ∃ q : Res, K q = some r ∧ FX Tryz.prog 96 args objs q.1 q.2 ∧ HasBody Tryz.prog 96 := by
  unfold ct96 at h
  split at h
  · rename_i l hl
    obtain ⟨x, hx, hk⟩ := Option.bind_eq_some_iff.1 h
    obtain ⟨h1, h2⟩ := sel11_ok hl
    cases m with
    | zero => cases hx
    | succ m => exact ⟨_, hk, (value_isName_fx m (hct m (Nat.lt_succ_self m)) _ hx).conv h1 h2, ⟨_, Tryz.func96, rfl, by decide⟩⟩
  cases h
theorem ct101_ok (m : Nat) (hct : ∀ k, k < m → ∀ R, CallOK (R := R) Tryz.prog (ct k)) {R : Type} {args : List AV} {objs : List Ob} {K : Res → Option R} {r : R} (h : ct101 m args objs K = some r) : ∃ q : Res, K q = some r ∧ FX Tryz.prog 101 args objs q.1 q.2 ∧ HasBody Tryz.prog 101 := by
  unfold ct101 at h
  split at h
  · rename_i l hl
    obtain ⟨x, hx, hk⟩ := Option.bind_eq_some_iff.1 h
    obtain ⟨h1, h2⟩ := sel11_ok hl
    cases m with
    | zero => cases hx
    | succ m => exact ⟨_, hk, (ref01_UTF8_fx m (hct m (Nat.lt_succ_self m)) _ hx).conv h1 h2, ⟨_, Tryz.func101, rfl, by decide⟩⟩
  cases h
theorem ct102_ok (m : Nat) (hct : ∀ k, k < m → ∀ R, CallOK (R := R) Tryz.prog (ct k)) {R : Type} {args : List AV} {objs : List Ob} {K : Res → Option R} {r : R} (h : ct102 m args objs K = some r) : ∃ q : Res, K q = some r ∧ FX Tryz.prog 102 args objs q.1 q.2 ∧ HasBody Tryz.prog 102 := by
  unfold ct102 at h
  split at h
  · rename_i l hl
    obtain ⟨x, hx, hk⟩ := Option.bind_eq_some_iff.1 h
    obtain ⟨h1, h2⟩ := sel49_ok hl
    cases m with
    | zero => cases hx
    | succ m => exact ⟨_, hk, (ref01_fields_fx m (hct m (Nat.lt_succ_self m)) _ _ hx).conv h1 h2, ⟨_, Tryz.func102, rfl, by decide⟩⟩
  cases h
theorem ct116_ok (m : Nat) (hct : ∀ k, k < m → ∀ R, CallOK (R := R) Tryz.prog (ct k)) {R : Type} {args : List AV} {objs : List Ob} {K : Res → Option R} {r : R} (h : ct116 m args objs K = some r) : ∃ q : Res, K q = some r ∧ FX Tryz.prog 116 args objs q.1 q.2 ∧ HasBody Tryz.prog 116 := by
  unfold ct116 at h
  split at h
  · rename_i l hl
    obtain ⟨x, hx, hk⟩ := Option.bind_eq_some_iff.1 h
    obtain ⟨h1, h2⟩ := sel54_ok hl
    cases m with
    | zero => cases hx
    | succ m => exact ⟨_, hk, (ref01_tail_fx m (hct m (Nat.lt_succ_self m)) _ _ _ hx).conv h1 h2, ⟨_, Tryz.func116, rfl, by decide⟩⟩
  cases h
theorem ct117_ok (m : Nat) (hct : ∀ k, k < m → ∀ R, CallOK (R := R) Tryz.prog (ct k)) {R : Type} {args : List AV} {objs : List Ob} {K : Res → Option R} {r : R} (h : ct117 m args objs K = some r) : ∃ q : Res, K q = some r ∧ FX Tryz.prog 117 args objs q.1 q.2 ∧ HasBody Tryz.prog 117 := by
  unfold ct117 at h
  split at h
  · rename_i l hl
    obtain ⟨x, hx, hk⟩ := Option.bind_eq_some_iff.1 h
    obtain ⟨h1, h2⟩ := sel11_ok hl
    cases m with
    | zero => cases hx
    | succ m => exact ⟨_, hk, (ref01_Name_fx m (hct m (Nat.lt_succ_self m)) _ hx).conv h1 h2, ⟨_, Tryz.func117, rfl, by decide⟩⟩
  cases h
theorem ct118_ok (m : Nat) (hct : ∀ k, k < m → ∀ R, CallOK (R := R) Tryz.prog (ct k)) {R : Type} {args : List AV} {objs : List Ob} {K : Res → Option R} {r : R} (h : ct118 m args objs K = some r) : ∃ q : Res, K q = some r ∧ FX Tryz.prog 118 args objs q.1 q.2 ∧ HasBody Tryz.prog 118 := by
  unfold ct118 at h
  split at h
  · rename_i l hl
    obtain ⟨x, hx, hk⟩ := Option.bind_eq_some_iff.1 h
    obtain ⟨h1, h2⟩ := sel11_ok hl
    cases m with
    | zero => cases hx
    | succ m => exact ⟨_, hk, (ref01_wide_fx m (hct m (Nat.lt_succ_self m)) _ hx).conv h1 h2, ⟨_, Tryz.func118, rfl, by decide⟩⟩
  cases h
set_option maxHeartbeats 4000000 in
theorem ct_ok : ∀ (m : Nat) (R : Type), CallOK (R := R) Tryz.prog (ct m) := by
  intro m
  induction m using Nat.strongRecOn with
  | _ m ih =>
    intro R f args objs K r h
    unfold ct at h
    rcases bset_some h with ⟨hb, h1⟩ | ⟨_, h⟩
    · have e := beq_eq hb
      subst e
      exact ct3_ok m ih h1
    rcases bset_some h with ⟨hb, h1⟩ | ⟨_, h⟩
    · have e := beq_eq hb
      subst e
      exact ct5_ok m ih h1
    rcases bset_some h with ⟨hb, h1⟩ | ⟨_, h⟩
    · have e := beq_eq hb
      subst e
      exact ct6_ok m ih h1
    rcases bset_some h with ⟨hb, h1⟩ | ⟨_, h⟩
    · have e := beq_eq hb
      subst e
      exact ct7_ok m ih h1
    rcases bset_some h with ⟨hb, h1⟩ | ⟨_, h⟩
    · have e := beq_eq hb
      subst e
      exact ct8_ok m ih h1
    rcases bset_some h with ⟨hb, h1⟩ | ⟨_, h⟩
    · have e := beq_eq hb
      subst e
      exact ct12_ok m ih h1
    rcases bset_some h with ⟨hb, h1⟩ | ⟨_, h⟩
    · have e := beq_eq hb
      subst e
      exact ct14_ok m ih h1
    rcases bset_some h with ⟨hb, h1⟩ | ⟨_, h⟩
    · have e := beq_eq hb
      subst e
      exact ct15_ok m ih h1
    rcases bset_some h with ⟨hb, h1⟩ | ⟨_, h⟩
    · have e := beq_eq hb
      subst e
      exact ct30_ok m ih h1
    rcases bset_some h with ⟨hb, h1⟩ | ⟨_, h⟩
    · have e := beq_eq hb
      subst e
      exact ct60_ok m ih h1
    rcases bset_some h with ⟨hb, h1⟩ | ⟨_, h⟩
    · have e := beq_eq hb
      subst e
      exact ct31_ok m ih h1
    rcases bset_some h with ⟨hb, h1⟩ | ⟨_, h⟩
    · have e := beq_eq hb
      subst e
      exact ct13_ok m ih h1
    rcases bset_some h with ⟨hb, h1⟩ | ⟨_, h⟩
    · have e := beq_eq hb
      subst e
      exact ct32_ok m ih h1
    rcases bset_some h with ⟨hb, h1⟩ | ⟨_, h⟩
    · have e := beq_eq hb
      subst e
      exact ct33_ok m ih h1
    rcases bset_some h with ⟨hb, h1⟩ | ⟨_, h⟩
    · have e := beq_eq hb
      subst e
      exact ct34_ok m ih h1
    rcases bset_some h with ⟨hb, h1⟩ | ⟨_, h⟩
    · have e := beq_eq hb
      subst e
      exact ct62_ok m ih h1
    rcases bset_some h with ⟨hb, h1⟩ | ⟨_, h⟩
    · have e := beq_eq hb
      subst e
      exact ct16_ok m ih h1
    rcases bset_some h with ⟨hb, h1⟩ | ⟨_, h⟩
    · have e := beq_eq hb
      subst e
      exact ct17_ok m ih h1
    rcases bset_some h with ⟨hb, h1⟩ | ⟨_, h⟩
    · have e := beq_eq hb
      subst e
      exact ct18_ok m ih h1
    rcases bset_some h with ⟨hb, h1⟩ | ⟨_, h⟩
    · have e := beq_eq hb
      subst e
      exact ct26_ok m ih h1
    rcases bset_some h with ⟨hb, h1⟩ | ⟨_, h⟩
    · have e := beq_eq hb
      subst e
      exact ct28_ok m ih h1
    rcases bset_some h with ⟨hb, h1⟩ | ⟨_, h⟩
    · have e := beq_eq hb
      subst e
      exact ct29_ok m ih h1
    rcases bset_some h with ⟨hb, h1⟩ | ⟨_, h⟩
    · have e := beq_eq hb
      subst e
      exact ct27_ok m ih h1
    rcases bset_some h with ⟨hb, h1⟩ | ⟨_, h⟩
    · have e := beq_eq hb
      subst e
      exact ct85_ok m ih h1
    rcases bset_some h with ⟨hb, h1⟩ | ⟨_, h⟩
    · have e := beq_eq hb
      subst e
      exact ct35_ok m ih h1
    rcases bset_some h with ⟨hb, h1⟩ | ⟨_, h⟩
    · have e := beq_eq hb
      subst e
      exact ct36_ok m ih h1
    rcases bset_some h with ⟨hb, h1⟩ | ⟨_, h⟩
    · have e := beq_eq hb
      subst e
      exact ct37_ok m ih h1
    rcases bset_some h with ⟨hb, h1⟩ | ⟨_, h⟩
    · have e := beq_eq hb
      subst e
      exact ct38_ok m ih h1
    rcases bset_some h with ⟨hb, h1⟩ | ⟨_, h⟩
    · have e := beq_eq hb
      subst e
      exact ct39_ok m ih h1
    rcases bset_some h with ⟨hb, h1⟩ | ⟨_, h⟩
    · have e := beq_eq hb
      subst e
      exact ct40_ok m ih h1
    rcases bset_some h with ⟨hb, h1⟩ | ⟨_, h⟩
    · have e := beq_eq hb
      subst e
      exact ct41_ok m ih h1
    rcases bset_some h with ⟨hb, h1⟩ | ⟨_, h⟩
    · have e := beq_eq hb
      subst e
      exact ct55_ok m ih h1
    rcases bset_some h with ⟨hb, h1⟩ | ⟨_, h⟩
    · have e := beq_eq hb
      subst e
      exact ct58_ok m ih h1
    rcases bset_some h with ⟨hb, h1⟩ | ⟨_, h⟩
    · have e := beq_eq hb
      subst e
      exact ct57_ok m ih h1
    rcases bset_some h with ⟨hb, h1⟩ | ⟨_, h⟩
    · have e := beq_eq hb
      subst e
      exact ct59_ok m ih h1
    rcases bset_some h with ⟨hb, h1⟩ | ⟨_, h⟩
    · have e := beq_eq hb
      subst e
      exact ct56_ok m ih h1
    rcases bset_some h with ⟨hb, h1⟩ | ⟨_, h⟩
    · have e := beq_eq hb
      subst e
      exact ct63_ok m ih h1
    rcases bset_some h with ⟨hb, h1⟩ | ⟨_, h⟩
    · have e := beq_eq hb
      subst e
      exact ct64_ok m ih h1
    rcases bset_some h with ⟨hb, h1⟩ | ⟨_, h⟩
    · have e := beq_eq hb
      subst e
      exact ct66_ok m ih h1
    rcases bset_some h with ⟨hb, h1⟩ | ⟨_, h⟩
    · have e := beq_eq hb
      subst e
      exact ct65_ok m ih h1
    rcases bset_some h with ⟨hb, h1⟩ | ⟨_, h⟩
    · have e := beq_eq hb
      subst e
      exact ct67_ok m ih h1
    rcases bset_some h with ⟨hb, h1⟩ | ⟨_, h⟩
    · have e := beq_eq hb
      subst e
      exact ct68_ok m ih h1
    rcases bset_some h with ⟨hb, h1⟩ | ⟨_, h⟩
    · have e := beq_eq hb
      subst e
      exact ct79_ok m ih h1
    rcases bset_some h with ⟨hb, h1⟩ | ⟨_, h⟩
    · have e := beq_eq hb
      subst e
      exact ct80_ok m ih h1
    rcases bset_some h with ⟨hb, h1⟩ | ⟨_, h⟩
    · have e := beq_eq hb
      subst e
      exact ct70_ok m ih h1
    rcases bset_some h with ⟨hb, h1⟩ | ⟨_, h⟩
    · have e := beq_eq hb
      subst e
      exact ct83_ok m ih h1
    rcases bset_some h with ⟨hb, h1⟩ | ⟨_, h⟩
    · have e := beq_eq hb
      subst e
      exact ct81_ok m ih h1
    rcases bset_some h with ⟨hb, h1⟩ | ⟨_, h⟩
    · have e := beq_eq hb
      subst e
      exact ct86_ok m ih h1
    rcases bset_some h with ⟨hb, h1⟩ | ⟨_, h⟩
    · have e := beq_eq hb
      subst e
      exact ct87_ok m ih h1
    rcases bset_some h with ⟨hb, h1⟩ | ⟨_, h⟩
    · have e := beq_eq hb
      subst e
      exact ct88_ok m ih h1
    rcases bset_some h with ⟨hb, h1⟩ | ⟨_, h⟩
    · have e := beq_eq hb
      subst e
      exact ct96_ok m ih h1
    rcases bset_some h with ⟨hb, h1⟩ | ⟨_, h⟩
    · have e := beq_eq hb
      subst e
      exact ct101_ok m ih h1
    rcases bset_some h with ⟨hb, h1⟩ | ⟨_, h⟩
    · have e := beq_eq hb
      subst e
      exact ct102_ok m ih h1
    rcases bset_some h with ⟨hb, h1⟩ | ⟨_, h⟩
    · have e := beq_eq hb
      subst e
      exact ct116_ok m ih h1
    rcases bset_some h with ⟨hb, h1⟩ | ⟨_, h⟩
    · have e := beq_eq hb
      subst e
      exact ct117_ok m ih h1
    rcases bset_some h with ⟨hb, h1⟩ | ⟨_, h⟩
    · have e := beq_eq hb
      subst e
      exact ct118_ok m ih h1
    cases h
end Go.Proofs.YtmejbpmceflcjaaGreatDoor
