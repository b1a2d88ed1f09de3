/- Generated: the contracts. -/
import Derived.Test.YtmejbpmceflcjaaDoorEq0
set_option linter.unusedVariables false
set_option linter.unusedSimpArgs false
namespace Go.Proofs.YtmejbpmceflcjaaDoor
open Go.Am
set_option maxRecDepth 100000
theorem mixed : Tryd.prog.follows .mixedOrders = true := by kernel_rfl
theorem notation_Quote_fx (m : Nat) (hct : ∀ R, CallOK (R := R) Tryd.prog (ct m)) (a0 : ByteArray) {r : ByteArray} (h : notation_Quote (m + 1) a0 = some r) : FX Tryd.prog 8 [(.dat 9 (.str a0))] [] (.dat 9 (.str r)) [] :=
  FX_of (q := ((.dat 9 (.str r)), [])) (E := env) (m := m + 1) (dec := d2) jn_ok (hct _) mixed Tryd.func8 rfl (Nat.le_of_ble_eq_true rfl) (fun b hb => d2_sim hb) ((notation_Quote_eq m a0).trans h)
theorem ref05_digit_fx (m : Nat) (hct : ∀ R, CallOK (R := R) Tryd.prog (ct m)) (a0 : Int) {r : ByteArray} (h : ref05_digit (m + 1) a0 = some r) : FX Tryd.prog 16 [(.dat 3 (.int a0))] [] (.dat 9 (.str r)) [] :=
  FX_of (q := ((.dat 9 (.str r)), [])) (E := env) (m := m + 1) (dec := d2) jn_ok (hct _) mixed Tryd.func16 rfl (Nat.le_of_ble_eq_true rfl) (fun b hb => d2_sim hb) ((ref05_digit_eq m a0).trans h)
theorem ref05_Quote_fx (m : Nat) (hct : ∀ R, CallOK (R := R) Tryd.prog (ct m)) (a0 : ByteArray) {r : ByteArray} (h : ref05_Quote (m + 1) a0 = some r) : FX Tryd.prog 9 [(.dat 9 (.str a0))] [] (.dat 9 (.str r)) [] :=
  FX_of (q := ((.dat 9 (.str r)), [])) (E := env) (m := m + 1) (dec := d2) jn_ok (hct _) mixed Tryd.func9 rfl (Nat.le_of_ble_eq_true rfl) (fun b hb => d2_sim hb) ((ref05_Quote_eq m a0).trans h)
theorem i8_fx (m : Nat) (hct : ∀ R, CallOK (R := R) Tryd.prog (ct m)) (a0 : Dt) {r : Int × Dt} (h : i8 (m + 1) a0 = some r) : FX Tryd.prog 28 [(.ptr 0 [] 0)] [(.box 45 (.dat 45 a0))] (.dat 3 (.int r.1)) [(.box 45 (.dat 45 r.2))] :=
  FX_of (q := ((.dat 3 (.int r.1)), [(.box 45 (.dat 45 r.2))])) (E := env) (m := m + 1) (dec := d8) jn_ok (hct _) mixed Tryd.func28 rfl (Nat.le_of_ble_eq_true rfl) (fun b hb => d8_sim hb) ((i8_eq m a0).trans h)
theorem i7_fx (m : Nat) (hct : ∀ R, CallOK (R := R) Tryd.prog (ct m)) (a0 : Dt) {r : Dt} (h : i7 (m + 1) a0 = some r) : FX Tryd.prog 17 [(.ptr 0 [] 0)] [(.box 45 (.dat 45 a0))] (.tup []) [(.box 45 (.dat 45 r))] :=
  FX_of (q := ((.tup []), [(.box 45 (.dat 45 r))])) (E := env) (m := m + 1) (dec := d7) jn_ok (hct _) mixed Tryd.func17 rfl (Nat.le_of_ble_eq_true rfl) (fun b hb => d7_sim hb) ((i7_eq m a0).trans h)
theorem i11_fx (m : Nat) (hct : ∀ R, CallOK (R := R) Tryd.prog (ct m)) (a0 a1 : Int) (a2 : Dt) {r : Bool × Dt} (h : i11 (m + 1) a0 a1 a2 = some r) : FX Tryd.prog 19 [(.ptr 0 [] 0), (.dat 28 (.int a0)), (.dat 3 (.int a1))] [(.box 45 (.dat 45 a2))] (.dat 4 (.bool r.1)) [(.box 45 (.dat 45 r.2))] :=
  FX_of (q := ((.dat 4 (.bool r.1)), [(.box 45 (.dat 45 r.2))])) (E := env) (m := m + 1) (dec := d11) jn_ok (hct _) mixed Tryd.func19 rfl (Nat.le_of_ble_eq_true rfl) (fun b hb => d11_sim hb) ((i11_eq m a0 a1 a2).trans h)
theorem i10_fx (m : Nat) (hct : ∀ R, CallOK (R := R) Tryd.prog (ct m)) (a0 a1 : Int) (a2 : Dt) {r : Bool × Dt} (h : i10 (m + 1) a0 a1 a2 = some r) : FX Tryd.prog 29 [(.ptr 0 [] 0), (.dat 3 (.int a0)), (.dat 3 (.int a1))] [(.box 45 (.dat 45 a2))] (.dat 4 (.bool r.1)) [(.box 45 (.dat 45 r.2))] :=
  FX_of (q := ((.dat 4 (.bool r.1)), [(.box 45 (.dat 45 r.2))])) (E := env) (m := m + 1) (dec := d11) jn_ok (hct _) mixed Tryd.func29 rfl (Nat.le_of_ble_eq_true rfl) (fun b hb => d11_sim hb) ((i10_eq m a0 a1 a2).trans h)
theorem i15_fx (m : Nat) (hct : ∀ R, CallOK (R := R) Tryd.prog (ct m)) (a0 : Dt) {r : Int × Bool × Dt} (h : i15 (m + 1) a0 = some r) : FX Tryd.prog 78 [(.ptr 0 [] 0)] [(.box 45 (.dat 45 a0))] (.tup [(.dat 21 (.int r.1)), (.dat 4 (.bool r.2.1))]) [(.box 45 (.dat 45 r.2.2))] :=
  FX_of (q := ((.tup [(.dat 21 (.int r.1)), (.dat 4 (.bool r.2.1))]), [(.box 45 (.dat 45 r.2.2))])) (E := env) (m := m + 1) (dec := d15) jn_ok (hct _) mixed Tryd.func78 rfl (Nat.le_of_ble_eq_true rfl) (fun b hb => d15_sim hb) ((i15_eq m a0).trans h)
theorem i14_fx (m : Nat) (hct : ∀ R, CallOK (R := R) Tryd.prog (ct m)) (a0 : Dt) {r : Int × Bool × Dt} (h : i14 (m + 1) a0 = some r) : FX Tryd.prog 66 [(.ptr 0 [] 0)] [(.box 45 (.dat 45 a0))] (.tup [(.dat 21 (.int r.1)), (.dat 4 (.bool r.2.1))]) [(.box 45 (.dat 45 r.2.2))] :=
  FX_of (q := ((.tup [(.dat 21 (.int r.1)), (.dat 4 (.bool r.2.1))]), [(.box 45 (.dat 45 r.2.2))])) (E := env) (m := m + 1) (dec := d15) jn_ok (hct _) mixed Tryd.func66 rfl (Nat.le_of_ble_eq_true rfl) (fun b hb => d15_sim hb) ((i14_eq m a0).trans h)
theorem i17_fx (m : Nat) (hct : ∀ R, CallOK (R := R) Tryd.prog (ct m)) (a0 : Int) (a1 : List Dt) {r : List Dt} (h : i17 (m + 1) a0 a1 = some r) : FX Tryd.prog 79 [(.row 0), (.dat 21 (.int a0))] [(.row 42 a1)] (.row 1) [.gone, (.row 42 r)] :=
  FX_of (q := ((.row 1), [.gone, (.row 42 r)])) (E := env) (m := m + 1) (dec := d17) jn_ok (hct _) mixed Tryd.func79 rfl (Nat.le_of_ble_eq_true rfl) (fun b hb => d17_sim hb) ((i17_eq m a0 a1).trans h)
theorem i16_fx (m : Nat) (hct : ∀ R, CallOK (R := R) Tryd.prog (ct m)) (a0 : Int) (a1 : List Dt) {r : List Dt} (h : i16 (m + 1) a0 a1 = some r) : FX Tryd.prog 67 [(.row 0), (.dat 21 (.int a0))] [(.row 42 a1)] (.row 1) [.gone, (.row 42 r)] :=
  FX_of (q := ((.row 1), [.gone, (.row 42 r)])) (E := env) (m := m + 1) (dec := d17) jn_ok (hct _) mixed Tryd.func67 rfl (Nat.le_of_ble_eq_true rfl) (fun b hb => d17_sim hb) ((i16_eq m a0 a1).trans h)
theorem i13_fx (m : Nat) (hct : ∀ R, CallOK (R := R) Tryd.prog (ct m)) (a0 : Dt) {r : ByteArray × Bool × Dt} (h : i13 (m + 1) a0 = some r) : FX Tryd.prog 49 [(.ptr 0 [] 0)] [(.box 45 (.dat 45 a0))] (.tup [(.dat 9 (.str r.1)), (.dat 4 (.bool r.2.1))]) [(.box 45 (.dat 45 r.2.2))] :=
  FX_of (q := ((.tup [(.dat 9 (.str r.1)), (.dat 4 (.bool r.2.1))]), [(.box 45 (.dat 45 r.2.2))])) (E := env) (m := m + 1) (dec := d13) jn_ok (hct _) mixed Tryd.func49 rfl (Nat.le_of_ble_eq_true rfl) (fun b hb => d13_sim hb) ((i13_eq m a0).trans h)
theorem i12_fx (m : Nat) (hct : ∀ R, CallOK (R := R) Tryd.prog (ct m)) (a0 : Dt) {r : Dt × Bool × Dt} (h : i12 (m + 1) a0 = some r) : FX Tryd.prog 30 [(.ptr 0 [] 0)] [(.box 45 (.dat 45 a0))] (.tup [(.dat 27 r.1), (.dat 4 (.bool r.2.1))]) [(.box 45 (.dat 45 r.2.2))] :=
  FX_of (q := ((.tup [(.dat 27 r.1), (.dat 4 (.bool r.2.1))]), [(.box 45 (.dat 45 r.2.2))])) (E := env) (m := m + 1) (dec := d12) jn_ok (hct _) mixed Tryd.func30 rfl (Nat.le_of_ble_eq_true rfl) (fun b hb => d12_sim hb) ((i12_eq m a0).trans h)
theorem notation_isField_fx (m : Nat) (hct : ∀ R, CallOK (R := R) Tryd.prog (ct m)) (a0 : ByteArray) {r : Bool} (h : notation_isField (m + 1) a0 = some r) : FX Tryd.prog 61 [(.dat 9 (.str a0))] [] (.dat 4 (.bool r)) [] :=
  FX_of (q := ((.dat 4 (.bool r)), [])) (E := env) (m := m + 1) (dec := d22) jn_ok (hct _) mixed Tryd.func61 rfl (Nat.le_of_ble_eq_true rfl) (fun b hb => d22_sim hb) ((notation_isField_eq m a0).trans h)
theorem i21_fx (m : Nat) (hct : ∀ R, CallOK (R := R) Tryd.prog (ct m)) (a0 : Dt) (a1 : List Dt) {r : ByteArray × Bool × Dt × List Dt} (h : i21 (m + 1) a0 a1 = some r) : FX Tryd.prog 51 [(.ptr 0 [] 0), (.row 1)] [(.box 45 (.dat 45 a0)), (.map 68 a1)] (.tup [(.dat 9 (.str r.1)), (.dat 4 (.bool r.2.1))]) [(.box 45 (.dat 45 r.2.2.1)), (.map 68 r.2.2.2)] :=
  FX_of (q := ((.tup [(.dat 9 (.str r.1)), (.dat 4 (.bool r.2.1))]), [(.box 45 (.dat 45 r.2.2.1)), (.map 68 r.2.2.2)])) (E := env) (m := m + 1) (dec := d21) jn_ok (hct _) mixed Tryd.func51 rfl (Nat.le_of_ble_eq_true rfl) (fun b hb => d21_sim hb) ((i21_eq m a0 a1).trans h)
theorem notation_isSpecial_fx (m : Nat) (hct : ∀ R, CallOK (R := R) Tryd.prog (ct m)) (a0 : ByteArray) {r : Bool} (h : notation_isSpecial (m + 1) a0 = some r) : FX Tryd.prog 52 [(.dat 9 (.str a0))] [] (.dat 4 (.bool r)) [] :=
  FX_of (q := ((.dat 4 (.bool r)), [])) (E := env) (m := m + 1) (dec := d22) jn_ok (hct _) mixed Tryd.func52 rfl (Nat.le_of_ble_eq_true rfl) (fun b hb => d22_sim hb) ((notation_isSpecial_eq m a0).trans h)
theorem notation_fromHex_fx (m : Nat) (hct : ∀ R, CallOK (R := R) Tryd.prog (ct m)) (a0 : Dt) {r : ByteArray × Bool} (h : notation_fromHex (m + 1) a0 = some r) : FX Tryd.prog 69 [(.dat 27 a0)] [] (.tup [(.dat 9 (.str r.1)), (.dat 4 (.bool r.2))]) [] :=
  FX_of (q := ((.tup [(.dat 9 (.str r.1)), (.dat 4 (.bool r.2))]), [])) (E := env) (m := m + 1) (dec := d25) jn_ok (hct _) mixed Tryd.func69 rfl (Nat.le_of_ble_eq_true rfl) (fun b hb => d25_sim hb) ((notation_fromHex_eq m a0).trans h)
theorem i24_fx (m : Nat) (hct : ∀ R, CallOK (R := R) Tryd.prog (ct m)) (a0 : List Dt) {r : Dt × Bool × List Dt} (h : i24 (m + 1) a0 = some r) : FX Tryd.prog 53 [(.row 0)] [(.row 25 a0)] (.tup [(.dat 27 r.1), (.dat 4 (.bool r.2.1))]) [(.row 25 r.2.2)] :=
  FX_of (q := ((.tup [(.dat 27 r.1), (.dat 4 (.bool r.2.1))]), [(.row 25 r.2.2)])) (E := env) (m := m + 1) (dec := d24) jn_ok (hct _) mixed Tryd.func53 rfl (Nat.le_of_ble_eq_true rfl) (fun b hb => d24_sim hb) ((i24_eq m a0).trans h)
theorem i26_fx (m : Nat) (hct : ∀ R, CallOK (R := R) Tryd.prog (ct m)) (a0 : ByteArray) (a1 : Dt) {r : Bool × Dt} (h : i26 (m + 1) a0 a1 = some r) : FX Tryd.prog 33 [(.ptr 0 [] 0), (.dat 9 (.str a0))] [(.box 45 (.dat 45 a1))] (.dat 4 (.bool r.1)) [(.box 45 (.dat 45 r.2))] :=
  FX_of (q := ((.dat 4 (.bool r.1)), [(.box 45 (.dat 45 r.2))])) (E := env) (m := m + 1) (dec := d11) jn_ok (hct _) mixed Tryd.func33 rfl (Nat.le_of_ble_eq_true rfl) (fun b hb => d11_sim hb) ((i26_eq m a0 a1).trans h)
theorem i27_fx (m : Nat) (hct : ∀ R, CallOK (R := R) Tryd.prog (ct m)) (a0 : Dt) {r : Dt × Bool × Dt} (h : i27 (m + 1) a0 = some r) : FX Tryd.prog 34 [(.ptr 0 [] 0)] [(.box 45 (.dat 45 a0))] (.tup [(.dat 27 r.1), (.dat 4 (.bool r.2.1))]) [(.box 45 (.dat 45 r.2.2))] :=
  FX_of (q := ((.tup [(.dat 27 r.1), (.dat 4 (.bool r.2.1))]), [(.box 45 (.dat 45 r.2.2))])) (E := env) (m := m + 1) (dec := d12) jn_ok (hct _) mixed Tryd.func34 rfl (Nat.le_of_ble_eq_true rfl) (fun b hb => d12_sim hb) ((i27_eq m a0).trans h)
theorem i9_fx (m : Nat) (hct : ∀ R, CallOK (R := R) Tryd.prog (ct m)) (a0 : Int) (a1 : Bool) (a2 : Dt) {r : Dt × Bool × Dt} (h : i9 (m + 1) a0 a1 a2 = some r) : FX Tryd.prog 18 [(.ptr 0 [] 0), (.dat 3 (.int a0)), (.dat 4 (.bool a1))] [(.box 45 (.dat 45 a2))] (.tup [(.dat 27 r.1), (.dat 4 (.bool r.2.1))]) [(.box 45 (.dat 45 r.2.2))] :=
  FX_of (q := ((.tup [(.dat 27 r.1), (.dat 4 (.bool r.2.1))]), [(.box 45 (.dat 45 r.2.2))])) (E := env) (m := m + 1) (dec := d12) jn_ok (hct _) mixed Tryd.func18 rfl (Nat.le_of_ble_eq_true rfl) (fun b hb => d12_sim hb) ((i9_eq m a0 a1 a2).trans h)
theorem i19_fx (m : Nat) (hct : ∀ R, CallOK (R := R) Tryd.prog (ct m)) (a0 : Int) (a1 : Dt) {r : Dt × Bool × Dt} (h : i19 (m + 1) a0 a1 = some r) : FX Tryd.prog 31 [(.ptr 0 [] 0), (.dat 3 (.int a0))] [(.box 45 (.dat 45 a1))] (.tup [(.dat 27 r.1), (.dat 4 (.bool r.2.1))]) [(.box 45 (.dat 45 r.2.2))] :=
  FX_of (q := ((.tup [(.dat 27 r.1), (.dat 4 (.bool r.2.1))]), [(.box 45 (.dat 45 r.2.2))])) (E := env) (m := m + 1) (dec := d12) jn_ok (hct _) mixed Tryd.func31 rfl (Nat.le_of_ble_eq_true rfl) (fun b hb => d12_sim hb) ((i19_eq m a0 a1).trans h)
theorem i20_fx (m : Nat) (hct : ∀ R, CallOK (R := R) Tryd.prog (ct m)) (a0 : Int) (a1 : Dt) {r : Dt × Bool × Dt} (h : i20 (m + 1) a0 a1 = some r) : FX Tryd.prog 32 [(.ptr 0 [] 0), (.dat 3 (.int a0))] [(.box 45 (.dat 45 a1))] (.tup [(.dat 27 r.1), (.dat 4 (.bool r.2.1))]) [(.box 45 (.dat 45 r.2.2))] :=
  FX_of (q := ((.tup [(.dat 27 r.1), (.dat 4 (.bool r.2.1))]), [(.box 45 (.dat 45 r.2.2))])) (E := env) (m := m + 1) (dec := d12) jn_ok (hct _) mixed Tryd.func32 rfl (Nat.le_of_ble_eq_true rfl) (fun b hb => d12_sim hb) ((i20_eq m a0 a1).trans h)
theorem notation_Parse_fx (m : Nat) (hct : ∀ R, CallOK (R := R) Tryd.prog (ct m)) (a0 : ByteArray) {r : Dt × Int × Int} (h : notation_Parse (m + 1) a0 = some r) : FX Tryd.prog 10 [(.dat 9 (.str a0))] [] (.tup [(.dat 27 r.1), (.dat 3 (.int r.2.1)), (.dat 28 (.int r.2.2))]) [] :=
  FX_of (q := ((.tup [(.dat 27 r.1), (.dat 3 (.int r.2.1)), (.dat 28 (.int r.2.2))]), [])) (E := env) (m := m + 1) (dec := d4) jn_ok (hct _) mixed Tryd.func10 rfl (Nat.le_of_ble_eq_true rfl) (fun b hb => d4_sim hb) ((notation_Parse_eq m a0).trans h)
theorem ref01_Parts_fx (m : Nat) (hct : ∀ R, CallOK (R := R) Tryd.prog (ct m)) (a0 : Dt) {r : List Dt} (h : ref01_Parts (m + 1) a0 = some r) : FX Tryd.prog 55 [(.dat 27 a0)] [] (.dat 24 (.lst r)) [] :=
  FX_of (q := ((.dat 24 (.lst r)), [])) (E := env) (m := m + 1) (dec := d36) jn_ok (hct _) mixed Tryd.func55 rfl (Nat.le_of_ble_eq_true rfl) (fun b hb => d36_sim hb) ((ref01_Parts_eq m a0).trans h)
theorem ref01_levels_fx (m : Nat) (hct : ∀ R, CallOK (R := R) Tryd.prog (ct m)) (a0 : Dt) (a1 : Int) {r : Int} (h : ref01_levels (m + 1) a0 a1 = some r) : FX Tryd.prog 35 [(.dat 27 a0), (.dat 3 (.int a1))] [] (.dat 3 (.int r)) [] :=
  FX_of (q := ((.dat 3 (.int r)), [])) (E := env) (m := m + 1) (dec := d32) jn_ok (hct _) mixed Tryd.func35 rfl (Nat.le_of_ble_eq_true rfl) (fun b hb => d32_sim hb) ((ref01_levels_eq m a0 a1).trans h)
theorem ref01_Depth_fx (m : Nat) (hct : ∀ R, CallOK (R := R) Tryd.prog (ct m)) (a0 : Dt) {r : Int} (h : ref01_Depth (m + 1) a0 = some r) : FX Tryd.prog 20 [(.dat 27 a0)] [] (.dat 3 (.int r)) [] :=
  FX_of (q := ((.dat 3 (.int r)), [])) (E := env) (m := m + 1) (dec := d32) jn_ok (hct _) mixed Tryd.func20 rfl (Nat.le_of_ble_eq_true rfl) (fun b hb => d32_sim hb) ((ref01_Depth_eq m a0).trans h)
theorem ref01_count_fx (m : Nat) (hct : ∀ R, CallOK (R := R) Tryd.prog (ct m)) (a0 : Dt) (a1 : Int) {r : Int} (h : ref01_count (m + 1) a0 a1 = some r) : FX Tryd.prog 36 [(.dat 27 a0), (.dat 3 (.int a1))] [] (.dat 3 (.int r)) [] :=
  FX_of (q := ((.dat 3 (.int r)), [])) (E := env) (m := m + 1) (dec := d32) jn_ok (hct _) mixed Tryd.func36 rfl (Nat.le_of_ble_eq_true rfl) (fun b hb => d32_sim hb) ((ref01_count_eq m a0 a1).trans h)
theorem ref01_Nodes_fx (m : Nat) (hct : ∀ R, CallOK (R := R) Tryd.prog (ct m)) (a0 : Dt) {r : Int} (h : ref01_Nodes (m + 1) a0 = some r) : FX Tryd.prog 21 [(.dat 27 a0)] [] (.dat 3 (.int r)) [] :=
  FX_of (q := ((.dat 3 (.int r)), [])) (E := env) (m := m + 1) (dec := d32) jn_ok (hct _) mixed Tryd.func21 rfl (Nat.le_of_ble_eq_true rfl) (fun b hb => d32_sim hb) ((ref01_Nodes_eq m a0).trans h)
theorem ref01_tail_fx (m : Nat) (hct : ∀ R, CallOK (R := R) Tryd.prog (ct m)) (a0 : ByteArray) (a1 a2 : Int) {r : Bool} (h : ref01_tail (m + 1) a0 a1 a2 = some r) : FX Tryd.prog 56 [(.dat 9 (.str a0)), (.dat 3 (.int a1)), (.dat 3 (.int a2))] [] (.dat 4 (.bool r)) [] :=
  FX_of (q := ((.dat 4 (.bool r)), [])) (E := env) (m := m + 1) (dec := d22) jn_ok (hct _) mixed Tryd.func56 rfl (Nat.le_of_ble_eq_true rfl) (fun b hb => d22_sim hb) ((ref01_tail_eq m a0 a1 a2).trans h)
theorem ref01_UTF8_fx (m : Nat) (hct : ∀ R, CallOK (R := R) Tryd.prog (ct m)) (a0 : ByteArray) {r : Bool} (h : ref01_UTF8 (m + 1) a0 = some r) : FX Tryd.prog 37 [(.dat 9 (.str a0))] [] (.dat 4 (.bool r)) [] :=
  FX_of (q := ((.dat 4 (.bool r)), [])) (E := env) (m := m + 1) (dec := d22) jn_ok (hct _) mixed Tryd.func37 rfl (Nat.le_of_ble_eq_true rfl) (fun b hb => d22_sim hb) ((ref01_UTF8_eq m a0).trans h)
theorem ref01_Name_fx (m : Nat) (hct : ∀ R, CallOK (R := R) Tryd.prog (ct m)) (a0 : ByteArray) {r : Bool} (h : ref01_Name (m + 1) a0 = some r) : FX Tryd.prog 57 [(.dat 9 (.str a0))] [] (.dat 4 (.bool r)) [] :=
  FX_of (q := ((.dat 4 (.bool r)), [])) (E := env) (m := m + 1) (dec := d22) jn_ok (hct _) mixed Tryd.func57 rfl (Nat.le_of_ble_eq_true rfl) (fun b hb => d22_sim hb) ((ref01_Name_eq m a0).trans h)
theorem ref01_wide_fx (m : Nat) (hct : ∀ R, CallOK (R := R) Tryd.prog (ct m)) (a0 : ByteArray) {r : Bool} (h : ref01_wide (m + 1) a0 = some r) : FX Tryd.prog 58 [(.dat 9 (.str a0))] [] (.dat 4 (.bool r)) [] :=
  FX_of (q := ((.dat 4 (.bool r)), [])) (E := env) (m := m + 1) (dec := d22) jn_ok (hct _) mixed Tryd.func58 rfl (Nat.le_of_ble_eq_true rfl) (fun b hb => d22_sim hb) ((ref01_wide_eq m a0).trans h)
theorem ref01_formed_fx (m : Nat) (hct : ∀ R, CallOK (R := R) Tryd.prog (ct m)) (a0 : Dt) (a1 : Bool) {r : Bool} (h : ref01_formed (m + 1) a0 a1 = some r) : FX Tryd.prog 22 [(.dat 27 a0), (.dat 4 (.bool a1))] [] (.dat 4 (.bool r)) [] :=
  FX_of (q := ((.dat 4 (.bool r)), [])) (E := env) (m := m + 1) (dec := d22) jn_ok (hct _) mixed Tryd.func22 rfl (Nat.le_of_ble_eq_true rfl) (fun b hb => d22_sim hb) ((ref01_formed_eq m a0 a1).trans h)
theorem ref01_fields_fx (m : Nat) (hct : ∀ R, CallOK (R := R) Tryd.prog (ct m)) (a0 : Dt) (a1 : Bool) {r : Bool} (h : ref01_fields (m + 1) a0 a1 = some r) : FX Tryd.prog 38 [(.dat 27 a0), (.dat 4 (.bool a1))] [] (.dat 4 (.bool r)) [] :=
  FX_of (q := ((.dat 4 (.bool r)), [])) (E := env) (m := m + 1) (dec := d22) jn_ok (hct _) mixed Tryd.func38 rfl (Nat.le_of_ble_eq_true rfl) (fun b hb => d22_sim hb) ((ref01_fields_eq m a0 a1).trans h)
theorem ref01_Valid_fx (m : Nat) (hct : ∀ R, CallOK (R := R) Tryd.prog (ct m)) (a0 : Dt) {r : Bool} (h : ref01_Valid (m + 1) a0 = some r) : FX Tryd.prog 11 [(.dat 27 a0)] [] (.dat 4 (.bool r)) [] :=
  FX_of (q := ((.dat 4 (.bool r)), [])) (E := env) (m := m + 1) (dec := d22) jn_ok (hct _) mixed Tryd.func11 rfl (Nat.le_of_ble_eq_true rfl) (fun b hb => d22_sim hb) ((ref01_Valid_eq m a0).trans h)
theorem law05_NotationQuotes_fx (m : Nat) (hct : ∀ R, CallOK (R := R) Tryd.prog (ct m)) (a0 : ByteArray) {r : Bool} (h : law05_NotationQuotes (m + 1) a0 = some r) : FX Tryd.prog 3 [(.dat 9 (.str a0))] [] (.dat 4 (.bool r)) [] :=
  FX_of (q := ((.dat 4 (.bool r)), [])) (E := env) (m := m + 1) (dec := d22) jn_ok (hct _) mixed Tryd.func3 rfl (Nat.le_of_ble_eq_true rfl) (fun b hb => d22_sim hb) ((law05_NotationQuotes_eq m a0).trans h)
theorem ct3_ok (m : Nat) (hct : ∀ k, k < m → ∀ R, CallOK (R := R) Tryd.prog (ct k)) {R : Type} {args : List AV} {objs : List Ob} {K : Res → Option R} {r : R} (h : ct3 m args objs K = some r) : ∃ q : Res, K q = some r ∧ FX Tryd.prog 3 args objs q.1 q.2 ∧ HasBody Tryd.prog 3 := by
  unfold ct3 at h
  split at h
  · rename_i l hl
    obtain ⟨x, hx, hk⟩ := Option.bind_eq_some_iff.1 h
    obtain ⟨h1, h2⟩ := sel0_ok hl
    cases m with
    | zero => cases hx
    | succ m => exact ⟨_, hk, (law05_NotationQuotes_fx m (hct m (Nat.lt_succ_self m)) _ hx).conv h1 h2, ⟨_, Tryd.func3, rfl, by decide⟩⟩
  cases h
theorem ct7_ok (m : Nat) (hct : ∀ k, k < m → ∀ R, CallOK (R := R) Tryd.prog (ct k)) {R : Type} {args : List AV} {objs : List Ob} {K : Res → Option R} {r : R} (h : ct7 m args objs K = some r) : ∃ q : Res, K q = some r ∧ FX Tryd.prog 7 args objs q.1 q.2 ∧ HasBody Tryd.prog 7 := by
  unfold ct7 at h
  split at h
  · rename_i l hl
    obtain ⟨x, hx, hk⟩ := Option.bind_eq_some_iff.1 h
    obtain ⟨h1, h2⟩ := sel1_ok hl
    exact ⟨_, hk, (awakeC_fx hx).conv h1 h2, ⟨_, Tryd.func7, rfl, by decide⟩⟩
  cases h
theorem ct8_ok (m : Nat) (hct : ∀ k, k < m → ∀ R, CallOK (R := R) Tryd.prog (ct k)) {R : Type} {args : List AV} {objs : List Ob} {K : Res → Option R} {r : R} (h : ct8 m args objs K = some r) : ∃ q : Res, K q = some r ∧ FX Tryd.prog 8 args objs q.1 q.2 ∧ HasBody Tryd.prog 8 := by
  unfold ct8 at h
  split at h
  · rename_i l hl
    obtain ⟨x, hx, hk⟩ := Option.bind_eq_some_iff.1 h
    obtain ⟨h1, h2⟩ := sel0_ok hl
    cases m with
    | zero => cases hx
    | succ m => exact ⟨_, hk, (notation_Quote_fx m (hct m (Nat.lt_succ_self m)) _ hx).conv h1 h2, ⟨_, Tryd.func8, rfl, by decide⟩⟩
  cases h
theorem ct9_ok (m : Nat) (hct : ∀ k, k < m → ∀ R, CallOK (R := R) Tryd.prog (ct k)) {R : Type} {args : List AV} {objs : List Ob} {K : Res → Option R} {r : R} (h : ct9 m args objs K = some r) : ∃ q : Res, K q = some r ∧ FX Tryd.prog 9 args objs q.1 q.2 ∧ HasBody Tryd.prog 9 := by
  unfold ct9 at h
  split at h
  · rename_i l hl
    obtain ⟨x, hx, hk⟩ := Option.bind_eq_some_iff.1 h
    obtain ⟨h1, h2⟩ := sel0_ok hl
    cases m with
    | zero => cases hx
    | succ m => exact ⟨_, hk, (ref05_Quote_fx m (hct m (Nat.lt_succ_self m)) _ hx).conv h1 h2, ⟨_, Tryd.func9, rfl, by decide⟩⟩
  cases h
theorem ct10_ok (m : Nat) (hct : ∀ k, k < m → ∀ R, CallOK (R := R) Tryd.prog (ct k)) {R : Type} {args : List AV} {objs : List Ob} {K : Res → Option R} {r : R} (h : ct10 m args objs K = some r) : ∃ q : Res, K q = some r ∧ FX Tryd.prog 10 args objs q.1 q.2 ∧ HasBody Tryd.prog 10 := by
  unfold ct10 at h
  split at h
  · rename_i l hl
    obtain ⟨x, hx, hk⟩ := Option.bind_eq_some_iff.1 h
    obtain ⟨h1, h2⟩ := sel0_ok hl
    cases m with
    | zero => cases hx
    | succ m => exact ⟨_, hk, (notation_Parse_fx m (hct m (Nat.lt_succ_self m)) _ hx).conv h1 h2, ⟨_, Tryd.func10, rfl, by decide⟩⟩
  cases h
theorem ct11_ok (m : Nat) (hct : ∀ k, k < m → ∀ R, CallOK (R := R) Tryd.prog (ct k)) {R : Type} {args : List AV} {objs : List Ob} {K : Res → Option R} {r : R} (h : ct11 m args objs K = some r) : ∃ q : Res, K q = some r ∧ FX Tryd.prog 11 args objs q.1 q.2 ∧ HasBody Tryd.prog 11 := by
  unfold ct11 at h
  split at h
  · rename_i l hl
    obtain ⟨x, hx, hk⟩ := Option.bind_eq_some_iff.1 h
    obtain ⟨h1, h2⟩ := sel5_ok hl
    cases m with
    | zero => cases hx
    | succ m => exact ⟨_, hk, (ref01_Valid_fx m (hct m (Nat.lt_succ_self m)) _ hx).conv h1 h2, ⟨_, Tryd.func11, rfl, by decide⟩⟩
  cases h
theorem ct16_ok (m : Nat) (hct : ∀ k, k < m → ∀ R, CallOK (R := R) Tryd.prog (ct k)) {R : Type} {args : List AV} {objs : List Ob} {K : Res → Option R} {r : R} (h : ct16 m args objs K = some r) : ∃ q : Res, K q = some r ∧ FX Tryd.prog 16 args objs q.1 q.2 ∧ HasBody Tryd.prog 16 := by
  unfold ct16 at h
  split at h
  · rename_i l hl
    obtain ⟨x, hx, hk⟩ := Option.bind_eq_some_iff.1 h
    obtain ⟨h1, h2⟩ := sel6_ok hl
    cases m with
    | zero => cases hx
    | succ m => exact ⟨_, hk, (ref05_digit_fx m (hct m (Nat.lt_succ_self m)) _ hx).conv h1 h2, ⟨_, Tryd.func16, rfl, by decide⟩⟩
  cases h
theorem ct17_ok (m : Nat) (hct : ∀ k, k < m → ∀ R, CallOK (R := R) Tryd.prog (ct k)) {R : Type} {args : List AV} {objs : List Ob} {K : Res → Option R} {r : R} (h : ct17 m args objs K = some r) : ∃ q : Res, K q = some r ∧ FX Tryd.prog 17 args objs q.1 q.2 ∧ HasBody Tryd.prog 17 := by
  unfold ct17 at h
  split at h
  · rename_i l hl
    obtain ⟨x, hx, hk⟩ := Option.bind_eq_some_iff.1 h
    obtain ⟨h1, h2⟩ := sel7_ok hl
    cases m with
    | zero => cases hx
    | succ m => exact ⟨_, hk, (i7_fx m (hct m (Nat.lt_succ_self m)) _ hx).conv h1 h2, ⟨_, Tryd.func17, rfl, by decide⟩⟩
  cases h
theorem ct28_ok (m : Nat) (hct : ∀ k, k < m → ∀ R, CallOK (R := R) Tryd.prog (ct k)) {R : Type} {args : List AV} {objs : List Ob} {K : Res → Option R} {r : R} (h : ct28 m args objs K = some r) : ∃ q : Res, K q = some r ∧ FX Tryd.prog 28 args objs q.1 q.2 ∧ HasBody Tryd.prog 28 := by
  unfold ct28 at h
  split at h
  · rename_i l hl
    obtain ⟨x, hx, hk⟩ := Option.bind_eq_some_iff.1 h
    obtain ⟨h1, h2⟩ := sel7_ok hl
    cases m with
    | zero => cases hx
    | succ m => exact ⟨_, hk, (i8_fx m (hct m (Nat.lt_succ_self m)) _ hx).conv h1 h2, ⟨_, Tryd.func28, rfl, by decide⟩⟩
  cases h
theorem ct18_ok (m : Nat) (hct : ∀ k, k < m → ∀ R, CallOK (R := R) Tryd.prog (ct k)) {R : Type} {args : List AV} {objs : List Ob} {K : Res → Option R} {r : R} (h : ct18 m args objs K = some r) : ∃ q : Res, K q = some r ∧ FX Tryd.prog 18 args objs q.1 q.2 ∧ HasBody Tryd.prog 18 := by
  unfold ct18 at h
  split at h
  · rename_i l hl
    obtain ⟨x, hx, hk⟩ := Option.bind_eq_some_iff.1 h
    obtain ⟨h1, h2⟩ := sel9_ok hl
    cases m with
    | zero => cases hx
    | succ m => exact ⟨_, hk, (i9_fx m (hct m (Nat.lt_succ_self m)) _ _ _ hx).conv h1 h2, ⟨_, Tryd.func18, rfl, by decide⟩⟩
  cases h
theorem ct29_ok (m : Nat) (hct : ∀ k, k < m → ∀ R, CallOK (R := R) Tryd.prog (ct k)) {R : Type} {args : List AV} {objs : List Ob} {K : Res → Option R} {r : R} (h : ct29 m args objs K = some r) : ∃ q : Res, K q = some r ∧ FX Tryd.prog 29 args objs q.1 q.2 ∧ HasBody Tryd.prog 29 := by
  unfold ct29 at h
  split at h
  · rename_i l hl
    obtain ⟨x, hx, hk⟩ := Option.bind_eq_some_iff.1 h
    obtain ⟨h1, h2⟩ := sel10_ok hl
    cases m with
    | zero => cases hx
    | succ m => exact ⟨_, hk, (i10_fx m (hct m (Nat.lt_succ_self m)) _ _ _ hx).conv h1 h2, ⟨_, Tryd.func29, rfl, by decide⟩⟩
  cases h
theorem ct19_ok (m : Nat) (hct : ∀ k, k < m → ∀ R, CallOK (R := R) Tryd.prog (ct k)) {R : Type} {args : List AV} {objs : List Ob} {K : Res → Option R} {r : R} (h : ct19 m args objs K = some r) : ∃ q : Res, K q = some r ∧ FX Tryd.prog 19 args objs q.1 q.2 ∧ HasBody Tryd.prog 19 := by
  unfold ct19 at h
  split at h
  · rename_i l hl
    obtain ⟨x, hx, hk⟩ := Option.bind_eq_some_iff.1 h
    obtain ⟨h1, h2⟩ := sel11_ok hl
    cases m with
    | zero => cases hx
    | succ m => exact ⟨_, hk, (i11_fx m (hct m (Nat.lt_succ_self m)) _ _ _ hx).conv h1 h2, ⟨_, Tryd.func19, rfl, by decide⟩⟩
  cases h
theorem ct30_ok (m : Nat) (hct : ∀ k, k < m → ∀ R, CallOK (R := R) Tryd.prog (ct k)) {R : Type} {args : List AV} {objs : List Ob} {K : Res → Option R} {r : R} (h : ct30 m args objs K = some r) : ∃ q : Res, K q = some r ∧ FX Tryd.prog 30 args objs q.1 q.2 ∧ HasBody Tryd.prog 30 := by
  unfold ct30 at h
  split at h
  · rename_i l hl
    obtain ⟨x, hx, hk⟩ := Option.bind_eq_some_iff.1 h
    obtain ⟨h1, h2⟩ := sel7_ok hl
    cases m with
    | zero => cases hx
    | succ m => exact ⟨_, hk, (i12_fx m (hct m (Nat.lt_succ_self m)) _ hx).conv h1 h2, ⟨_, Tryd.func30, rfl, by decide⟩⟩
  cases h
theorem ct49_ok (m : Nat) (hct : ∀ k, k < m → ∀ R, CallOK (R := R) Tryd.prog (ct k)) {R : Type} {args : List AV} {objs : List Ob} {K : Res → Option R} {r : R} (h : ct49 m args objs K = some r) : ∃ q : Res, K q = some r ∧ FX Tryd.prog 49 args objs q.1 q.2 ∧ HasBody Tryd.prog 49 := by
  unfold ct49 at h
  split at h
  · rename_i l hl
    obtain ⟨x, hx, hk⟩ := Option.bind_eq_some_iff.1 h
    obtain ⟨h1, h2⟩ := sel7_ok hl
    cases m with
    | zero => cases hx
    | succ m => exact ⟨_, hk, (i13_fx m (hct m (Nat.lt_succ_self m)) _ hx).conv h1 h2, ⟨_, Tryd.func49, rfl, by decide⟩⟩
  cases h
theorem ct66_ok (m : Nat) (hct : ∀ k, k < m → ∀ R, CallOK (R := R) Tryd.prog (ct k)) {R : Type} {args : List AV} {objs : List Ob} {K : Res → Option R} {r : R} (h : ct66 m args objs K = some r) : ∃ q : Res, K q = some r ∧ FX Tryd.prog 66 args objs q.1 q.2 ∧ HasBody Tryd.prog 66 := by
  unfold ct66 at h
  split at h
  · rename_i l hl
    obtain ⟨x, hx, hk⟩ := Option.bind_eq_some_iff.1 h
    obtain ⟨h1, h2⟩ := sel7_ok hl
    cases m with
    | zero => cases hx
    | succ m => exact ⟨_, hk, (i14_fx m (hct m (Nat.lt_succ_self m)) _ hx).conv h1 h2, ⟨_, Tryd.func66, rfl, by decide⟩⟩
  cases h
theorem ct78_ok (m : Nat) (hct : ∀ k, k < m → ∀ R, CallOK (R := R) Tryd.prog (ct k)) {R : Type} {args : List AV} {objs : List Ob} {K : Res → Option R} {r : R} (h : ct78 m args objs K = some r) : ∃ q : Res, K q = some r ∧ FX Tryd.prog 78 args objs q.1 q.2 ∧ HasBody Tryd.prog 78 := by
  unfold ct78 at h
  split at h
  · rename_i l hl
    obtain ⟨x, hx, hk⟩ := Option.bind_eq_some_iff.1 h
    obtain ⟨h1, h2⟩ := sel7_ok hl
    cases m with
    | zero => cases hx
    | succ m => exact ⟨_, hk, (i15_fx m (hct m (Nat.lt_succ_self m)) _ hx).conv h1 h2, ⟨_, Tryd.func78, rfl, by decide⟩⟩
  cases h
theorem ct67_ok (m : Nat) (hct : ∀ k, k < m → ∀ R, CallOK (R := R) Tryd.prog (ct k)) {R : Type} {args : List AV} {objs : List Ob} {K : Res → Option R} {r : R} (h : ct67 m args objs K = some r) : ∃ q : Res, K q = some r ∧ FX Tryd.prog 67 args objs q.1 q.2 ∧ HasBody Tryd.prog 67 := by
  unfold ct67 at h
  split at h
  · rename_i l hl
    obtain ⟨x, hx, hk⟩ := Option.bind_eq_some_iff.1 h
    obtain ⟨h1, h2⟩ := sel16_ok hl
    cases m with
    | zero => cases hx
    | succ m => exact ⟨_, hk, (i16_fx m (hct m (Nat.lt_succ_self m)) _ _ hx).conv h1 h2, ⟨_, Tryd.func67, rfl, by decide⟩⟩
  cases h
theorem ct79_ok (m : Nat) (hct : ∀ k, k < m → ∀ R, CallOK (R := R) Tryd.prog (ct k)) {R : Type} {args : List AV} {objs : List Ob} {K : Res → Option R} {r : R} (h : ct79 m args objs K = some r) : ∃ q : Res, K q = some r ∧ FX Tryd.prog 79 args objs q.1 q.2 ∧ HasBody Tryd.prog 79 := by
  unfold ct79 at h
  split at h
  · rename_i l hl
    obtain ⟨x, hx, hk⟩ := Option.bind_eq_some_iff.1 h
    obtain ⟨h1, h2⟩ := sel16_ok hl
    cases m with
    | zero => cases hx
    | succ m => exact ⟨_, hk, (i17_fx m (hct m (Nat.lt_succ_self m)) _ _ hx).conv h1 h2, ⟨_, Tryd.func79, rfl, by decide⟩⟩
  cases h
theorem ct50_ok (m : Nat) (hct : ∀ k, k < m → ∀ R, CallOK (R := R) Tryd.prog (ct k)) {R : Type} {args : List AV} {objs : List Ob} {K : Res → Option R} {r : R} (h : ct50 m args objs K = some r) : ∃ q : Res, K q = some r ∧ FX Tryd.prog 50 args objs q.1 q.2 ∧ HasBody Tryd.prog 50 := by
  unfold ct50 at h
  split at h
  · rename_i l hl
    obtain ⟨x, hx, hk⟩ := Option.bind_eq_some_iff.1 h
    obtain ⟨h1, h2⟩ := sel0_ok hl
    exact ⟨_, hk, (ValidString_fx hx).conv h1 h2, ⟨_, Tryd.func50, rfl, by decide⟩⟩
  cases h
theorem ct31_ok (m : Nat) (hct : ∀ k, k < m → ∀ R, CallOK (R := R) Tryd.prog (ct k)) {R : Type} {args : List AV} {objs : List Ob} {K : Res → Option R} {r : R} (h : ct31 m args objs K = some r) : ∃ q : Res, K q = some r ∧ FX Tryd.prog 31 args objs q.1 q.2 ∧ HasBody Tryd.prog 31 := by
  unfold ct31 at h
  split at h
  · rename_i l hl
    obtain ⟨x, hx, hk⟩ := Option.bind_eq_some_iff.1 h
    obtain ⟨h1, h2⟩ := sel19_ok hl
    cases m with
    | zero => cases hx
    | succ m => exact ⟨_, hk, (i19_fx m (hct m (Nat.lt_succ_self m)) _ _ hx).conv h1 h2, ⟨_, Tryd.func31, rfl, by decide⟩⟩
  cases h
theorem ct32_ok (m : Nat) (hct : ∀ k, k < m → ∀ R, CallOK (R := R) Tryd.prog (ct k)) {R : Type} {args : List AV} {objs : List Ob} {K : Res → Option R} {r : R} (h : ct32 m args objs K = some r) : ∃ q : Res, K q = some r ∧ FX Tryd.prog 32 args objs q.1 q.2 ∧ HasBody Tryd.prog 32 := by
  unfold ct32 at h
  split at h
  · rename_i l hl
    obtain ⟨x, hx, hk⟩ := Option.bind_eq_some_iff.1 h
    obtain ⟨h1, h2⟩ := sel19_ok hl
    cases m with
    | zero => cases hx
    | succ m => exact ⟨_, hk, (i20_fx m (hct m (Nat.lt_succ_self m)) _ _ hx).conv h1 h2, ⟨_, Tryd.func32, rfl, by decide⟩⟩
  cases h
theorem ct51_ok (m : Nat) (hct : ∀ k, k < m → ∀ R, CallOK (R := R) Tryd.prog (ct k)) {R : Type} {args : List AV} {objs : List Ob} {K : Res → Option R} {r : R} (h : ct51 m args objs K = some r) : ∃ q : Res, K q = some r ∧ FX Tryd.prog 51 args objs q.1 q.2 ∧ HasBody Tryd.prog 51 := by
  unfold ct51 at h
  split at h
  · rename_i l hl
    obtain ⟨x, hx, hk⟩ := Option.bind_eq_some_iff.1 h
    obtain ⟨h1, h2⟩ := sel21_ok hl
    cases m with
    | zero => cases hx
    | succ m => exact ⟨_, hk, (i21_fx m (hct m (Nat.lt_succ_self m)) _ _ hx).conv h1 h2, ⟨_, Tryd.func51, rfl, by decide⟩⟩
  cases h
theorem ct61_ok (m : Nat) (hct : ∀ k, k < m → ∀ R, CallOK (R := R) Tryd.prog (ct k)) {R : Type} {args : List AV} {objs : List Ob} {K : Res → Option R} {r : R} (h : ct61 m args objs K = some r) : ∃ q : Res, K q = some r ∧ FX Tryd.prog 61 args objs q.1 q.2 ∧ HasBody Tryd.prog 61 := by
  unfold ct61 at h
  split at h
  · rename_i l hl
    obtain ⟨x, hx, hk⟩ := Option.bind_eq_some_iff.1 h
    obtain ⟨h1, h2⟩ := sel0_ok hl
    cases m with
    | zero => cases hx
    | succ m => exact ⟨_, hk, (notation_isField_fx m (hct m (Nat.lt_succ_self m)) _ hx).conv h1 h2, ⟨_, Tryd.func61, rfl, by decide⟩⟩
  cases h
theorem ct52_ok (m : Nat) (hct : ∀ k, k < m → ∀ R, CallOK (R := R) Tryd.prog (ct k)) {R : Type} {args : List AV} {objs : List Ob} {K : Res → Option R} {r : R} (h : ct52 m args objs K = some r) : ∃ q : Res, K q = some r ∧ FX Tryd.prog 52 args objs q.1 q.2 ∧ HasBody Tryd.prog 52 := by
  unfold ct52 at h
  split at h
  · rename_i l hl
    obtain ⟨x, hx, hk⟩ := Option.bind_eq_some_iff.1 h
    obtain ⟨h1, h2⟩ := sel0_ok hl
    cases m with
    | zero => cases hx
    | succ m => exact ⟨_, hk, (notation_isSpecial_fx m (hct m (Nat.lt_succ_self m)) _ hx).conv h1 h2, ⟨_, Tryd.func52, rfl, by decide⟩⟩
  cases h
theorem ct53_ok (m : Nat) (hct : ∀ k, k < m → ∀ R, CallOK (R := R) Tryd.prog (ct k)) {R : Type} {args : List AV} {objs : List Ob} {K : Res → Option R} {r : R} (h : ct53 m args objs K = some r) : ∃ q : Res, K q = some r ∧ FX Tryd.prog 53 args objs q.1 q.2 ∧ HasBody Tryd.prog 53 := by
  unfold ct53 at h
  split at h
  · rename_i l hl
    obtain ⟨x, hx, hk⟩ := Option.bind_eq_some_iff.1 h
    obtain ⟨h1, h2⟩ := sel24_ok hl
    cases m with
    | zero => cases hx
    | succ m => exact ⟨_, hk, (i24_fx m (hct m (Nat.lt_succ_self m)) _ hx).conv h1 h2, ⟨_, Tryd.func53, rfl, by decide⟩⟩
  cases h
theorem ct69_ok (m : Nat) (hct : ∀ k, k < m → ∀ R, CallOK (R := R) Tryd.prog (ct k)) {R : Type} {args : List AV} {objs : List Ob} {K : Res → Option R} {r : R} (h : ct69 m args objs K = some r) : ∃ q : Res, K q = some r ∧ FX Tryd.prog 69 args objs q.1 q.2 ∧ HasBody Tryd.prog 69 := by
  unfold ct69 at h
  split at h
  · rename_i l hl
    obtain ⟨x, hx, hk⟩ := Option.bind_eq_some_iff.1 h
    obtain ⟨h1, h2⟩ := sel5_ok hl
    cases m with
    | zero => cases hx
    | succ m => exact ⟨_, hk, (notation_fromHex_fx m (hct m (Nat.lt_succ_self m)) _ hx).conv h1 h2, ⟨_, Tryd.func69, rfl, by decide⟩⟩
  cases h
theorem ct33_ok (m : Nat) (hct : ∀ k, k < m → ∀ R, CallOK (R := R) Tryd.prog (ct k)) {R : Type} {args : List AV} {objs : List Ob} {K : Res → Option R} {r : R} (h : ct33 m args objs K = some r) : ∃ q : Res, K q = some r ∧ FX Tryd.prog 33 args objs q.1 q.2 ∧ HasBody Tryd.prog 33 := by
  unfold ct33 at h
  split at h
  · rename_i l hl
    obtain ⟨x, hx, hk⟩ := Option.bind_eq_some_iff.1 h
    obtain ⟨h1, h2⟩ := sel26_ok hl
    cases m with
    | zero => cases hx
    | succ m => exact ⟨_, hk, (i26_fx m (hct m (Nat.lt_succ_self m)) _ _ hx).conv h1 h2, ⟨_, Tryd.func33, rfl, by decide⟩⟩
  cases h
theorem ct34_ok (m : Nat) (hct : ∀ k, k < m → ∀ R, CallOK (R := R) Tryd.prog (ct k)) {R : Type} {args : List AV} {objs : List Ob} {K : Res → Option R} {r : R} (h : ct34 m args objs K = some r) : ∃ q : Res, K q = some r ∧ FX Tryd.prog 34 args objs q.1 q.2 ∧ HasBody Tryd.prog 34 := by
  unfold ct34 at h
  split at h
  · rename_i l hl
    obtain ⟨x, hx, hk⟩ := Option.bind_eq_some_iff.1 h
    obtain ⟨h1, h2⟩ := sel7_ok hl
    cases m with
    | zero => cases hx
    | succ m => exact ⟨_, hk, (i27_fx m (hct m (Nat.lt_succ_self m)) _ hx).conv h1 h2, ⟨_, Tryd.func34, rfl, by decide⟩⟩
  cases h
theorem ct54_ok (m : Nat) (hct : ∀ k, k < m → ∀ R, CallOK (R := R) Tryd.prog (ct k)) {R : Type} {args : List AV} {objs : List Ob} {K : Res → Option R} {r : R} (h : ct54 m args objs K = some r) : ∃ q : Res, K q = some r ∧ FX Tryd.prog 54 args objs q.1 q.2 ∧ HasBody Tryd.prog 54 := by
  unfold ct54 at h
  split at h
  · rename_i l hl
    obtain ⟨x, hx, hk⟩ := Option.bind_eq_some_iff.1 h
    obtain ⟨h1, h2⟩ := sel28_ok hl
    exact ⟨_, hk, (ParseInt_fx hx).conv h1 h2, ⟨_, Tryd.func54, rfl, by decide⟩⟩
  cases h
theorem ct20_ok (m : Nat) (hct : ∀ k, k < m → ∀ R, CallOK (R := R) Tryd.prog (ct k)) {R : Type} {args : List AV} {objs : List Ob} {K : Res → Option R} {r : R} (h : ct20 m args objs K = some r) : ∃ q : Res, K q = some r ∧ FX Tryd.prog 20 args objs q.1 q.2 ∧ HasBody Tryd.prog 20 := by
  unfold ct20 at h
  split at h
  · rename_i l hl
    obtain ⟨x, hx, hk⟩ := Option.bind_eq_some_iff.1 h
    obtain ⟨h1, h2⟩ := sel5_ok hl
    cases m with
    | zero => cases hx
    | succ m => exact ⟨_, hk, (ref01_Depth_fx m (hct m (Nat.lt_succ_self m)) _ hx).conv h1 h2, ⟨_, Tryd.func20, rfl, by decide⟩⟩
  cases h
theorem ct21_ok (m : Nat) (hct : ∀ k, k < m → ∀ R, CallOK (R := R) Tryd.prog (ct k)) {R : Type} {args : List AV} {objs : List Ob} {K : Res → Option R} {r : R} (h : ct21 m args objs K = some r) : ∃ q : Res, K q = some r ∧ FX Tryd.prog 21 args objs q.1 q.2 ∧ HasBody Tryd.prog 21 := by
  unfold ct21 at h
  split at h
  · rename_i l hl
    obtain ⟨x, hx, hk⟩ := Option.bind_eq_some_iff.1 h
    obtain ⟨h1, h2⟩ := sel5_ok hl
    cases m with
    | zero => cases hx
    | succ m => exact ⟨_, hk, (ref01_Nodes_fx m (hct m (Nat.lt_succ_self m)) _ hx).conv h1 h2, ⟨_, Tryd.func21, rfl, by decide⟩⟩
  cases h
theorem ct22_ok (m : Nat) (hct : ∀ k, k < m → ∀ R, CallOK (R := R) Tryd.prog (ct k)) {R : Type} {args : List AV} {objs : List Ob} {K : Res → Option R} {r : R} (h : ct22 m args objs K = some r) : ∃ q : Res, K q = some r ∧ FX Tryd.prog 22 args objs q.1 q.2 ∧ HasBody Tryd.prog 22 := by
  unfold ct22 at h
  split at h
  · rename_i l hl
    obtain ⟨x, hx, hk⟩ := Option.bind_eq_some_iff.1 h
    obtain ⟨h1, h2⟩ := sel31_ok hl
    cases m with
    | zero => cases hx
    | succ m => exact ⟨_, hk, (ref01_formed_fx m (hct m (Nat.lt_succ_self m)) _ _ hx).conv h1 h2, ⟨_, Tryd.func22, rfl, by decide⟩⟩
  cases h
theorem ct35_ok (m : Nat) (hct : ∀ k, k < m → ∀ R, CallOK (R := R) Tryd.prog (ct k)) {R : Type} {args : List AV} {objs : List Ob} {K : Res → Option R} {r : R} (h : ct35 m args objs K = some r) : ∃ q : Res, K q = some r ∧ FX Tryd.prog 35 args objs q.1 q.2 ∧ HasBody Tryd.prog 35 := by
  unfold ct35 at h
  split at h
  · rename_i l hl
    obtain ⟨x, hx, hk⟩ := Option.bind_eq_some_iff.1 h
    obtain ⟨h1, h2⟩ := sel32_ok hl
    cases m with
    | zero => cases hx
    | succ m => exact ⟨_, hk, (ref01_levels_fx m (hct m (Nat.lt_succ_self m)) _ _ hx).conv h1 h2, ⟨_, Tryd.func35, rfl, by decide⟩⟩
  cases h
theorem ct36_ok (m : Nat) (hct : ∀ k, k < m → ∀ R, CallOK (R := R) Tryd.prog (ct k)) {R : Type} {args : List AV} {objs : List Ob} {K : Res → Option R} {r : R} (h : ct36 m args objs K = some r) : ∃ q : Res, K q = some r ∧ FX Tryd.prog 36 args objs q.1 q.2 ∧ HasBody Tryd.prog 36 := by
  unfold ct36 at h
  split at h
  · rename_i l hl
    obtain ⟨x, hx, hk⟩ := Option.bind_eq_some_iff.1 h
    obtain ⟨h1, h2⟩ := sel32_ok hl
    cases m with
    | zero => cases hx
    | succ m => exact ⟨_, hk, (ref01_count_fx m (hct m (Nat.lt_succ_self m)) _ _ hx).conv h1 h2, ⟨_, Tryd.func36, rfl, by decide⟩⟩
  cases h
theorem ct37_ok (m : Nat) (hct : ∀ k, k < m → ∀ R, CallOK (R := R) Tryd.prog (ct k)) {R : Type} {args : List AV} {objs : List Ob} {K : Res → Option R} {r : R} (h : ct37 m args objs K = some r) : ∃ q : Res, K q = some r ∧ FX Tryd.prog 37 args objs q.1 q.2 ∧ HasBody Tryd.prog 37 := by
  unfold ct37 at h
  split at h
  · rename_i l hl
    obtain ⟨x, hx, hk⟩ := Option.bind_eq_some_iff.1 h
    obtain ⟨h1, h2⟩ := sel0_ok hl
    cases m with
    | zero => cases hx
    | succ m => exact ⟨_, hk, (ref01_UTF8_fx m (hct m (Nat.lt_succ_self m)) _ hx).conv h1 h2, ⟨_, Tryd.func37, rfl, by decide⟩⟩
  cases h
theorem ct38_ok (m : Nat) (hct : ∀ k, k < m → ∀ R, CallOK (R := R) Tryd.prog (ct k)) {R : Type} {args : List AV} {objs : List Ob} {K : Res → Option R} {r : R} (h : ct38 m args objs K = some r) : ∃ q : Res, K q = some r ∧ FX Tryd.prog 38 args objs q.1 q.2 ∧ HasBody Tryd.prog 38 := by
  unfold ct38 at h
  split at h
  · rename_i l hl
    obtain ⟨x, hx, hk⟩ := Option.bind_eq_some_iff.1 h
    obtain ⟨h1, h2⟩ := sel31_ok hl
    cases m with
    | zero => cases hx
    | succ m => exact ⟨_, hk, (ref01_fields_fx m (hct m (Nat.lt_succ_self m)) _ _ hx).conv h1 h2, ⟨_, Tryd.func38, rfl, by decide⟩⟩
  cases h
theorem ct55_ok (m : Nat) (hct : ∀ k, k < m → ∀ R, CallOK (R := R) Tryd.prog (ct k)) {R : Type} {args : List AV} {objs : List Ob} {K : Res → Option R} {r : R} (h : ct55 m args objs K = some r) : ∃ q : Res, K q = some r ∧ FX Tryd.prog 55 args objs q.1 q.2 ∧ HasBody Tryd.prog 55 := by
  unfold ct55 at h
  split at h
  · rename_i l hl
    obtain ⟨x, hx, hk⟩ := Option.bind_eq_some_iff.1 h
    obtain ⟨h1, h2⟩ := sel5_ok hl
    cases m with
    | zero => cases hx
    | succ m => exact ⟨_, hk, (ref01_Parts_fx m (hct m (Nat.lt_succ_self m)) _ hx).conv h1 h2, ⟨_, Tryd.func55, rfl, by decide⟩⟩
  cases h
theorem ct56_ok (m : Nat) (hct : ∀ k, k < m → ∀ R, CallOK (R := R) Tryd.prog (ct k)) {R : Type} {args : List AV} {objs : List Ob} {K : Res → Option R} {r : R} (h : ct56 m args objs K = some r) : ∃ q : Res, K q = some r ∧ FX Tryd.prog 56 args objs q.1 q.2 ∧ HasBody Tryd.prog 56 := by
  unfold ct56 at h
  split at h
  · rename_i l hl
    obtain ⟨x, hx, hk⟩ := Option.bind_eq_some_iff.1 h
    obtain ⟨h1, h2⟩ := sel28_ok hl
    cases m with
    | zero => cases hx
    | succ m => exact ⟨_, hk, (ref01_tail_fx m (hct m (Nat.lt_succ_self m)) _ _ _ hx).conv h1 h2, ⟨_, Tryd.func56, rfl, by decide⟩⟩
  cases h
theorem ct57_ok (m : Nat) (hct : ∀ k, k < m → ∀ R, CallOK (R := R) Tryd.prog (ct k)) {R : Type} {args : List AV} {objs : List Ob} {K : Res → Option R} {r : R} (h : ct57 m args objs K = some r) : ∃ q : Res, K q = some r ∧ FX Tryd.prog 57 args objs q.1 q.2 ∧ HasBody Tryd.prog 57 := by
  unfold ct57 at h
  split at h
  · rename_i l hl
    obtain ⟨x, hx, hk⟩ := Option.bind_eq_some_iff.1 h
    obtain ⟨h1, h2⟩ := sel0_ok hl
    cases m with
    | zero => cases hx
    | succ m => exact ⟨_, hk, (ref01_Name_fx m (hct m (Nat.lt_succ_self m)) _ hx).conv h1 h2, ⟨_, Tryd.func57, rfl, by decide⟩⟩
  cases h
theorem ct58_ok (m : Nat) (hct : ∀ k, k < m → ∀ R, CallOK (R := R) Tryd.prog (ct k)) {R : Type} {args : List AV} {objs : List Ob} {K : Res → Option R} {r : R} (h : ct58 m args objs K = some r) : ∃ q : Res, K q = some r ∧ FX Tryd.prog 58 args objs q.1 q.2 ∧ HasBody Tryd.prog 58 := by
  unfold ct58 at h
  split at h
  · rename_i l hl
    obtain ⟨x, hx, hk⟩ := Option.bind_eq_some_iff.1 h
    obtain ⟨h1, h2⟩ := sel0_ok hl
    cases m with
    | zero => cases hx
    | succ m => exact ⟨_, hk, (ref01_wide_fx m (hct m (Nat.lt_succ_self m)) _ hx).conv h1 h2, ⟨_, Tryd.func58, rfl, by decide⟩⟩
  cases h
set_option maxHeartbeats 4000000 in
theorem ct_ok : ∀ (m : Nat) (R : Type), CallOK (R := R) Tryd.prog (ct m) := by
  intro m
  induction m using Nat.strongRecOn with
  | _ m ih =>
    intro R f args objs K r h
    unfold ct at h
    rcases bset_some h with ⟨hb, h1⟩ | ⟨_, h⟩
    · have e := beq_eq hb
      subst e
      exact ct3_ok m ih h1
    rcases bset_some h with ⟨hb, h1⟩ | ⟨_, h⟩
    · have e := beq_eq hb
      subst e
      exact ct7_ok m ih h1
    rcases bset_some h with ⟨hb, h1⟩ | ⟨_, h⟩
    · have e := beq_eq hb
      subst e
      exact ct8_ok m ih h1
    rcases bset_some h with ⟨hb, h1⟩ | ⟨_, h⟩
    · have e := beq_eq hb
      subst e
      exact ct9_ok m ih h1
    rcases bset_some h with ⟨hb, h1⟩ | ⟨_, h⟩
    · have e := beq_eq hb
      subst e
      exact ct10_ok m ih h1
    rcases bset_some h with ⟨hb, h1⟩ | ⟨_, h⟩
    · have e := beq_eq hb
      subst e
      exact ct11_ok m ih h1
    rcases bset_some h with ⟨hb, h1⟩ | ⟨_, h⟩
    · have e := beq_eq hb
      subst e
      exact ct16_ok m ih h1
    rcases bset_some h with ⟨hb, h1⟩ | ⟨_, h⟩
    · have e := beq_eq hb
      subst e
      exact ct17_ok m ih h1
    rcases bset_some h with ⟨hb, h1⟩ | ⟨_, h⟩
    · have e := beq_eq hb
      subst e
      exact ct28_ok m ih h1
    rcases bset_some h with ⟨hb, h1⟩ | ⟨_, h⟩
    · have e := beq_eq hb
      subst e
      exact ct18_ok m ih h1
    rcases bset_some h with ⟨hb, h1⟩ | ⟨_, h⟩
    · have e := beq_eq hb
      subst e
      exact ct29_ok m ih h1
    rcases bset_some h with ⟨hb, h1⟩ | ⟨_, h⟩
    · have e := beq_eq hb
      subst e
      exact ct19_ok m ih h1
    rcases bset_some h with ⟨hb, h1⟩ | ⟨_, h⟩
    · have e := beq_eq hb
      subst e
      exact ct30_ok m ih h1
    rcases bset_some h with ⟨hb, h1⟩ | ⟨_, h⟩
    · have e := beq_eq hb
      subst e
      exact ct49_ok m ih h1
    rcases bset_some h with ⟨hb, h1⟩ | ⟨_, h⟩
    · have e := beq_eq hb
      subst e
      exact ct66_ok m ih h1
    rcases bset_some h with ⟨hb, h1⟩ | ⟨_, h⟩
    · have e := beq_eq hb
      subst e
      exact ct78_ok m ih h1
    rcases bset_some h with ⟨hb, h1⟩ | ⟨_, h⟩
    · have e := beq_eq hb
      subst e
      exact ct67_ok m ih h1
    rcases bset_some h with ⟨hb, h1⟩ | ⟨_, h⟩
    · have e := beq_eq hb
      subst e
      exact ct79_ok m ih h1
    rcases bset_some h with ⟨hb, h1⟩ | ⟨_, h⟩
    · have e := beq_eq hb
      subst e
      exact ct50_ok m ih h1
    rcases bset_some h with ⟨hb, h1⟩ | ⟨_, h⟩
    · have e := beq_eq hb
      subst e
      exact ct31_ok m ih h1
    rcases bset_some h with ⟨hb, h1⟩ | ⟨_, h⟩
    · have e := beq_eq hb
      subst e
      exact ct32_ok m ih h1
    rcases bset_some h with ⟨hb, h1⟩ | ⟨_, h⟩
    · have e := beq_eq hb
      subst e
      exact ct51_ok m ih h1
    rcases bset_some h with ⟨hb, h1⟩ | ⟨_, h⟩
    · have e := beq_eq hb
      subst e
      exact ct61_ok m ih h1
    rcases bset_some h with ⟨hb, h1⟩ | ⟨_, h⟩
    · have e := beq_eq hb
      subst e
      exact ct52_ok m ih h1
    rcases bset_some h with ⟨hb, h1⟩ | ⟨_, h⟩
    · have e := beq_eq hb
      subst e
      exact ct53_ok m ih h1
    rcases bset_some h with ⟨hb, h1⟩ | ⟨_, h⟩
    · have e := beq_eq hb
      subst e
      exact ct69_ok m ih h1
    rcases bset_some h with ⟨hb, h1⟩ | ⟨_, h⟩
    · have e := beq_eq hb
      subst e
      exact ct33_ok m ih h1
    rcases bset_some h with ⟨hb, h1⟩ | ⟨_, h⟩
    · have e := beq_eq hb
      subst e
      exact ct34_ok m ih h1
    rcases bset_some h with ⟨hb, h1⟩ | ⟨_, h⟩
    · have e := beq_eq hb
      subst e
      exact ct54_ok m ih h1
    rcases bset_some h with ⟨hb, h1⟩ | ⟨_, h⟩
    · have e := beq_eq hb
      subst e
      exact ct20_ok m ih h1
    rcases bset_some h with ⟨hb, h1⟩ | ⟨_, h⟩
    · have e := beq_eq hb
      subst e
      exact ct21_ok m ih h1
    rcases bset_some h with ⟨hb, h1⟩ | ⟨_, h⟩
    · have e := beq_eq hb
      subst e
      exact ct22_ok m ih h1
    rcases bset_some h with ⟨hb, h1⟩ | ⟨_, h⟩
    · have e := beq_eq hb
      subst e
      exact ct35_ok m ih h1
    rcases bset_some h with ⟨hb, h1⟩ | ⟨_, h⟩
    · have e := beq_eq hb
      subst e
      exact ct36_ok m ih h1
    rcases bset_some h with ⟨hb, h1⟩ | ⟨_, h⟩
    · have e := beq_eq hb
      subst e
      exact ct37_ok m ih h1
    rcases bset_some h with ⟨hb, h1⟩ | ⟨_, h⟩
    · have e := beq_eq hb
      subst e
      exact ct38_ok m ih h1
    rcases bset_some h with ⟨hb, h1⟩ | ⟨_, h⟩
    · have e := beq_eq hb
      subst e
      exact ct55_ok m ih h1
    rcases bset_some h with ⟨hb, h1⟩ | ⟨_, h⟩
    · have e := beq_eq hb
      subst e
      exact ct56_ok m ih h1
    rcases bset_some h with ⟨hb, h1⟩ | ⟨_, h⟩
    · have e := beq_eq hb
      subst e
      exact ct57_ok m ih h1
    rcases bset_some h with ⟨hb, h1⟩ | ⟨_, h⟩
    · have e := beq_eq hb
      subst e
      exact ct58_ok m ih h1
    cases h
end Go.Proofs.YtmejbpmceflcjaaDoor
