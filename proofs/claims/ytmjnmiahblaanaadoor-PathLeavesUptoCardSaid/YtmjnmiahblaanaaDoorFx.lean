/- Generated: the contracts. -/
import Derived.Test.YtmjnmiahblaanaaDoorEq0
import Derived.Test.YtmjnmiahblaanaaDoorEq1
set_option linter.unusedVariables false
set_option linter.unusedSimpArgs false
namespace Go.Proofs.YtmjnmiahblaanaaDoor
open Go.Am
set_option maxRecDepth 100000
theorem mixed : Tryd.prog.follows .mixedOrders = true := by kernel_rfl
theorem path_Text_fx (m : Nat) (hct : ∀ R, CallOK (R := R) Tryd.prog (ct m)) (a0 : List Dt) {r : ByteArray} (h : path_Text (m + 1) a0 = some r) : FX Tryd.prog 16 [(.dat 23 (.lst a0))] [] (.dat 9 (.str r)) [] :=
  FX_of (q := ((.dat 9 (.str r)), [])) (E := env) (m := m + 1) (dec := d10) jn_ok (hct _) mixed Tryd.func16 rfl (Nat.le_of_ble_eq_true rfl) (fun b hb => d10_sim hb) ((path_Text_eq m a0).trans h)
theorem ref04_Text_fx (m : Nat) (hct : ∀ R, CallOK (R := R) Tryd.prog (ct m)) (a0 : List Dt) {r : ByteArray} (h : ref04_Text (m + 1) a0 = some r) : FX Tryd.prog 19 [(.dat 23 (.lst a0))] [] (.dat 9 (.str r)) [] :=
  FX_of (q := ((.dat 9 (.str r)), [])) (E := env) (m := m + 1) (dec := d13) jn_ok (hct _) mixed Tryd.func19 rfl (Nat.le_of_ble_eq_true rfl) (fun b hb => d13_sim hb) ((ref04_Text_eq m a0).trans h)
theorem path_Number_fx (m : Nat) (hct : ∀ R, CallOK (R := R) Tryd.prog (ct m)) (a0 : ByteArray) {r : Int × Bool} (h : path_Number (m + 1) a0 = some r) : FX Tryd.prog 20 [(.dat 9 (.str a0))] [] (.tup [(.dat 3 (.int r.1)), (.dat 4 (.bool r.2))]) [] :=
  FX_of (q := ((.tup [(.dat 3 (.int r.1)), (.dat 4 (.bool r.2))]), [])) (E := env) (m := m + 1) (dec := d14) jn_ok (hct _) mixed Tryd.func20 rfl (Nat.le_of_ble_eq_true rfl) (fun b hb => d14_sim hb) ((path_Number_eq m a0).trans h)
theorem ref04_Number_fx (m : Nat) (hct : ∀ R, CallOK (R := R) Tryd.prog (ct m)) (a0 : ByteArray) {r : Int × Bool} (h : ref04_Number (m + 1) a0 = some r) : FX Tryd.prog 21 [(.dat 9 (.str a0))] [] (.tup [(.dat 3 (.int r.1)), (.dat 4 (.bool r.2))]) [] :=
  FX_of (q := ((.tup [(.dat 3 (.int r.1)), (.dat 4 (.bool r.2))]), [])) (E := env) (m := m + 1) (dec := d15) jn_ok (hct _) mixed Tryd.func21 rfl (Nat.le_of_ble_eq_true rfl) (fun b hb => d15_sim hb) ((ref04_Number_eq m a0).trans h)
theorem law04_PathNumbers_fx (m : Nat) (hct : ∀ R, CallOK (R := R) Tryd.prog (ct m)) (a0 : ByteArray) {r : Bool} (h : law04_PathNumbers (m + 1) a0 = some r) : FX Tryd.prog 5 [(.dat 9 (.str a0))] [] (.dat 4 (.bool r)) [] :=
  FX_of (q := ((.dat 4 (.bool r)), [])) (E := env) (m := m + 1) (dec := d2) jn_ok (hct _) mixed Tryd.func5 rfl (Nat.le_of_ble_eq_true rfl) (fun b hb => d2_sim hb) ((law04_PathNumbers_eq m a0).trans h)
theorem ref01_Same_fx (m : Nat) (hct : ∀ R, CallOK (R := R) Tryd.prog (ct m)) (a0 : Dt) (a1 : Dt) {r : Bool} (h : ref01_Same (m + 1) a0 a1 = some r) : FX Tryd.prog 24 [(.dat 36 a0), (.dat 36 a1)] [] (.dat 4 (.bool r)) [] :=
  FX_of (q := ((.dat 4 (.bool r)), [])) (E := env) (m := m + 1) (dec := d24) jn_ok (hct _) mixed Tryd.func24 rfl (Nat.le_of_ble_eq_true rfl) (fun b hb => d24_sim hb) ((ref01_Same_eq m a0 a1).trans h)
theorem ref01_SameList_fx (m : Nat) (hct : ∀ R, CallOK (R := R) Tryd.prog (ct m)) (a0 : List Dt) (a1 : List Dt) {r : Bool} (h : ref01_SameList (m + 1) a0 a1 = some r) : FX Tryd.prog 29 [(.dat 33 (.lst a0)), (.dat 33 (.lst a1))] [] (.dat 4 (.bool r)) [] :=
  FX_of (q := ((.dat 4 (.bool r)), [])) (E := env) (m := m + 1) (dec := d21) jn_ok (hct _) mixed Tryd.func29 rfl (Nat.le_of_ble_eq_true rfl) (fun b hb => d21_sim hb) ((ref01_SameList_eq m a0 a1).trans h)
theorem ref04_split_fx (m : Nat) (hct : ∀ R, CallOK (R := R) Tryd.prog (ct m)) (a0 : ByteArray) {r : List Dt} (h : ref04_split (m + 1) a0 = some r) : FX Tryd.prog 43 [(.dat 9 (.str a0))] [] (.dat 23 (.lst r)) [] :=
  FX_of (q := ((.dat 23 (.lst r)), [])) (E := env) (m := m + 1) (dec := d27) jn_ok (hct _) mixed Tryd.func43 rfl (Nat.le_of_ble_eq_true rfl) (fun b hb => d27_sim hb) ((ref04_split_eq m a0).trans h)
theorem ref04_prefix_fx (m : Nat) (hct : ∀ R, CallOK (R := R) Tryd.prog (ct m)) (a0 : List Dt) (a1 : List Dt) {r : Bool} (h : ref04_prefix (m + 1) a0 a1 = some r) : FX Tryd.prog 44 [(.dat 23 (.lst a0)), (.dat 23 (.lst a1))] [] (.dat 4 (.bool r)) [] :=
  FX_of (q := ((.dat 4 (.bool r)), [])) (E := env) (m := m + 1) (dec := d28) jn_ok (hct _) mixed Tryd.func44 rfl (Nat.le_of_ble_eq_true rfl) (fun b hb => d28_sim hb) ((ref04_prefix_eq m a0 a1).trans h)
theorem ref04_Same_fx (m : Nat) (hct : ∀ R, CallOK (R := R) Tryd.prog (ct m)) (a0 : List Dt) (a1 : List Dt) {r : Bool} (h : ref04_Same (m + 1) a0 a1 = some r) : FX Tryd.prog 15 [(.dat 23 (.lst a0)), (.dat 23 (.lst a1))] [] (.dat 4 (.bool r)) [] :=
  FX_of (q := ((.dat 4 (.bool r)), [])) (E := env) (m := m + 1) (dec := d9) jn_ok (hct _) mixed Tryd.func15 rfl (Nat.le_of_ble_eq_true rfl) (fun b hb => d9_sim hb) ((ref04_Same_eq m a0 a1).trans h)
theorem ref04_Overlap_fx (m : Nat) (hct : ∀ R, CallOK (R := R) Tryd.prog (ct m)) (a0 : List Dt) (a1 : List Dt) {r : Bool} (h : ref04_Overlap (m + 1) a0 a1 = some r) : FX Tryd.prog 35 [(.dat 23 (.lst a0)), (.dat 23 (.lst a1))] [] (.dat 4 (.bool r)) [] :=
  FX_of (q := ((.dat 4 (.bool r)), [])) (E := env) (m := m + 1) (dec := d17) jn_ok (hct _) mixed Tryd.func35 rfl (Nat.le_of_ble_eq_true rfl) (fun b hb => d17_sim hb) ((ref04_Overlap_eq m a0 a1).trans h)
theorem path_notName_fx (m : Nat) (hct : ∀ R, CallOK (R := R) Tryd.prog (ct m)) (a0 : ByteArray) {r : Bool} (h : path_notName (m + 1) a0 = some r) : FX Tryd.prog 47 [(.dat 9 (.str a0))] [] (.dat 4 (.bool r)) [] :=
  FX_of (q := ((.dat 4 (.bool r)), [])) (E := env) (m := m + 1) (dec := d32) jn_ok (hct _) mixed Tryd.func47 rfl (Nat.le_of_ble_eq_true rfl) (fun b hb => d32_sim hb) ((path_notName_eq m a0).trans h)
theorem slices_IndexFunc_i31_fx (m : Nat) (hct : ∀ R, CallOK (R := R) Tryd.prog (ct m)) (a0 : List Dt) {r : Int} (h : slices_IndexFunc_i31 (m + 1) a0 = some r) : FX Tryd.prog 69 [(.dat 23 (.lst a0)), (.fn 47 [])] [] (.dat 3 (.int r)) [] :=
  FX_of (q := ((.dat 3 (.int r)), [])) (E := env) (m := m + 1) (dec := d31) jn_ok (hct _) mixed Tryd.func69 rfl (Nat.le_of_ble_eq_true rfl) (fun b hb => d31_sim hb) ((slices_IndexFunc_i31_eq m a0).trans h)
theorem slices_ContainsFunc_i30_fx (m : Nat) (hct : ∀ R, CallOK (R := R) Tryd.prog (ct m)) (a0 : List Dt) {r : Bool} (h : slices_ContainsFunc_i30 (m + 1) a0 = some r) : FX Tryd.prog 46 [(.dat 23 (.lst a0)), (.fn 47 [])] [] (.dat 4 (.bool r)) [] :=
  FX_of (q := ((.dat 4 (.bool r)), [])) (E := env) (m := m + 1) (dec := d30) jn_ok (hct _) mixed Tryd.func46 rfl (Nat.le_of_ble_eq_true rfl) (fun b hb => d30_sim hb) ((slices_ContainsFunc_i30_eq m a0).trans h)
theorem path_Valid_fx (m : Nat) (hct : ∀ R, CallOK (R := R) Tryd.prog (ct m)) (a0 : List Dt) {r : Bool} (h : path_Valid (m + 1) a0 = some r) : FX Tryd.prog 17 [(.dat 23 (.lst a0))] [] (.dat 4 (.bool r)) [] :=
  FX_of (q := ((.dat 4 (.bool r)), [])) (E := env) (m := m + 1) (dec := d11) jn_ok (hct _) mixed Tryd.func17 rfl (Nat.le_of_ble_eq_true rfl) (fun b hb => d11_sim hb) ((path_Valid_eq m a0).trans h)
theorem path_Parse_fx (m : Nat) (hct : ∀ R, CallOK (R := R) Tryd.prog (ct m)) (a0 : ByteArray) {r : List Dt × Int} (h : path_Parse (m + 1) a0 = some r) : FX Tryd.prog 13 [(.dat 9 (.str a0))] [] (.tup [(.dat 23 (.lst r.1)), (.dat 24 (.int r.2))]) [] :=
  FX_of (q := ((.tup [(.dat 23 (.lst r.1)), (.dat 24 (.int r.2))]), [])) (E := env) (m := m + 1) (dec := d7) jn_ok (hct _) mixed Tryd.func13 rfl (Nat.le_of_ble_eq_true rfl) (fun b hb => d7_sim hb) ((path_Parse_eq m a0).trans h)
theorem ref01_Name_fx (m : Nat) (hct : ∀ R, CallOK (R := R) Tryd.prog (ct m)) (a0 : ByteArray) {r : Bool} (h : ref01_Name (m + 1) a0 = some r) : FX Tryd.prog 48 [(.dat 9 (.str a0))] [] (.dat 4 (.bool r)) [] :=
  FX_of (q := ((.dat 4 (.bool r)), [])) (E := env) (m := m + 1) (dec := d33) jn_ok (hct _) mixed Tryd.func48 rfl (Nat.le_of_ble_eq_true rfl) (fun b hb => d33_sim hb) ((ref01_Name_eq m a0).trans h)
theorem ref04_Valid_fx (m : Nat) (hct : ∀ R, CallOK (R := R) Tryd.prog (ct m)) (a0 : List Dt) {r : Bool} (h : ref04_Valid (m + 1) a0 = some r) : FX Tryd.prog 18 [(.dat 23 (.lst a0))] [] (.dat 4 (.bool r)) [] :=
  FX_of (q := ((.dat 4 (.bool r)), [])) (E := env) (m := m + 1) (dec := d12) jn_ok (hct _) mixed Tryd.func18 rfl (Nat.le_of_ble_eq_true rfl) (fun b hb => d12_sim hb) ((ref04_Valid_eq m a0).trans h)
theorem law04_PathTexts_fx (m : Nat) (hct : ∀ R, CallOK (R := R) Tryd.prog (ct m)) (a0 : List Dt) {r : Bool} (h : law04_PathTexts (m + 1) a0 = some r) : FX Tryd.prog 4 [(.dat 23 (.lst a0))] [] (.dat 4 (.bool r)) [] :=
  FX_of (q := ((.dat 4 (.bool r)), [])) (E := env) (m := m + 1) (dec := d1) jn_ok (hct _) mixed Tryd.func4 rfl (Nat.le_of_ble_eq_true rfl) (fun b hb => d1_sim hb) ((law04_PathTexts_eq m a0).trans h)
theorem ref04_Parse_fx (m : Nat) (hct : ∀ R, CallOK (R := R) Tryd.prog (ct m)) (a0 : ByteArray) {r : List Dt × Int} (h : ref04_Parse (m + 1) a0 = some r) : FX Tryd.prog 14 [(.dat 9 (.str a0))] [] (.tup [(.dat 23 (.lst r.1)), (.dat 24 (.int r.2))]) [] :=
  FX_of (q := ((.tup [(.dat 23 (.lst r.1)), (.dat 24 (.int r.2))]), [])) (E := env) (m := m + 1) (dec := d8) jn_ok (hct _) mixed Tryd.func14 rfl (Nat.le_of_ble_eq_true rfl) (fun b hb => d8_sim hb) ((ref04_Parse_eq m a0).trans h)
theorem law04_PathParses_fx (m : Nat) (hct : ∀ R, CallOK (R := R) Tryd.prog (ct m)) (a0 : ByteArray) {r : Bool} (h : law04_PathParses (m + 1) a0 = some r) : FX Tryd.prog 3 [(.dat 9 (.str a0))] [] (.dat 4 (.bool r)) [] :=
  FX_of (q := ((.dat 4 (.bool r)), [])) (E := env) (m := m + 1) (dec := d0) jn_ok (hct _) mixed Tryd.func3 rfl (Nat.le_of_ble_eq_true rfl) (fun b hb => d0_sim hb) ((law04_PathParses_eq m a0).trans h)
theorem slices_Equal_fx (m : Nat) (hct : ∀ R, CallOK (R := R) Tryd.prog (ct m)) (a0 : List Dt) (a1 : List Dt) {r : Bool} (h : slices_Equal (m + 1) a0 a1 = some r) : FX Tryd.prog 63 [(.dat 23 (.lst a0)), (.dat 23 (.lst a1))] [] (.dat 4 (.bool r)) [] :=
  FX_of (q := ((.dat 4 (.bool r)), [])) (E := env) (m := m + 1) (dec := d34) jn_ok (hct _) mixed Tryd.func63 rfl (Nat.le_of_ble_eq_true rfl) (fun b hb => d34_sim hb) ((slices_Equal_eq m a0 a1).trans h)
theorem path_Overlap_fx (m : Nat) (hct : ∀ R, CallOK (R := R) Tryd.prog (ct m)) (a0 : List Dt) (a1 : List Dt) {r : Bool} (h : path_Overlap (m + 1) a0 a1 = some r) : FX Tryd.prog 34 [(.dat 23 (.lst a0)), (.dat 23 (.lst a1))] [] (.dat 4 (.bool r)) [] :=
  FX_of (q := ((.dat 4 (.bool r)), [])) (E := env) (m := m + 1) (dec := d16) jn_ok (hct _) mixed Tryd.func34 rfl (Nat.le_of_ble_eq_true rfl) (fun b hb => d16_sim hb) ((path_Overlap_eq m a0 a1).trans h)
theorem law04_PathOverlaps_fx (m : Nat) (hct : ∀ R, CallOK (R := R) Tryd.prog (ct m)) (a0 : List Dt) (a1 : List Dt) (a2 : Int) {r : Bool} (h : law04_PathOverlaps (m + 1) a0 a1 a2 = some r) : FX Tryd.prog 9 [(.dat 23 (.lst a0)), (.dat 23 (.lst a1)), (.dat 3 (.int a2))] [] (.dat 4 (.bool r)) [] :=
  FX_of (q := ((.dat 4 (.bool r)), [])) (E := env) (m := m + 1) (dec := d3) jn_ok (hct _) mixed Tryd.func9 rfl (Nat.le_of_ble_eq_true rfl) (fun b hb => d3_sim hb) ((law04_PathOverlaps_eq m a0 a1 a2).trans h)
theorem path_field_fx (m : Nat) (hct : ∀ R, CallOK (R := R) Tryd.prog (ct m)) (a0 : List Dt) (a1 : ByteArray) {r : Int} (h : path_field (m + 1) a0 a1 = some r) : FX Tryd.prog 51 [(.dat 34 (.lst a0)), (.dat 9 (.str a1))] [] (.dat 3 (.int r)) [] :=
  FX_of (q := ((.dat 3 (.int r)), [])) (E := env) (m := m + 1) (dec := d38) jn_ok (hct _) mixed Tryd.func51 rfl (Nat.le_of_ble_eq_true rfl) (fun b hb => d38_sim hb) ((path_field_eq m a0 a1).trans h)
theorem path_pass_i37_fx (m : Nat) (hct : ∀ R, CallOK (R := R) Tryd.prog (ct m)) (a0 : Dt) (a1 : List Dt) (a2 : List Dt) {r : List Dt} (h : path_pass_i37 (m + 1) a0 a1 a2 = some r) : FX Tryd.prog 59 [(.row 0), (.dat 36 a0), (.dat 23 (.lst a1))] [(.row 33 a2)] (.row 1) [.gone, (.row 33 r)] :=
  FX_of (q := ((.row 1), [.gone, (.row 33 r)])) (E := env) (m := m + 1) (dec := d37) jn_ok (hct _) mixed Tryd.func59 rfl (Nat.le_of_ble_eq_true rfl) (fun b hb => d37_sim hb) ((path_pass_i37_eq m a0 a1 a2).trans h)
theorem path_clone_fx (m : Nat) (hct : ∀ R, CallOK (R := R) Tryd.prog (ct m)) (a0 : Dt) {r : Dt} (h : path_clone (m + 1) a0 = some r) : FX Tryd.prog 52 [(.dat 36 a0)] [] (.dat 36 r) [] :=
  FX_of (q := ((.dat 36 r), [])) (E := env) (m := m + 1) (dec := d39) jn_ok (hct _) mixed Tryd.func52 rfl (Nat.le_of_ble_eq_true rfl) (fun b hb => d39_sim hb) ((path_clone_eq m a0).trans h)
theorem path_Reach_fx (m : Nat) (hct : ∀ R, CallOK (R := R) Tryd.prog (ct m)) (a0 : Dt) (a1 : List Dt) {r : List Dt} (h : path_Reach (m + 1) a0 a1 = some r) : FX Tryd.prog 30 [(.dat 36 a0), (.dat 23 (.lst a1))] [] (.dat 33 (.lst r)) [] :=
  FX_of (q := ((.dat 33 (.lst r)), [])) (E := env) (m := m + 1) (dec := d19) jn_ok (hct _) mixed Tryd.func30 rfl (Nat.le_of_ble_eq_true rfl) (fun b hb => d19_sim hb) ((path_Reach_eq m a0 a1).trans h)
theorem path_Leaves_fx (m : Nat) (hct : ∀ R, CallOK (R := R) Tryd.prog (ct m)) (a0 : Dt) (a1 : List Dt) {r : List Dt} (h : path_Leaves (m + 1) a0 a1 = some r) : FX Tryd.prog 37 [(.dat 36 a0), (.dat 23 (.lst a1))] [] (.dat 33 (.lst r)) [] :=
  FX_of (q := ((.dat 33 (.lst r)), [])) (E := env) (m := m + 1) (dec := d22) jn_ok (hct _) mixed Tryd.func37 rfl (Nat.le_of_ble_eq_true rfl) (fun b hb => d22_sim hb) ((path_Leaves_eq m a0 a1).trans h)
theorem ref01_Parts_fx (m : Nat) (hct : ∀ R, CallOK (R := R) Tryd.prog (ct m)) (a0 : Dt) {r : List Dt} (h : ref01_Parts (m + 1) a0 = some r) : FX Tryd.prog 58 [(.dat 36 a0)] [] (.dat 33 (.lst r)) [] :=
  FX_of (q := ((.dat 33 (.lst r)), [])) (E := env) (m := m + 1) (dec := d41) jn_ok (hct _) mixed Tryd.func58 rfl (Nat.le_of_ble_eq_true rfl) (fun b hb => d41_sim hb) ((ref01_Parts_eq m a0).trans h)
theorem law04_holes_fx (m : Nat) (hct : ∀ R, CallOK (R := R) Tryd.prog (ct m)) (a0 : Dt) {r : Bool} (h : law04_holes (m + 1) a0 = some r) : FX Tryd.prog 39 [(.dat 36 a0)] [] (.dat 4 (.bool r)) [] :=
  FX_of (q := ((.dat 4 (.bool r)), [])) (E := env) (m := m + 1) (dec := d25) jn_ok (hct _) mixed Tryd.func39 rfl (Nat.le_of_ble_eq_true rfl) (fun b hb => d25_sim hb) ((law04_holes_eq m a0).trans h)
theorem ref01_levels_fx (m : Nat) (hct : ∀ R, CallOK (R := R) Tryd.prog (ct m)) (a0 : Dt) (a1 : Int) {r : Int} (h : ref01_levels (m + 1) a0 a1 = some r) : FX Tryd.prog 70 [(.dat 36 a0), (.dat 3 (.int a1))] [] (.dat 3 (.int r)) [] :=
  FX_of (q := ((.dat 3 (.int r)), [])) (E := env) (m := m + 1) (dec := d42) jn_ok (hct _) mixed Tryd.func70 rfl (Nat.le_of_ble_eq_true rfl) (fun b hb => d42_sim hb) ((ref01_levels_eq m a0 a1).trans h)
theorem ref01_Depth_fx (m : Nat) (hct : ∀ R, CallOK (R := R) Tryd.prog (ct m)) (a0 : Dt) {r : Int} (h : ref01_Depth (m + 1) a0 = some r) : FX Tryd.prog 49 [(.dat 36 a0)] [] (.dat 3 (.int r)) [] :=
  FX_of (q := ((.dat 3 (.int r)), [])) (E := env) (m := m + 1) (dec := d35) jn_ok (hct _) mixed Tryd.func49 rfl (Nat.le_of_ble_eq_true rfl) (fun b hb => d35_sim hb) ((ref01_Depth_eq m a0).trans h)
theorem ref01_count_fx (m : Nat) (hct : ∀ R, CallOK (R := R) Tryd.prog (ct m)) (a0 : Dt) (a1 : Int) {r : Int} (h : ref01_count (m + 1) a0 a1 = some r) : FX Tryd.prog 71 [(.dat 36 a0), (.dat 3 (.int a1))] [] (.dat 3 (.int r)) [] :=
  FX_of (q := ((.dat 3 (.int r)), [])) (E := env) (m := m + 1) (dec := d43) jn_ok (hct _) mixed Tryd.func71 rfl (Nat.le_of_ble_eq_true rfl) (fun b hb => d43_sim hb) ((ref01_count_eq m a0 a1).trans h)
theorem ref01_Nodes_fx (m : Nat) (hct : ∀ R, CallOK (R := R) Tryd.prog (ct m)) (a0 : Dt) {r : Int} (h : ref01_Nodes (m + 1) a0 = some r) : FX Tryd.prog 50 [(.dat 36 a0)] [] (.dat 3 (.int r)) [] :=
  FX_of (q := ((.dat 3 (.int r)), [])) (E := env) (m := m + 1) (dec := d36) jn_ok (hct _) mixed Tryd.func50 rfl (Nat.le_of_ble_eq_true rfl) (fun b hb => d36_sim hb) ((ref01_Nodes_eq m a0).trans h)
theorem law04_small_fx (m : Nat) (hct : ∀ R, CallOK (R := R) Tryd.prog (ct m)) (a0 : Dt) (a1 : List Dt) {r : Bool} (h : law04_small (m + 1) a0 a1 = some r) : FX Tryd.prog 22 [(.dat 36 a0), (.dat 23 (.lst a1))] [] (.dat 4 (.bool r)) [] :=
  FX_of (q := ((.dat 4 (.bool r)), [])) (E := env) (m := m + 1) (dec := d18) jn_ok (hct _) mixed Tryd.func22 rfl (Nat.le_of_ble_eq_true rfl) (fun b hb => d18_sim hb) ((law04_small_eq m a0 a1).trans h)
theorem law04_PathLeaves_fx (m : Nat) (hct : ∀ R, CallOK (R := R) Tryd.prog (ct m)) (a0 : Dt) (a1 : List Dt) {r : Bool} (h : law04_PathLeaves (m + 1) a0 a1 = some r) : FX Tryd.prog 11 [(.dat 36 a0), (.dat 23 (.lst a1))] [] (.dat 4 (.bool r)) [] :=
  FX_of (q := ((.dat 4 (.bool r)), [])) (E := env) (m := m + 1) (dec := d5) jn_ok (hct _) mixed Tryd.func11 rfl (Nat.le_of_ble_eq_true rfl) (fun b hb => d5_sim hb) ((law04_PathLeaves_eq m a0 a1).trans h)
theorem ref01_at_fx (m : Nat) (hct : ∀ R, CallOK (R := R) Tryd.prog (ct m)) (a0 : Dt) (a1 : ByteArray) {r : Int} (h : ref01_at (m + 1) a0 a1 = some r) : FX Tryd.prog 72 [(.dat 36 a0), (.dat 9 (.str a1))] [] (.dat 3 (.int r)) [] :=
  FX_of (q := ((.dat 3 (.int r)), [])) (E := env) (m := m + 1) (dec := d45) jn_ok (hct _) mixed Tryd.func72 rfl (Nat.le_of_ble_eq_true rfl) (fun b hb => d45_sim hb) ((ref01_at_eq m a0 a1).trans h)
theorem ref01_Get_fx (m : Nat) (hct : ∀ R, CallOK (R := R) Tryd.prog (ct m)) (a0 : Dt) (a1 : ByteArray) {r : Dt × Bool} (h : ref01_Get (m + 1) a0 a1 = some r) : FX Tryd.prog 53 [(.dat 36 a0), (.dat 9 (.str a1))] [] (.tup [(.dat 36 r.1), (.dat 4 (.bool r.2))]) [] :=
  FX_of (q := ((.tup [(.dat 36 r.1), (.dat 4 (.bool r.2))]), [])) (E := env) (m := m + 1) (dec := d44) jn_ok (hct _) mixed Tryd.func53 rfl (Nat.le_of_ble_eq_true rfl) (fun b hb => d44_sim hb) ((ref01_Get_eq m a0 a1).trans h)
theorem ref04_Pass_fx (m : Nat) (hct : ∀ R, CallOK (R := R) Tryd.prog (ct m)) (a0 : Dt) (a1 : List Dt) {r : List Dt} (h : ref04_Pass (m + 1) a0 a1 = some r) : FX Tryd.prog 64 [(.dat 36 a0), (.dat 23 (.lst a1))] [] (.dat 33 (.lst r)) [] :=
  FX_of (q := ((.dat 33 (.lst r)), [])) (E := env) (m := m + 1) (dec := d40) jn_ok (hct _) mixed Tryd.func64 rfl (Nat.le_of_ble_eq_true rfl) (fun b hb => d40_sim hb) ((ref04_Pass_eq m a0 a1).trans h)
theorem ref04_Reach_fx (m : Nat) (hct : ∀ R, CallOK (R := R) Tryd.prog (ct m)) (a0 : Dt) (a1 : List Dt) {r : List Dt} (h : ref04_Reach (m + 1) a0 a1 = some r) : FX Tryd.prog 36 [(.dat 36 a0), (.dat 23 (.lst a1))] [] (.dat 33 (.lst r)) [] :=
  FX_of (q := ((.dat 33 (.lst r)), [])) (E := env) (m := m + 1) (dec := d20) jn_ok (hct _) mixed Tryd.func36 rfl (Nat.le_of_ble_eq_true rfl) (fun b hb => d20_sim hb) ((ref04_Reach_eq m a0 a1).trans h)
theorem ref04_Leaves_fx (m : Nat) (hct : ∀ R, CallOK (R := R) Tryd.prog (ct m)) (a0 : Dt) (a1 : List Dt) {r : List Dt} (h : ref04_Leaves (m + 1) a0 a1 = some r) : FX Tryd.prog 38 [(.dat 36 a0), (.dat 23 (.lst a1))] [] (.dat 33 (.lst r)) [] :=
  FX_of (q := ((.dat 33 (.lst r)), [])) (E := env) (m := m + 1) (dec := d23) jn_ok (hct _) mixed Tryd.func38 rfl (Nat.le_of_ble_eq_true rfl) (fun b hb => d23_sim hb) ((ref04_Leaves_eq m a0 a1).trans h)
theorem law04_PathReaches_fx (m : Nat) (hct : ∀ R, CallOK (R := R) Tryd.prog (ct m)) (a0 : Dt) (a1 : List Dt) {r : Bool} (h : law04_PathReaches (m + 1) a0 a1 = some r) : FX Tryd.prog 10 [(.dat 36 a0), (.dat 23 (.lst a1))] [] (.dat 4 (.bool r)) [] :=
  FX_of (q := ((.dat 4 (.bool r)), [])) (E := env) (m := m + 1) (dec := d4) jn_ok (hct _) mixed Tryd.func10 rfl (Nat.le_of_ble_eq_true rfl) (fun b hb => d4_sim hb) ((law04_PathReaches_eq m a0 a1).trans h)
theorem ct3_ok (m : Nat) (hct : ∀ k, k < m → ∀ R, CallOK (R := R) Tryd.prog (ct k)) {R : Type} {args : List AV} {objs : List Ob} {K : Res → Option R} {r : R} (h : ct3 m args objs K = some r) : ∃ q : Res, K q = some r ∧ FX Tryd.prog 3 args objs q.1 q.2 ∧ HasBody Tryd.prog 3 := by
  unfold ct3 at h
  split at h
  · rename_i l hl
    obtain ⟨x, hx, hk⟩ := Option.bind_eq_some_iff.1 h
    obtain ⟨h1, h2⟩ := sel0_ok hl
    cases m with
    | zero => cases hx
    | succ m => exact ⟨_, hk, (law04_PathParses_fx m (hct m (Nat.lt_succ_self m)) _ hx).conv h1 h2, ⟨_, Tryd.func3, rfl, by decide⟩⟩
  cases h
theorem ct4_ok (m : Nat) (hct : ∀ k, k < m → ∀ R, CallOK (R := R) Tryd.prog (ct k)) {R : Type} {args : List AV} {objs : List Ob} {K : Res → Option R} {r : R} (h : ct4 m args objs K = some r) : ∃ q : Res, K q = some r ∧ FX Tryd.prog 4 args objs q.1 q.2 ∧ HasBody Tryd.prog 4 := by
  unfold ct4 at h
  split at h
  · rename_i l hl
    obtain ⟨x, hx, hk⟩ := Option.bind_eq_some_iff.1 h
    obtain ⟨h1, h2⟩ := sel1_ok hl
    cases m with
    | zero => cases hx
    | succ m => exact ⟨_, hk, (law04_PathTexts_fx m (hct m (Nat.lt_succ_self m)) _ hx).conv h1 h2, ⟨_, Tryd.func4, rfl, by decide⟩⟩
  cases h
theorem ct5_ok (m : Nat) (hct : ∀ k, k < m → ∀ R, CallOK (R := R) Tryd.prog (ct k)) {R : Type} {args : List AV} {objs : List Ob} {K : Res → Option R} {r : R} (h : ct5 m args objs K = some r) : ∃ q : Res, K q = some r ∧ FX Tryd.prog 5 args objs q.1 q.2 ∧ HasBody Tryd.prog 5 := by
  unfold ct5 at h
  split at h
  · rename_i l hl
    obtain ⟨x, hx, hk⟩ := Option.bind_eq_some_iff.1 h
    obtain ⟨h1, h2⟩ := sel2_ok hl
    cases m with
    | zero => cases hx
    | succ m => exact ⟨_, hk, (law04_PathNumbers_fx m (hct m (Nat.lt_succ_self m)) _ hx).conv h1 h2, ⟨_, Tryd.func5, rfl, by decide⟩⟩
  cases h
theorem ct9_ok (m : Nat) (hct : ∀ k, k < m → ∀ R, CallOK (R := R) Tryd.prog (ct k)) {R : Type} {args : List AV} {objs : List Ob} {K : Res → Option R} {r : R} (h : ct9 m args objs K = some r) : ∃ q : Res, K q = some r ∧ FX Tryd.prog 9 args objs q.1 q.2 ∧ HasBody Tryd.prog 9 := by
  unfold ct9 at h
  split at h
  · rename_i l hl
    obtain ⟨x, hx, hk⟩ := Option.bind_eq_some_iff.1 h
    obtain ⟨h1, h2⟩ := sel3_ok hl
    cases m with
    | zero => cases hx
    | succ m => exact ⟨_, hk, (law04_PathOverlaps_fx m (hct m (Nat.lt_succ_self m)) _ _ _ hx).conv h1 h2, ⟨_, Tryd.func9, rfl, by decide⟩⟩
  cases h
theorem ct10_ok (m : Nat) (hct : ∀ k, k < m → ∀ R, CallOK (R := R) Tryd.prog (ct k)) {R : Type} {args : List AV} {objs : List Ob} {K : Res → Option R} {r : R} (h : ct10 m args objs K = some r) : ∃ q : Res, K q = some r ∧ FX Tryd.prog 10 args objs q.1 q.2 ∧ HasBody Tryd.prog 10 := by
  unfold ct10 at h
  split at h
  · rename_i l hl
    obtain ⟨x, hx, hk⟩ := Option.bind_eq_some_iff.1 h
    obtain ⟨h1, h2⟩ := sel4_ok hl
    cases m with
    | zero => cases hx
    | succ m => exact ⟨_, hk, (law04_PathReaches_fx m (hct m (Nat.lt_succ_self m)) _ _ hx).conv h1 h2, ⟨_, Tryd.func10, rfl, by decide⟩⟩
  cases h
theorem ct11_ok (m : Nat) (hct : ∀ k, k < m → ∀ R, CallOK (R := R) Tryd.prog (ct k)) {R : Type} {args : List AV} {objs : List Ob} {K : Res → Option R} {r : R} (h : ct11 m args objs K = some r) : ∃ q : Res, K q = some r ∧ FX Tryd.prog 11 args objs q.1 q.2 ∧ HasBody Tryd.prog 11 := by
  unfold ct11 at h
  split at h
  · rename_i l hl
    obtain ⟨x, hx, hk⟩ := Option.bind_eq_some_iff.1 h
    obtain ⟨h1, h2⟩ := sel5_ok hl
    cases m with
    | zero => cases hx
    | succ m => exact ⟨_, hk, (law04_PathLeaves_fx m (hct m (Nat.lt_succ_self m)) _ _ hx).conv h1 h2, ⟨_, Tryd.func11, rfl, by decide⟩⟩
  cases h
theorem ct12_ok (m : Nat) (hct : ∀ k, k < m → ∀ R, CallOK (R := R) Tryd.prog (ct k)) {R : Type} {args : List AV} {objs : List Ob} {K : Res → Option R} {r : R} (h : ct12 m args objs K = some r) : ∃ q : Res, K q = some r ∧ FX Tryd.prog 12 args objs q.1 q.2 ∧ HasBody Tryd.prog 12 := by
  unfold ct12 at h
  split at h
  · rename_i l hl
    obtain ⟨x, hx, hk⟩ := Option.bind_eq_some_iff.1 h
    obtain ⟨h1, h2⟩ := sel6_ok hl
    exact ⟨_, hk, (awakeC_fx hx).conv h1 h2, ⟨_, Tryd.func12, rfl, by decide⟩⟩
  cases h
theorem ct13_ok (m : Nat) (hct : ∀ k, k < m → ∀ R, CallOK (R := R) Tryd.prog (ct k)) {R : Type} {args : List AV} {objs : List Ob} {K : Res → Option R} {r : R} (h : ct13 m args objs K = some r) : ∃ q : Res, K q = some r ∧ FX Tryd.prog 13 args objs q.1 q.2 ∧ HasBody Tryd.prog 13 := by
  unfold ct13 at h
  split at h
  · rename_i l hl
    obtain ⟨x, hx, hk⟩ := Option.bind_eq_some_iff.1 h
    obtain ⟨h1, h2⟩ := sel7_ok hl
    cases m with
    | zero => cases hx
    | succ m => exact ⟨_, hk, (path_Parse_fx m (hct m (Nat.lt_succ_self m)) _ hx).conv h1 h2, ⟨_, Tryd.func13, rfl, by decide⟩⟩
  cases h
theorem ct14_ok (m : Nat) (hct : ∀ k, k < m → ∀ R, CallOK (R := R) Tryd.prog (ct k)) {R : Type} {args : List AV} {objs : List Ob} {K : Res → Option R} {r : R} (h : ct14 m args objs K = some r) : ∃ q : Res, K q = some r ∧ FX Tryd.prog 14 args objs q.1 q.2 ∧ HasBody Tryd.prog 14 := by
  unfold ct14 at h
  split at h
  · rename_i l hl
    obtain ⟨x, hx, hk⟩ := Option.bind_eq_some_iff.1 h
    obtain ⟨h1, h2⟩ := sel8_ok hl
    cases m with
    | zero => cases hx
    | succ m => exact ⟨_, hk, (ref04_Parse_fx m (hct m (Nat.lt_succ_self m)) _ hx).conv h1 h2, ⟨_, Tryd.func14, rfl, by decide⟩⟩
  cases h
theorem ct15_ok (m : Nat) (hct : ∀ k, k < m → ∀ R, CallOK (R := R) Tryd.prog (ct k)) {R : Type} {args : List AV} {objs : List Ob} {K : Res → Option R} {r : R} (h : ct15 m args objs K = some r) : ∃ q : Res, K q = some r ∧ FX Tryd.prog 15 args objs q.1 q.2 ∧ HasBody Tryd.prog 15 := by
  unfold ct15 at h
  split at h
  · rename_i l hl
    obtain ⟨x, hx, hk⟩ := Option.bind_eq_some_iff.1 h
    obtain ⟨h1, h2⟩ := sel9_ok hl
    cases m with
    | zero => cases hx
    | succ m => exact ⟨_, hk, (ref04_Same_fx m (hct m (Nat.lt_succ_self m)) _ _ hx).conv h1 h2, ⟨_, Tryd.func15, rfl, by decide⟩⟩
  cases h
theorem ct16_ok (m : Nat) (hct : ∀ k, k < m → ∀ R, CallOK (R := R) Tryd.prog (ct k)) {R : Type} {args : List AV} {objs : List Ob} {K : Res → Option R} {r : R} (h : ct16 m args objs K = some r) : ∃ q : Res, K q = some r ∧ FX Tryd.prog 16 args objs q.1 q.2 ∧ HasBody Tryd.prog 16 := by
  unfold ct16 at h
  split at h
  · rename_i l hl
    obtain ⟨x, hx, hk⟩ := Option.bind_eq_some_iff.1 h
    obtain ⟨h1, h2⟩ := sel10_ok hl
    cases m with
    | zero => cases hx
    | succ m => exact ⟨_, hk, (path_Text_fx m (hct m (Nat.lt_succ_self m)) _ hx).conv h1 h2, ⟨_, Tryd.func16, rfl, by decide⟩⟩
  cases h
theorem ct17_ok (m : Nat) (hct : ∀ k, k < m → ∀ R, CallOK (R := R) Tryd.prog (ct k)) {R : Type} {args : List AV} {objs : List Ob} {K : Res → Option R} {r : R} (h : ct17 m args objs K = some r) : ∃ q : Res, K q = some r ∧ FX Tryd.prog 17 args objs q.1 q.2 ∧ HasBody Tryd.prog 17 := by
  unfold ct17 at h
  split at h
  · rename_i l hl
    obtain ⟨x, hx, hk⟩ := Option.bind_eq_some_iff.1 h
    obtain ⟨h1, h2⟩ := sel11_ok hl
    cases m with
    | zero => cases hx
    | succ m => exact ⟨_, hk, (path_Valid_fx m (hct m (Nat.lt_succ_self m)) _ hx).conv h1 h2, ⟨_, Tryd.func17, rfl, by decide⟩⟩
  cases h
theorem ct18_ok (m : Nat) (hct : ∀ k, k < m → ∀ R, CallOK (R := R) Tryd.prog (ct k)) {R : Type} {args : List AV} {objs : List Ob} {K : Res → Option R} {r : R} (h : ct18 m args objs K = some r) : ∃ q : Res, K q = some r ∧ FX Tryd.prog 18 args objs q.1 q.2 ∧ HasBody Tryd.prog 18 := by
  unfold ct18 at h
  split at h
  · rename_i l hl
    obtain ⟨x, hx, hk⟩ := Option.bind_eq_some_iff.1 h
    obtain ⟨h1, h2⟩ := sel12_ok hl
    cases m with
    | zero => cases hx
    | succ m => exact ⟨_, hk, (ref04_Valid_fx m (hct m (Nat.lt_succ_self m)) _ hx).conv h1 h2, ⟨_, Tryd.func18, rfl, by decide⟩⟩
  cases h
theorem ct19_ok (m : Nat) (hct : ∀ k, k < m → ∀ R, CallOK (R := R) Tryd.prog (ct k)) {R : Type} {args : List AV} {objs : List Ob} {K : Res → Option R} {r : R} (h : ct19 m args objs K = some r) : ∃ q : Res, K q = some r ∧ FX Tryd.prog 19 args objs q.1 q.2 ∧ HasBody Tryd.prog 19 := by
  unfold ct19 at h
  split at h
  · rename_i l hl
    obtain ⟨x, hx, hk⟩ := Option.bind_eq_some_iff.1 h
    obtain ⟨h1, h2⟩ := sel13_ok hl
    cases m with
    | zero => cases hx
    | succ m => exact ⟨_, hk, (ref04_Text_fx m (hct m (Nat.lt_succ_self m)) _ hx).conv h1 h2, ⟨_, Tryd.func19, rfl, by decide⟩⟩
  cases h
theorem ct20_ok (m : Nat) (hct : ∀ k, k < m → ∀ R, CallOK (R := R) Tryd.prog (ct k)) {R : Type} {args : List AV} {objs : List Ob} {K : Res → Option R} {r : R} (h : ct20 m args objs K = some r) : ∃ q : Res, K q = some r ∧ FX Tryd.prog 20 args objs q.1 q.2 ∧ HasBody Tryd.prog 20 := by
  unfold ct20 at h
  split at h
  · rename_i l hl
    obtain ⟨x, hx, hk⟩ := Option.bind_eq_some_iff.1 h
    obtain ⟨h1, h2⟩ := sel14_ok hl
    cases m with
    | zero => cases hx
    | succ m => exact ⟨_, hk, (path_Number_fx m (hct m (Nat.lt_succ_self m)) _ hx).conv h1 h2, ⟨_, Tryd.func20, rfl, by decide⟩⟩
  cases h
theorem ct21_ok (m : Nat) (hct : ∀ k, k < m → ∀ R, CallOK (R := R) Tryd.prog (ct k)) {R : Type} {args : List AV} {objs : List Ob} {K : Res → Option R} {r : R} (h : ct21 m args objs K = some r) : ∃ q : Res, K q = some r ∧ FX Tryd.prog 21 args objs q.1 q.2 ∧ HasBody Tryd.prog 21 := by
  unfold ct21 at h
  split at h
  · rename_i l hl
    obtain ⟨x, hx, hk⟩ := Option.bind_eq_some_iff.1 h
    obtain ⟨h1, h2⟩ := sel15_ok hl
    cases m with
    | zero => cases hx
    | succ m => exact ⟨_, hk, (ref04_Number_fx m (hct m (Nat.lt_succ_self m)) _ hx).conv h1 h2, ⟨_, Tryd.func21, rfl, by decide⟩⟩
  cases h
theorem ct34_ok (m : Nat) (hct : ∀ k, k < m → ∀ R, CallOK (R := R) Tryd.prog (ct k)) {R : Type} {args : List AV} {objs : List Ob} {K : Res → Option R} {r : R} (h : ct34 m args objs K = some r) : ∃ q : Res, K q = some r ∧ FX Tryd.prog 34 args objs q.1 q.2 ∧ HasBody Tryd.prog 34 := by
  unfold ct34 at h
  split at h
  · rename_i l hl
    obtain ⟨x, hx, hk⟩ := Option.bind_eq_some_iff.1 h
    obtain ⟨h1, h2⟩ := sel16_ok hl
    cases m with
    | zero => cases hx
    | succ m => exact ⟨_, hk, (path_Overlap_fx m (hct m (Nat.lt_succ_self m)) _ _ hx).conv h1 h2, ⟨_, Tryd.func34, rfl, by decide⟩⟩
  cases h
theorem ct35_ok (m : Nat) (hct : ∀ k, k < m → ∀ R, CallOK (R := R) Tryd.prog (ct k)) {R : Type} {args : List AV} {objs : List Ob} {K : Res → Option R} {r : R} (h : ct35 m args objs K = some r) : ∃ q : Res, K q = some r ∧ FX Tryd.prog 35 args objs q.1 q.2 ∧ HasBody Tryd.prog 35 := by
  unfold ct35 at h
  split at h
  · rename_i l hl
    obtain ⟨x, hx, hk⟩ := Option.bind_eq_some_iff.1 h
    obtain ⟨h1, h2⟩ := sel17_ok hl
    cases m with
    | zero => cases hx
    | succ m => exact ⟨_, hk, (ref04_Overlap_fx m (hct m (Nat.lt_succ_self m)) _ _ hx).conv h1 h2, ⟨_, Tryd.func35, rfl, by decide⟩⟩
  cases h
theorem ct22_ok (m : Nat) (hct : ∀ k, k < m → ∀ R, CallOK (R := R) Tryd.prog (ct k)) {R : Type} {args : List AV} {objs : List Ob} {K : Res → Option R} {r : R} (h : ct22 m args objs K = some r) : ∃ q : Res, K q = some r ∧ FX Tryd.prog 22 args objs q.1 q.2 ∧ HasBody Tryd.prog 22 := by
  unfold ct22 at h
  split at h
  · rename_i l hl
    obtain ⟨x, hx, hk⟩ := Option.bind_eq_some_iff.1 h
    obtain ⟨h1, h2⟩ := sel18_ok hl
    cases m with
    | zero => cases hx
    | succ m => exact ⟨_, hk, (law04_small_fx m (hct m (Nat.lt_succ_self m)) _ _ hx).conv h1 h2, ⟨_, Tryd.func22, rfl, by decide⟩⟩
  cases h
theorem ct30_ok (m : Nat) (hct : ∀ k, k < m → ∀ R, CallOK (R := R) Tryd.prog (ct k)) {R : Type} {args : List AV} {objs : List Ob} {K : Res → Option R} {r : R} (h : ct30 m args objs K = some r) : ∃ q : Res, K q = some r ∧ FX Tryd.prog 30 args objs q.1 q.2 ∧ HasBody Tryd.prog 30 := by
  unfold ct30 at h
  split at h
  · rename_i l hl
    obtain ⟨x, hx, hk⟩ := Option.bind_eq_some_iff.1 h
    obtain ⟨h1, h2⟩ := sel19_ok hl
    cases m with
    | zero => cases hx
    | succ m => exact ⟨_, hk, (path_Reach_fx m (hct m (Nat.lt_succ_self m)) _ _ hx).conv h1 h2, ⟨_, Tryd.func30, rfl, by decide⟩⟩
  cases h
theorem ct36_ok (m : Nat) (hct : ∀ k, k < m → ∀ R, CallOK (R := R) Tryd.prog (ct k)) {R : Type} {args : List AV} {objs : List Ob} {K : Res → Option R} {r : R} (h : ct36 m args objs K = some r) : ∃ q : Res, K q = some r ∧ FX Tryd.prog 36 args objs q.1 q.2 ∧ HasBody Tryd.prog 36 := by
  unfold ct36 at h
  split at h
  · rename_i l hl
    obtain ⟨x, hx, hk⟩ := Option.bind_eq_some_iff.1 h
    obtain ⟨h1, h2⟩ := sel20_ok hl
    cases m with
    | zero => cases hx
    | succ m => exact ⟨_, hk, (ref04_Reach_fx m (hct m (Nat.lt_succ_self m)) _ _ hx).conv h1 h2, ⟨_, Tryd.func36, rfl, by decide⟩⟩
  cases h
theorem ct29_ok (m : Nat) (hct : ∀ k, k < m → ∀ R, CallOK (R := R) Tryd.prog (ct k)) {R : Type} {args : List AV} {objs : List Ob} {K : Res → Option R} {r : R} (h : ct29 m args objs K = some r) : ∃ q : Res, K q = some r ∧ FX Tryd.prog 29 args objs q.1 q.2 ∧ HasBody Tryd.prog 29 := by
  unfold ct29 at h
  split at h
  · rename_i l hl
    obtain ⟨x, hx, hk⟩ := Option.bind_eq_some_iff.1 h
    obtain ⟨h1, h2⟩ := sel21_ok hl
    cases m with
    | zero => cases hx
    | succ m => exact ⟨_, hk, (ref01_SameList_fx m (hct m (Nat.lt_succ_self m)) _ _ hx).conv h1 h2, ⟨_, Tryd.func29, rfl, by decide⟩⟩
  cases h
theorem ct37_ok (m : Nat) (hct : ∀ k, k < m → ∀ R, CallOK (R := R) Tryd.prog (ct k)) {R : Type} {args : List AV} {objs : List Ob} {K : Res → Option R} {r : R} (h : ct37 m args objs K = some r) : ∃ q : Res, K q = some r ∧ FX Tryd.prog 37 args objs q.1 q.2 ∧ HasBody Tryd.prog 37 := by
  unfold ct37 at h
  split at h
  · rename_i l hl
    obtain ⟨x, hx, hk⟩ := Option.bind_eq_some_iff.1 h
    obtain ⟨h1, h2⟩ := sel22_ok hl
    cases m with
    | zero => cases hx
    | succ m => exact ⟨_, hk, (path_Leaves_fx m (hct m (Nat.lt_succ_self m)) _ _ hx).conv h1 h2, ⟨_, Tryd.func37, rfl, by decide⟩⟩
  cases h
theorem ct38_ok (m : Nat) (hct : ∀ k, k < m → ∀ R, CallOK (R := R) Tryd.prog (ct k)) {R : Type} {args : List AV} {objs : List Ob} {K : Res → Option R} {r : R} (h : ct38 m args objs K = some r) : ∃ q : Res, K q = some r ∧ FX Tryd.prog 38 args objs q.1 q.2 ∧ HasBody Tryd.prog 38 := by
  unfold ct38 at h
  split at h
  · rename_i l hl
    obtain ⟨x, hx, hk⟩ := Option.bind_eq_some_iff.1 h
    obtain ⟨h1, h2⟩ := sel23_ok hl
    cases m with
    | zero => cases hx
    | succ m => exact ⟨_, hk, (ref04_Leaves_fx m (hct m (Nat.lt_succ_self m)) _ _ hx).conv h1 h2, ⟨_, Tryd.func38, rfl, by decide⟩⟩
  cases h
theorem ct24_ok (m : Nat) (hct : ∀ k, k < m → ∀ R, CallOK (R := R) Tryd.prog (ct k)) {R : Type} {args : List AV} {objs : List Ob} {K : Res → Option R} {r : R} (h : ct24 m args objs K = some r) : ∃ q : Res, K q = some r ∧ FX Tryd.prog 24 args objs q.1 q.2 ∧ HasBody Tryd.prog 24 := by
  unfold ct24 at h
  split at h
  · rename_i l hl
    obtain ⟨x, hx, hk⟩ := Option.bind_eq_some_iff.1 h
    obtain ⟨h1, h2⟩ := sel24_ok hl
    cases m with
    | zero => cases hx
    | succ m => exact ⟨_, hk, (ref01_Same_fx m (hct m (Nat.lt_succ_self m)) _ _ hx).conv h1 h2, ⟨_, Tryd.func24, rfl, by decide⟩⟩
  cases h
theorem ct39_ok (m : Nat) (hct : ∀ k, k < m → ∀ R, CallOK (R := R) Tryd.prog (ct k)) {R : Type} {args : List AV} {objs : List Ob} {K : Res → Option R} {r : R} (h : ct39 m args objs K = some r) : ∃ q : Res, K q = some r ∧ FX Tryd.prog 39 args objs q.1 q.2 ∧ HasBody Tryd.prog 39 := by
  unfold ct39 at h
  split at h
  · rename_i l hl
    obtain ⟨x, hx, hk⟩ := Option.bind_eq_some_iff.1 h
    obtain ⟨h1, h2⟩ := sel25_ok hl
    cases m with
    | zero => cases hx
    | succ m => exact ⟨_, hk, (law04_holes_fx m (hct m (Nat.lt_succ_self m)) _ hx).conv h1 h2, ⟨_, Tryd.func39, rfl, by decide⟩⟩
  cases h
theorem ct42_ok (m : Nat) (hct : ∀ k, k < m → ∀ R, CallOK (R := R) Tryd.prog (ct k)) {R : Type} {args : List AV} {objs : List Ob} {K : Res → Option R} {r : R} (h : ct42 m args objs K = some r) : ∃ q : Res, K q = some r ∧ FX Tryd.prog 42 args objs q.1 q.2 ∧ HasBody Tryd.prog 42 := by
  unfold ct42 at h
  split at h
  · rename_i l hl
    obtain ⟨x, hx, hk⟩ := Option.bind_eq_some_iff.1 h
    obtain ⟨h1, h2⟩ := sel26_ok hl
    exact ⟨_, hk, (Split_fx hx).conv h1 h2, ⟨_, Tryd.func42, rfl, by decide⟩⟩
  cases h
theorem ct43_ok (m : Nat) (hct : ∀ k, k < m → ∀ R, CallOK (R := R) Tryd.prog (ct k)) {R : Type} {args : List AV} {objs : List Ob} {K : Res → Option R} {r : R} (h : ct43 m args objs K = some r) : ∃ q : Res, K q = some r ∧ FX Tryd.prog 43 args objs q.1 q.2 ∧ HasBody Tryd.prog 43 := by
  unfold ct43 at h
  split at h
  · rename_i l hl
    obtain ⟨x, hx, hk⟩ := Option.bind_eq_some_iff.1 h
    obtain ⟨h1, h2⟩ := sel27_ok hl
    cases m with
    | zero => cases hx
    | succ m => exact ⟨_, hk, (ref04_split_fx m (hct m (Nat.lt_succ_self m)) _ hx).conv h1 h2, ⟨_, Tryd.func43, rfl, by decide⟩⟩
  cases h
theorem ct44_ok (m : Nat) (hct : ∀ k, k < m → ∀ R, CallOK (R := R) Tryd.prog (ct k)) {R : Type} {args : List AV} {objs : List Ob} {K : Res → Option R} {r : R} (h : ct44 m args objs K = some r) : ∃ q : Res, K q = some r ∧ FX Tryd.prog 44 args objs q.1 q.2 ∧ HasBody Tryd.prog 44 := by
  unfold ct44 at h
  split at h
  · rename_i l hl
    obtain ⟨x, hx, hk⟩ := Option.bind_eq_some_iff.1 h
    obtain ⟨h1, h2⟩ := sel28_ok hl
    cases m with
    | zero => cases hx
    | succ m => exact ⟨_, hk, (ref04_prefix_fx m (hct m (Nat.lt_succ_self m)) _ _ hx).conv h1 h2, ⟨_, Tryd.func44, rfl, by decide⟩⟩
  cases h
theorem ct45_ok (m : Nat) (hct : ∀ k, k < m → ∀ R, CallOK (R := R) Tryd.prog (ct k)) {R : Type} {args : List AV} {objs : List Ob} {K : Res → Option R} {r : R} (h : ct45 m args objs K = some r) : ∃ q : Res, K q = some r ∧ FX Tryd.prog 45 args objs q.1 q.2 ∧ HasBody Tryd.prog 45 := by
  unfold ct45 at h
  split at h
  · rename_i l hl
    obtain ⟨x, hx, hk⟩ := Option.bind_eq_some_iff.1 h
    obtain ⟨h1, h2⟩ := sel29_ok hl
    exact ⟨_, hk, (Join_fx hx).conv h1 h2, ⟨_, Tryd.func45, rfl, by decide⟩⟩
  cases h
theorem ct46_ok (m : Nat) (hct : ∀ k, k < m → ∀ R, CallOK (R := R) Tryd.prog (ct k)) {R : Type} {args : List AV} {objs : List Ob} {K : Res → Option R} {r : R} (h : ct46 m args objs K = some r) : ∃ q : Res, K q = some r ∧ FX Tryd.prog 46 args objs q.1 q.2 ∧ HasBody Tryd.prog 46 := by
  unfold ct46 at h
  split at h
  · rename_i l hl
    obtain ⟨x, hx, hk⟩ := Option.bind_eq_some_iff.1 h
    obtain ⟨h1, h2⟩ := sel30_ok hl
    cases m with
    | zero => cases hx
    | succ m => exact ⟨_, hk, (slices_ContainsFunc_i30_fx m (hct m (Nat.lt_succ_self m)) _ hx).conv h1 h2, ⟨_, Tryd.func46, rfl, by decide⟩⟩
  cases h
theorem ct69_ok (m : Nat) (hct : ∀ k, k < m → ∀ R, CallOK (R := R) Tryd.prog (ct k)) {R : Type} {args : List AV} {objs : List Ob} {K : Res → Option R} {r : R} (h : ct69 m args objs K = some r) : ∃ q : Res, K q = some r ∧ FX Tryd.prog 69 args objs q.1 q.2 ∧ HasBody Tryd.prog 69 := by
  unfold ct69 at h
  split at h
  · rename_i l hl
    obtain ⟨x, hx, hk⟩ := Option.bind_eq_some_iff.1 h
    obtain ⟨h1, h2⟩ := sel31_ok hl
    cases m with
    | zero => cases hx
    | succ m => exact ⟨_, hk, (slices_IndexFunc_i31_fx m (hct m (Nat.lt_succ_self m)) _ hx).conv h1 h2, ⟨_, Tryd.func69, rfl, by decide⟩⟩
  cases h
theorem ct47_ok (m : Nat) (hct : ∀ k, k < m → ∀ R, CallOK (R := R) Tryd.prog (ct k)) {R : Type} {args : List AV} {objs : List Ob} {K : Res → Option R} {r : R} (h : ct47 m args objs K = some r) : ∃ q : Res, K q = some r ∧ FX Tryd.prog 47 args objs q.1 q.2 ∧ HasBody Tryd.prog 47 := by
  unfold ct47 at h
  split at h
  · rename_i l hl
    obtain ⟨x, hx, hk⟩ := Option.bind_eq_some_iff.1 h
    obtain ⟨h1, h2⟩ := sel32_ok hl
    cases m with
    | zero => cases hx
    | succ m => exact ⟨_, hk, (path_notName_fx m (hct m (Nat.lt_succ_self m)) _ hx).conv h1 h2, ⟨_, Tryd.func47, rfl, by decide⟩⟩
  cases h
theorem ct48_ok (m : Nat) (hct : ∀ k, k < m → ∀ R, CallOK (R := R) Tryd.prog (ct k)) {R : Type} {args : List AV} {objs : List Ob} {K : Res → Option R} {r : R} (h : ct48 m args objs K = some r) : ∃ q : Res, K q = some r ∧ FX Tryd.prog 48 args objs q.1 q.2 ∧ HasBody Tryd.prog 48 := by
  unfold ct48 at h
  split at h
  · rename_i l hl
    obtain ⟨x, hx, hk⟩ := Option.bind_eq_some_iff.1 h
    obtain ⟨h1, h2⟩ := sel33_ok hl
    cases m with
    | zero => cases hx
    | succ m => exact ⟨_, hk, (ref01_Name_fx m (hct m (Nat.lt_succ_self m)) _ hx).conv h1 h2, ⟨_, Tryd.func48, rfl, by decide⟩⟩
  cases h
theorem ct63_ok (m : Nat) (hct : ∀ k, k < m → ∀ R, CallOK (R := R) Tryd.prog (ct k)) {R : Type} {args : List AV} {objs : List Ob} {K : Res → Option R} {r : R} (h : ct63 m args objs K = some r) : ∃ q : Res, K q = some r ∧ FX Tryd.prog 63 args objs q.1 q.2 ∧ HasBody Tryd.prog 63 := by
  unfold ct63 at h
  split at h
  · rename_i l hl
    obtain ⟨x, hx, hk⟩ := Option.bind_eq_some_iff.1 h
    obtain ⟨h1, h2⟩ := sel34_ok hl
    cases m with
    | zero => cases hx
    | succ m => exact ⟨_, hk, (slices_Equal_fx m (hct m (Nat.lt_succ_self m)) _ _ hx).conv h1 h2, ⟨_, Tryd.func63, rfl, by decide⟩⟩
  cases h
theorem ct49_ok (m : Nat) (hct : ∀ k, k < m → ∀ R, CallOK (R := R) Tryd.prog (ct k)) {R : Type} {args : List AV} {objs : List Ob} {K : Res → Option R} {r : R} (h : ct49 m args objs K = some r) : ∃ q : Res, K q = some r ∧ FX Tryd.prog 49 args objs q.1 q.2 ∧ HasBody Tryd.prog 49 := by
  unfold ct49 at h
  split at h
  · rename_i l hl
    obtain ⟨x, hx, hk⟩ := Option.bind_eq_some_iff.1 h
    obtain ⟨h1, h2⟩ := sel35_ok hl
    cases m with
    | zero => cases hx
    | succ m => exact ⟨_, hk, (ref01_Depth_fx m (hct m (Nat.lt_succ_self m)) _ hx).conv h1 h2, ⟨_, Tryd.func49, rfl, by decide⟩⟩
  cases h
theorem ct50_ok (m : Nat) (hct : ∀ k, k < m → ∀ R, CallOK (R := R) Tryd.prog (ct k)) {R : Type} {args : List AV} {objs : List Ob} {K : Res → Option R} {r : R} (h : ct50 m args objs K = some r) : ∃ q : Res, K q = some r ∧ FX Tryd.prog 50 args objs q.1 q.2 ∧ HasBody Tryd.prog 50 := by
  unfold ct50 at h
  split at h
  · rename_i l hl
    obtain ⟨x, hx, hk⟩ := Option.bind_eq_some_iff.1 h
    obtain ⟨h1, h2⟩ := sel36_ok hl
    cases m with
    | zero => cases hx
    | succ m => exact ⟨_, hk, (ref01_Nodes_fx m (hct m (Nat.lt_succ_self m)) _ hx).conv h1 h2, ⟨_, Tryd.func50, rfl, by decide⟩⟩
  cases h
theorem ct59_ok (m : Nat) (hct : ∀ k, k < m → ∀ R, CallOK (R := R) Tryd.prog (ct k)) {R : Type} {args : List AV} {objs : List Ob} {K : Res → Option R} {r : R} (h : ct59 m args objs K = some r) : ∃ q : Res, K q = some r ∧ FX Tryd.prog 59 args objs q.1 q.2 ∧ HasBody Tryd.prog 59 := by
  unfold ct59 at h
  split at h
  · rename_i l hl
    obtain ⟨x, hx, hk⟩ := Option.bind_eq_some_iff.1 h
    obtain ⟨h1, h2⟩ := sel37_ok hl
    cases m with
    | zero => cases hx
    | succ m => exact ⟨_, hk, (path_pass_i37_fx m (hct m (Nat.lt_succ_self m)) _ _ _ hx).conv h1 h2, ⟨_, Tryd.func59, rfl, by decide⟩⟩
  cases h
theorem ct51_ok (m : Nat) (hct : ∀ k, k < m → ∀ R, CallOK (R := R) Tryd.prog (ct k)) {R : Type} {args : List AV} {objs : List Ob} {K : Res → Option R} {r : R} (h : ct51 m args objs K = some r) : ∃ q : Res, K q = some r ∧ FX Tryd.prog 51 args objs q.1 q.2 ∧ HasBody Tryd.prog 51 := by
  unfold ct51 at h
  split at h
  · rename_i l hl
    obtain ⟨x, hx, hk⟩ := Option.bind_eq_some_iff.1 h
    obtain ⟨h1, h2⟩ := sel38_ok hl
    cases m with
    | zero => cases hx
    | succ m => exact ⟨_, hk, (path_field_fx m (hct m (Nat.lt_succ_self m)) _ _ hx).conv h1 h2, ⟨_, Tryd.func51, rfl, by decide⟩⟩
  cases h
theorem ct52_ok (m : Nat) (hct : ∀ k, k < m → ∀ R, CallOK (R := R) Tryd.prog (ct k)) {R : Type} {args : List AV} {objs : List Ob} {K : Res → Option R} {r : R} (h : ct52 m args objs K = some r) : ∃ q : Res, K q = some r ∧ FX Tryd.prog 52 args objs q.1 q.2 ∧ HasBody Tryd.prog 52 := by
  unfold ct52 at h
  split at h
  · rename_i l hl
    obtain ⟨x, hx, hk⟩ := Option.bind_eq_some_iff.1 h
    obtain ⟨h1, h2⟩ := sel39_ok hl
    cases m with
    | zero => cases hx
    | succ m => exact ⟨_, hk, (path_clone_fx m (hct m (Nat.lt_succ_self m)) _ hx).conv h1 h2, ⟨_, Tryd.func52, rfl, by decide⟩⟩
  cases h
theorem ct64_ok (m : Nat) (hct : ∀ k, k < m → ∀ R, CallOK (R := R) Tryd.prog (ct k)) {R : Type} {args : List AV} {objs : List Ob} {K : Res → Option R} {r : R} (h : ct64 m args objs K = some r) : ∃ q : Res, K q = some r ∧ FX Tryd.prog 64 args objs q.1 q.2 ∧ HasBody Tryd.prog 64 := by
  unfold ct64 at h
  split at h
  · rename_i l hl
    obtain ⟨x, hx, hk⟩ := Option.bind_eq_some_iff.1 h
    obtain ⟨h1, h2⟩ := sel40_ok hl
    cases m with
    | zero => cases hx
    | succ m => exact ⟨_, hk, (ref04_Pass_fx m (hct m (Nat.lt_succ_self m)) _ _ hx).conv h1 h2, ⟨_, Tryd.func64, rfl, by decide⟩⟩
  cases h
theorem ct58_ok (m : Nat) (hct : ∀ k, k < m → ∀ R, CallOK (R := R) Tryd.prog (ct k)) {R : Type} {args : List AV} {objs : List Ob} {K : Res → Option R} {r : R} (h : ct58 m args objs K = some r) : ∃ q : Res, K q = some r ∧ FX Tryd.prog 58 args objs q.1 q.2 ∧ HasBody Tryd.prog 58 := by
  unfold ct58 at h
  split at h
  · rename_i l hl
    obtain ⟨x, hx, hk⟩ := Option.bind_eq_some_iff.1 h
    obtain ⟨h1, h2⟩ := sel41_ok hl
    cases m with
    | zero => cases hx
    | succ m => exact ⟨_, hk, (ref01_Parts_fx m (hct m (Nat.lt_succ_self m)) _ hx).conv h1 h2, ⟨_, Tryd.func58, rfl, by decide⟩⟩
  cases h
theorem ct70_ok (m : Nat) (hct : ∀ k, k < m → ∀ R, CallOK (R := R) Tryd.prog (ct k)) {R : Type} {args : List AV} {objs : List Ob} {K : Res → Option R} {r : R} (h : ct70 m args objs K = some r) : ∃ q : Res, K q = some r ∧ FX Tryd.prog 70 args objs q.1 q.2 ∧ HasBody Tryd.prog 70 := by
  unfold ct70 at h
  split at h
  · rename_i l hl
    obtain ⟨x, hx, hk⟩ := Option.bind_eq_some_iff.1 h
    obtain ⟨h1, h2⟩ := sel42_ok hl
    cases m with
    | zero => cases hx
    | succ m => exact ⟨_, hk, (ref01_levels_fx m (hct m (Nat.lt_succ_self m)) _ _ hx).conv h1 h2, ⟨_, Tryd.func70, rfl, by decide⟩⟩
  cases h
theorem ct71_ok (m : Nat) (hct : ∀ k, k < m → ∀ R, CallOK (R := R) Tryd.prog (ct k)) {R : Type} {args : List AV} {objs : List Ob} {K : Res → Option R} {r : R} (h : ct71 m args objs K = some r) : ∃ q : Res, K q = some r ∧ FX Tryd.prog 71 args objs q.1 q.2 ∧ HasBody Tryd.prog 71 := by
  unfold ct71 at h
  split at h
  · rename_i l hl
    obtain ⟨x, hx, hk⟩ := Option.bind_eq_some_iff.1 h
    obtain ⟨h1, h2⟩ := sel43_ok hl
    cases m with
    | zero => cases hx
    | succ m => exact ⟨_, hk, (ref01_count_fx m (hct m (Nat.lt_succ_self m)) _ _ hx).conv h1 h2, ⟨_, Tryd.func71, rfl, by decide⟩⟩
  cases h
theorem ct53_ok (m : Nat) (hct : ∀ k, k < m → ∀ R, CallOK (R := R) Tryd.prog (ct k)) {R : Type} {args : List AV} {objs : List Ob} {K : Res → Option R} {r : R} (h : ct53 m args objs K = some r) : ∃ q : Res, K q = some r ∧ FX Tryd.prog 53 args objs q.1 q.2 ∧ HasBody Tryd.prog 53 := by
  unfold ct53 at h
  split at h
  · rename_i l hl
    obtain ⟨x, hx, hk⟩ := Option.bind_eq_some_iff.1 h
    obtain ⟨h1, h2⟩ := sel44_ok hl
    cases m with
    | zero => cases hx
    | succ m => exact ⟨_, hk, (ref01_Get_fx m (hct m (Nat.lt_succ_self m)) _ _ hx).conv h1 h2, ⟨_, Tryd.func53, rfl, by decide⟩⟩
  cases h
theorem ct72_ok (m : Nat) (hct : ∀ k, k < m → ∀ R, CallOK (R := R) Tryd.prog (ct k)) {R : Type} {args : List AV} {objs : List Ob} {K : Res → Option R} {r : R} (h : ct72 m args objs K = some r) : ∃ q : Res, K q = some r ∧ FX Tryd.prog 72 args objs q.1 q.2 ∧ HasBody Tryd.prog 72 := by
  unfold ct72 at h
  split at h
  · rename_i l hl
    obtain ⟨x, hx, hk⟩ := Option.bind_eq_some_iff.1 h
    obtain ⟨h1, h2⟩ := sel45_ok hl
    cases m with
    | zero => cases hx
    | succ m => exact ⟨_, hk, (ref01_at_fx m (hct m (Nat.lt_succ_self m)) _ _ hx).conv h1 h2, ⟨_, Tryd.func72, rfl, by decide⟩⟩
  cases h
theorem ct_ok : ∀ (m : Nat) (R : Type), CallOK (R := R) Tryd.prog (ct m) := by
  intro m
  induction m using Nat.strongRecOn with
  | _ m ih =>
    intro R f args objs K r h
    unfold ct at h
    rcases bset_some h with ⟨hb, h1⟩ | ⟨_, h⟩
    · have e := beq_eq hb
      subst e
      exact ct3_ok m ih h1
    rcases bset_some h with ⟨hb, h1⟩ | ⟨_, h⟩
    · have e := beq_eq hb
      subst e
      exact ct4_ok m ih h1
    rcases bset_some h with ⟨hb, h1⟩ | ⟨_, h⟩
    · have e := beq_eq hb
      subst e
      exact ct5_ok m ih h1
    rcases bset_some h with ⟨hb, h1⟩ | ⟨_, h⟩
    · have e := beq_eq hb
      subst e
      exact ct9_ok m ih h1
    rcases bset_some h with ⟨hb, h1⟩ | ⟨_, h⟩
    · have e := beq_eq hb
      subst e
      exact ct10_ok m ih h1
    rcases bset_some h with ⟨hb, h1⟩ | ⟨_, h⟩
    · have e := beq_eq hb
      subst e
      exact ct11_ok m ih h1
    rcases bset_some h with ⟨hb, h1⟩ | ⟨_, h⟩
    · have e := beq_eq hb
      subst e
      exact ct12_ok m ih h1
    rcases bset_some h with ⟨hb, h1⟩ | ⟨_, h⟩
    · have e := beq_eq hb
      subst e
      exact ct13_ok m ih h1
    rcases bset_some h with ⟨hb, h1⟩ | ⟨_, h⟩
    · have e := beq_eq hb
      subst e
      exact ct14_ok m ih h1
    rcases bset_some h with ⟨hb, h1⟩ | ⟨_, h⟩
    · have e := beq_eq hb
      subst e
      exact ct15_ok m ih h1
    rcases bset_some h with ⟨hb, h1⟩ | ⟨_, h⟩
    · have e := beq_eq hb
      subst e
      exact ct16_ok m ih h1
    rcases bset_some h with ⟨hb, h1⟩ | ⟨_, h⟩
    · have e := beq_eq hb
      subst e
      exact ct17_ok m ih h1
    rcases bset_some h with ⟨hb, h1⟩ | ⟨_, h⟩
    · have e := beq_eq hb
      subst e
      exact ct18_ok m ih h1
    rcases bset_some h with ⟨hb, h1⟩ | ⟨_, h⟩
    · have e := beq_eq hb
      subst e
      exact ct19_ok m ih h1
    rcases bset_some h with ⟨hb, h1⟩ | ⟨_, h⟩
    · have e := beq_eq hb
      subst e
      exact ct20_ok m ih h1
    rcases bset_some h with ⟨hb, h1⟩ | ⟨_, h⟩
    · have e := beq_eq hb
      subst e
      exact ct21_ok m ih h1
    rcases bset_some h with ⟨hb, h1⟩ | ⟨_, h⟩
    · have e := beq_eq hb
      subst e
      exact ct34_ok m ih h1
    rcases bset_some h with ⟨hb, h1⟩ | ⟨_, h⟩
    · have e := beq_eq hb
      subst e
      exact ct35_ok m ih h1
    rcases bset_some h with ⟨hb, h1⟩ | ⟨_, h⟩
    · have e := beq_eq hb
      subst e
      exact ct22_ok m ih h1
    rcases bset_some h with ⟨hb, h1⟩ | ⟨_, h⟩
    · have e := beq_eq hb
      subst e
      exact ct30_ok m ih h1
    rcases bset_some h with ⟨hb, h1⟩ | ⟨_, h⟩
    · have e := beq_eq hb
      subst e
      exact ct36_ok m ih h1
    rcases bset_some h with ⟨hb, h1⟩ | ⟨_, h⟩
    · have e := beq_eq hb
      subst e
      exact ct29_ok m ih h1
    rcases bset_some h with ⟨hb, h1⟩ | ⟨_, h⟩
    · have e := beq_eq hb
      subst e
      exact ct37_ok m ih h1
    rcases bset_some h with ⟨hb, h1⟩ | ⟨_, h⟩
    · have e := beq_eq hb
      subst e
      exact ct38_ok m ih h1
    rcases bset_some h with ⟨hb, h1⟩ | ⟨_, h⟩
    · have e := beq_eq hb
      subst e
      exact ct24_ok m ih h1
    rcases bset_some h with ⟨hb, h1⟩ | ⟨_, h⟩
    · have e := beq_eq hb
      subst e
      exact ct39_ok m ih h1
    rcases bset_some h with ⟨hb, h1⟩ | ⟨_, h⟩
    · have e := beq_eq hb
      subst e
      exact ct42_ok m ih h1
    rcases bset_some h with ⟨hb, h1⟩ | ⟨_, h⟩
    · have e := beq_eq hb
      subst e
      exact ct43_ok m ih h1
    rcases bset_some h with ⟨hb, h1⟩ | ⟨_, h⟩
    · have e := beq_eq hb
      subst e
      exact ct44_ok m ih h1
    rcases bset_some h with ⟨hb, h1⟩ | ⟨_, h⟩
    · have e := beq_eq hb
      subst e
      exact ct45_ok m ih h1
    rcases bset_some h with ⟨hb, h1⟩ | ⟨_, h⟩
    · have e := beq_eq hb
      subst e
      exact ct46_ok m ih h1
    rcases bset_some h with ⟨hb, h1⟩ | ⟨_, h⟩
    · have e := beq_eq hb
      subst e
      exact ct69_ok m ih h1
    rcases bset_some h with ⟨hb, h1⟩ | ⟨_, h⟩
    · have e := beq_eq hb
      subst e
      exact ct47_ok m ih h1
    rcases bset_some h with ⟨hb, h1⟩ | ⟨_, h⟩
    · have e := beq_eq hb
      subst e
      exact ct48_ok m ih h1
    rcases bset_some h with ⟨hb, h1⟩ | ⟨_, h⟩
    · have e := beq_eq hb
      subst e
      exact ct63_ok m ih h1
    rcases bset_some h with ⟨hb, h1⟩ | ⟨_, h⟩
    · have e := beq_eq hb
      subst e
      exact ct49_ok m ih h1
    rcases bset_some h with ⟨hb, h1⟩ | ⟨_, h⟩
    · have e := beq_eq hb
      subst e
      exact ct50_ok m ih h1
    rcases bset_some h with ⟨hb, h1⟩ | ⟨_, h⟩
    · have e := beq_eq hb
      subst e
      exact ct59_ok m ih h1
    rcases bset_some h with ⟨hb, h1⟩ | ⟨_, h⟩
    · have e := beq_eq hb
      subst e
      exact ct51_ok m ih h1
    rcases bset_some h with ⟨hb, h1⟩ | ⟨_, h⟩
    · have e := beq_eq hb
      subst e
      exact ct52_ok m ih h1
    rcases bset_some h with ⟨hb, h1⟩ | ⟨_, h⟩
    · have e := beq_eq hb
      subst e
      exact ct64_ok m ih h1
    rcases bset_some h with ⟨hb, h1⟩ | ⟨_, h⟩
    · have e := beq_eq hb
      subst e
      exact ct58_ok m ih h1
    rcases bset_some h with ⟨hb, h1⟩ | ⟨_, h⟩
    · have e := beq_eq hb
      subst e
      exact ct70_ok m ih h1
    rcases bset_some h with ⟨hb, h1⟩ | ⟨_, h⟩
    · have e := beq_eq hb
      subst e
      exact ct71_ok m ih h1
    rcases bset_some h with ⟨hb, h1⟩ | ⟨_, h⟩
    · have e := beq_eq hb
      subst e
      exact ct53_ok m ih h1
    rcases bset_some h with ⟨hb, h1⟩ | ⟨_, h⟩
    · have e := beq_eq hb
      subst e
      exact ct72_ok m ih h1
    cases h
end Go.Proofs.YtmjnmiahblaanaaDoor
