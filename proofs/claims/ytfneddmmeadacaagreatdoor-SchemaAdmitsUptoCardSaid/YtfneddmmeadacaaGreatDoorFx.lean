/- Generated: the contracts. -/
import Derived.Test.YtfneddmmeadacaaGreatDoorEq0
import Derived.Test.YtfneddmmeadacaaGreatDoorEq1
set_option linter.unusedVariables false
set_option linter.unusedSimpArgs false
namespace Go.Proofs.YtfneddmmeadacaaGreatDoor
open Go.Am
set_option maxRecDepth 100000
theorem mixed:Tryz.prog.follows .mixedOrders=true:=by kernel_rfl
theorem ref14_Count_fx (m:Nat) (hct:∀R,CallOK (R:=R) Tryz.prog (ct m)) (a0:Dt) (a1:Int) {r:Int} (h:ref14_Count (m+1) a0 a1=some r):FX Tryz.prog 29 [(.dat 32 a0),(.dat 3 (.int a1))] [] (.dat 3 (.int r)) []:=
 FX_of (q:=((.dat 3 (.int r)),[])) (E:=env) (m:=m+1) (dec:=d9) jn_ok (hct _) mixed Tryz.func29 rfl (Nat.le_of_ble_eq_true rfl) (fun b hb=>d9_sim hb) ((ref14_Count_eq m a0 a1).trans h)
theorem schema_hasKind_fx (m:Nat) (hct:∀R,CallOK (R:=R) Tryz.prog (ct m)) (a0 a1:Int) {r:Bool} (h:schema_hasKind (m+1) a0 a1=some r):FX Tryz.prog 48 [(.dat 3 (.int a0)),(.dat 3 (.int a1))] [] (.dat 4 (.bool r)) []:=
 FX_of (q:=((.dat 4 (.bool r)),[])) (E:=env) (m:=m+1) (dec:=d13) jn_ok (hct _) mixed Tryz.func48 rfl (Nat.le_of_ble_eq_true rfl) (fun b hb=>d13_sim hb) ((schema_hasKind_eq m a0 a1).trans h)
theorem slices_Concat_fx (m:Nat) (hct:∀R,CallOK (R:=R) Tryz.prog (ct m)) (a0:List Dt) {r:List Dt} (h:slices_Concat (m+1) a0=some r):FX Tryz.prog 45 [(.dat 100 (.lst a0))] [] (.dat 28 (.lst r)) []:=
 FX_of (q:=((.dat 28 (.lst r)),[])) (E:=env) (m:=m+1) (dec:=d15) jn_ok (hct _) mixed Tryz.func45 rfl (Nat.le_of_ble_eq_true rfl) (fun b hb=>d15_sim hb) ((slices_Concat_eq m a0).trans h)
theorem i14_fx (m:Nat) (hct:∀R,CallOK (R:=R) Tryz.prog (ct m)) (a0:Bool) (a1:Int) (a2 a3 a4:List Dt) {r:List Dt×List Dt} (h:i14 (m+1) a0 a1 a2 a3 a4=some r):FX Tryz.prog 44 [(.dat 4 (.bool a0)),(.dat 3 (.int a1)),(.dat 28 (.lst a2)),(.ptr 0 [] 0),(.ptr 2 [] 0)] [(.box 40 (.row 1)),(.row 40 a3),(.box 28 (.dat 28 (.lst a4)))] (.tup []) [(.box 40 (.row 3)),.gone,(.box 28 (.dat 28 (.lst r.1))),(.row 40 r.2)]:=
 FX_of (q:=((.tup []),[(.box 40 (.row 3)),.gone,(.box 28 (.dat 28 (.lst r.1))),(.row 40 r.2)])) (E:=env) (m:=m+1) (dec:=d14) jn_ok (hct _) mixed Tryz.func44 rfl (Nat.le_of_ble_eq_true rfl) (fun b hb=>d14_sim hb) ((i14_eq m a0 a1 a2 a3 a4).trans h)
theorem schema_length_fx (m:Nat) (hct:∀R,CallOK (R:=R) Tryz.prog (ct m)) (a0:Dt) {r:Int×Bool} (h:schema_length (m+1) a0=some r):FX Tryz.prog 51 [(.dat 25 a0)] [] (.tup [(.dat 3 (.int r.1)),(.dat 4 (.bool r.2))]) []:=
 FX_of (q:=((.tup [(.dat 3 (.int r.1)),(.dat 4 (.bool r.2))]),[])) (E:=env) (m:=m+1) (dec:=d21) jn_ok (hct _) mixed Tryz.func51 rfl (Nat.le_of_ble_eq_true rfl) (fun b hb=>d21_sim hb) ((schema_length_eq m a0).trans h)
theorem schema_field_fx (m:Nat) (hct:∀R,CallOK (R:=R) Tryz.prog (ct m)) (a0:Dt) (a1:ByteArray) {r:Dt×Bool} (h:schema_field (m+1) a0 a1=some r):FX Tryz.prog 52 [(.dat 25 a0),(.dat 9 (.str a1))] [] (.tup [(.dat 25 r.1),(.dat 4 (.bool r.2))]) []:=
 FX_of (q:=((.tup [(.dat 25 r.1),(.dat 4 (.bool r.2))]),[])) (E:=env) (m:=m+1) (dec:=d22) jn_ok (hct _) mixed Tryz.func52 rfl (Nat.le_of_ble_eq_true rfl) (fun b hb=>d22_sim hb) ((schema_field_eq m a0 a1).trans h)
theorem i25_fx (m:Nat) (hct:∀R,CallOK (R:=R) Tryz.prog (ct m)) (a0 a1:Dt) {r:Bool} (h:i25 (m+1) a0 a1=some r):FX Tryz.prog 53 [(.dat 64 a0),(.rptr 53 a1)] [] (.dat 4 (.bool r)) []:=
 FX_of (q:=((.dat 4 (.bool r)),[])) (E:=env) (m:=m+1) (dec:=d13) jn_ok (hct _) mixed Tryz.func53 rfl (Nat.le_of_ble_eq_true rfl) (fun b hb=>d13_sim hb) ((i25_eq m a0 a1).trans h)
theorem i24_fx (m:Nat) (hct:∀R,CallOK (R:=R) Tryz.prog (ct m)) (a0:List Dt) (a1:Dt) {r:Int} (h:i24 (m+1) a0 a1=some r):FX Tryz.prog 82 [(.dat 29 (.lst a0)),(.fn 53 [(.rptr 53 a1)])] [] (.dat 3 (.int r)) []:=
 FX_of (q:=((.dat 3 (.int r)),[])) (E:=env) (m:=m+1) (dec:=d9) jn_ok (hct _) mixed Tryz.func82 rfl (Nat.le_of_ble_eq_true rfl) (fun b hb=>d9_sim hb) ((i24_eq m a0 a1).trans h)
theorem i23_fx (m:Nat) (hct:∀R,CallOK (R:=R) Tryz.prog (ct m)) (a0:List Dt) (a1:Dt) {r:Bool} (h:i23 (m+1) a0 a1=some r):FX Tryz.prog 54 [(.dat 29 (.lst a0)),(.fn 53 [(.rptr 53 a1)])] [] (.dat 4 (.bool r)) []:=
 FX_of (q:=((.dat 4 (.bool r)),[])) (E:=env) (m:=m+1) (dec:=d13) jn_ok (hct _) mixed Tryz.func54 rfl (Nat.le_of_ble_eq_true rfl) (fun b hb=>d13_sim hb) ((i23_eq m a0 a1).trans h)
theorem ref02_count_fx (m:Nat) (hct:∀R,CallOK (R:=R) Tryz.prog (ct m)) (a0:Dt) (a1 a2:Int) {r:Int} (h:ref02_count (m+1) a0 a1 a2=some r):FX Tryz.prog 17 [(.dat 25 a0),(.dat 3 (.int a1)),(.dat 3 (.int a2))] [] (.dat 3 (.int r)) []:=
 FX_of (q:=((.dat 3 (.int r)),[])) (E:=env) (m:=m+1) (dec:=d9) jn_ok (hct _) mixed Tryz.func17 rfl (Nat.le_of_ble_eq_true rfl) (fun b hb=>d9_sim hb) ((ref02_count_eq m a0 a1 a2).trans h)
theorem ref02_Few_fx (m:Nat) (hct:∀R,CallOK (R:=R) Tryz.prog (ct m)) (a0:Dt) (a1:Int) {r:Bool} (h:ref02_Few (m+1) a0 a1=some r):FX Tryz.prog 6 [(.dat 25 a0),(.dat 3 (.int a1))] [] (.dat 4 (.bool r)) []:=
 FX_of (q:=((.dat 4 (.bool r)),[])) (E:=env) (m:=m+1) (dec:=d13) jn_ok (hct _) mixed Tryz.func6 rfl (Nat.le_of_ble_eq_true rfl) (fun b hb=>d13_sim hb) ((ref02_Few_eq m a0 a1).trans h)
theorem law14_few_fx (m:Nat) (hct:∀R,CallOK (R:=R) Tryz.prog (ct m)) (a0 a1:Dt) {r:Bool} (h:law14_few (m+1) a0 a1=some r):FX Tryz.prog 11 [(.dat 32 a0),(.dat 25 a1)] [] (.dat 4 (.bool r)) []:=
 FX_of (q:=((.dat 4 (.bool r)),[])) (E:=env) (m:=m+1) (dec:=d13) jn_ok (hct _) mixed Tryz.func11 rfl (Nat.le_of_ble_eq_true rfl) (fun b hb=>d13_sim hb) ((law14_few_eq m a0 a1).trans h)
theorem i43_fx (m:Nat) (hct:∀R,CallOK (R:=R) Tryz.prog (ct m)) (a0 a1 a2:Int) (a3:List Dt) {r:List Dt} (h:i43 (m+1) a0 a1 a2 a3=some r):FX Tryz.prog 130 [(.row 0),(.dat 3 (.int a0)),(.dat 3 (.int a1)),(.dat 3 (.int a2)),(.fn 50 [])] [(.row 22 a3)] (.tup []) [(.row 22 r)]:=
 FX_of (q:=((.tup []),[(.row 22 r)])) (E:=env) (m:=m+1) (dec:=d43) jn_ok (hct _) mixed Tryz.func130 rfl (Nat.le_of_ble_eq_true rfl) (fun b hb=>d43_sim hb) ((i43_eq m a0 a1 a2 a3).trans h)
theorem i42_fx (m:Nat) (hct:∀R,CallOK (R:=R) Tryz.prog (ct m)) (a0 a1 a2:Int) (a3:List Dt) {r:List Dt} (h:i42 (m+1) a0 a1 a2 a3=some r):FX Tryz.prog 124 [(.row 0),(.dat 3 (.int a0)),(.dat 3 (.int a1)),(.dat 3 (.int a2)),(.fn 50 [])] [(.row 22 a3)] (.tup []) [(.row 22 r)]:=
 FX_of (q:=((.tup []),[(.row 22 r)])) (E:=env) (m:=m+1) (dec:=d43) jn_ok (hct _) mixed Tryz.func124 rfl (Nat.le_of_ble_eq_true rfl) (fun b hb=>d43_sim hb) ((i42_eq m a0 a1 a2 a3).trans h)
theorem ref14_length_fx (m:Nat) (hct:∀R,CallOK (R:=R) Tryz.prog (ct m)) (a0:Dt) {r:Int×Bool} (h:ref14_length (m+1) a0=some r):FX Tryz.prog 88 [(.dat 25 a0)] [] (.tup [(.dat 3 (.int r.1)),(.dat 4 (.bool r.2))]) []:=
 FX_of (q:=((.tup [(.dat 3 (.int r.1)),(.dat 4 (.bool r.2))]),[])) (E:=env) (m:=m+1) (dec:=d21) jn_ok (hct _) mixed Tryz.func88 rfl (Nat.le_of_ble_eq_true rfl) (fun b hb=>d21_sim hb) ((ref14_length_eq m a0).trans h)
theorem ref14_step_fx (m:Nat) (hct:∀R,CallOK (R:=R) Tryz.prog (ct m)) (a0:List Dt) (a1:ByteArray) {r:List Dt} (h:ref14_step (m+1) a0 a1=some r):FX Tryz.prog 59 [(.dat 28 (.lst a0)),(.dat 9 (.str a1))] [] (.dat 28 (.lst r)) []:=
 FX_of (q:=((.dat 28 (.lst r)),[])) (E:=env) (m:=m+1) (dec:=d15) jn_ok (hct _) mixed Tryz.func59 rfl (Nat.le_of_ble_eq_true rfl) (fun b hb=>d15_sim hb) ((ref14_step_eq m a0 a1).trans h)
theorem ref14_has_fx (m:Nat) (hct:∀R,CallOK (R:=R) Tryz.prog (ct m)) (a0:Dt) (a1:ByteArray) {r:Bool} (h:ref14_has (m+1) a0 a1=some r):FX Tryz.prog 89 [(.dat 32 a0),(.dat 9 (.str a1))] [] (.dat 4 (.bool r)) []:=
 FX_of (q:=((.dat 4 (.bool r)),[])) (E:=env) (m:=m+1) (dec:=d13) jn_ok (hct _) mixed Tryz.func89 rfl (Nat.le_of_ble_eq_true rfl) (fun b hb=>d13_sim hb) ((ref14_has_eq m a0 a1).trans h)
theorem ref04_prefix_fx (m:Nat) (hct:∀R,CallOK (R:=R) Tryz.prog (ct m)) (a0 a1:List Dt) {r:Bool} (h:ref04_prefix (m+1) a0 a1=some r):FX Tryz.prog 43 [(.dat 28 (.lst a0)),(.dat 28 (.lst a1))] [] (.dat 4 (.bool r)) []:=
 FX_of (q:=((.dat 4 (.bool r)),[])) (E:=env) (m:=m+1) (dec:=d13) jn_ok (hct _) mixed Tryz.func43 rfl (Nat.le_of_ble_eq_true rfl) (fun b hb=>d13_sim hb) ((ref04_prefix_eq m a0 a1).trans h)
theorem ref04_Same_fx (m:Nat) (hct:∀R,CallOK (R:=R) Tryz.prog (ct m)) (a0 a1:List Dt) {r:Bool} (h:ref04_Same (m+1) a0 a1=some r):FX Tryz.prog 28 [(.dat 28 (.lst a0)),(.dat 28 (.lst a1))] [] (.dat 4 (.bool r)) []:=
 FX_of (q:=((.dat 4 (.bool r)),[])) (E:=env) (m:=m+1) (dec:=d13) jn_ok (hct _) mixed Tryz.func28 rfl (Nat.le_of_ble_eq_true rfl) (fun b hb=>d13_sim hb) ((ref04_Same_eq m a0 a1).trans h)
theorem ref14_SameList_fx (m:Nat) (hct:∀R,CallOK (R:=R) Tryz.prog (ct m)) (a0 a1:List Dt) {r:Bool} (h:ref14_SameList (m+1) a0 a1=some r):FX Tryz.prog 12 [(.dat 40 (.lst a0)),(.dat 40 (.lst a1))] [] (.dat 4 (.bool r)) []:=
 FX_of (q:=((.dat 4 (.bool r)),[])) (E:=env) (m:=m+1) (dec:=d13) jn_ok (hct _) mixed Tryz.func12 rfl (Nat.le_of_ble_eq_true rfl) (fun b hb=>d13_sim hb) ((ref14_SameList_eq m a0 a1).trans h)
theorem schema_isName_fx (m:Nat) (hct:∀R,CallOK (R:=R) Tryz.prog (ct m)) (a0:ByteArray) {r:Bool} (h:schema_isName (m+1) a0=some r):FX Tryz.prog 92 [(.dat 9 (.str a0))] [] (.dat 4 (.bool r)) []:=
 FX_of (q:=((.dat 4 (.bool r)),[])) (E:=env) (m:=m+1) (dec:=d13) jn_ok (hct _) mixed Tryz.func92 rfl (Nat.le_of_ble_eq_true rfl) (fun b hb=>d13_sim hb) ((schema_isName_eq m a0).trans h)
theorem cmp_isNaN_fx (m:Nat) (hct:∀R,CallOK (R:=R) Tryz.prog (ct m)) (a0:Int) {r:Bool} (h:cmp_isNaN (m+1) a0=some r):FX Tryz.prog 108 [(.dat 3 (.int a0))] [] (.dat 4 (.bool r)) []:=
 FX_of (q:=((.dat 4 (.bool r)),[])) (E:=env) (m:=m+1) (dec:=d13) jn_ok (hct _) mixed Tryz.func108 rfl (Nat.le_of_ble_eq_true rfl) (fun b hb=>d13_sim hb) ((cmp_isNaN_eq m a0).trans h)
theorem cmp_Compare_fx (m:Nat) (hct:∀R,CallOK (R:=R) Tryz.prog (ct m)) (a0 a1:Int) {r:Int} (h:cmp_Compare (m+1) a0 a1=some r):FX Tryz.prog 80 [(.dat 3 (.int a0)),(.dat 3 (.int a1))] [] (.dat 3 (.int r)) []:=
 FX_of (q:=((.dat 3 (.int r)),[])) (E:=env) (m:=m+1) (dec:=d9) jn_ok (hct _) mixed Tryz.func80 rfl (Nat.le_of_ble_eq_true rfl) (fun b hb=>d9_sim hb) ((cmp_Compare_eq m a0 a1).trans h)
theorem value_Compare_fx (m:Nat) (hct:∀R,CallOK (R:=R) Tryz.prog (ct m)) (a0 a1:Dt) {r:Int} (h:value_Compare (m+1) a0 a1=some r):FX Tryz.prog 50 [(.dat 25 a0),(.dat 25 a1)] [] (.dat 3 (.int r)) []:=
 FX_of (q:=((.dat 3 (.int r)),[])) (E:=env) (m:=m+1) (dec:=d9) jn_ok (hct _) mixed Tryz.func50 rfl (Nat.le_of_ble_eq_true rfl) (fun b hb=>d9_sim hb) ((value_Compare_eq m a0 a1).trans h)
theorem value_Equal_fx (m:Nat) (hct:∀R,CallOK (R:=R) Tryz.prog (ct m)) (a0 a1:Dt) {r:Bool} (h:value_Equal (m+1) a0 a1=some r):FX Tryz.prog 47 [(.dat 25 a0),(.dat 25 a1)] [] (.dat 4 (.bool r)) []:=
 FX_of (q:=((.dat 4 (.bool r)),[])) (E:=env) (m:=m+1) (dec:=d13) jn_ok (hct _) mixed Tryz.func47 rfl (Nat.le_of_ble_eq_true rfl) (fun b hb=>d13_sim hb) ((value_Equal_eq m a0 a1).trans h)
theorem i18_fx (m:Nat) (hct:∀R,CallOK (R:=R) Tryz.prog (ct m)) (a0 a1:Dt) {r:Bool} (h:i18 (m+1) a0 a1=some r):FX Tryz.prog 46 [(.dat 25 a0),(.rptr 25 a1)] [] (.dat 4 (.bool r)) []:=
 FX_of (q:=((.dat 4 (.bool r)),[])) (E:=env) (m:=m+1) (dec:=d13) jn_ok (hct _) mixed Tryz.func46 rfl (Nat.le_of_ble_eq_true rfl) (fun b hb=>d13_sim hb) ((i18_eq m a0 a1).trans h)
theorem i17_fx (m:Nat) (hct:∀R,CallOK (R:=R) Tryz.prog (ct m)) (a0:List Dt) (a1:Dt) {r:Int} (h:i17 (m+1) a0 a1=some r):FX Tryz.prog 79 [(.dat 22 (.lst a0)),(.fn 46 [(.rptr 25 a1)])] [] (.dat 3 (.int r)) []:=
 FX_of (q:=((.dat 3 (.int r)),[])) (E:=env) (m:=m+1) (dec:=d9) jn_ok (hct _) mixed Tryz.func79 rfl (Nat.le_of_ble_eq_true rfl) (fun b hb=>d9_sim hb) ((i17_eq m a0 a1).trans h)
theorem i16_fx (m:Nat) (hct:∀R,CallOK (R:=R) Tryz.prog (ct m)) (a0:List Dt) (a1:Dt) {r:Bool} (h:i16 (m+1) a0 a1=some r):FX Tryz.prog 49 [(.dat 22 (.lst a0)),(.fn 46 [(.rptr 25 a1)])] [] (.dat 4 (.bool r)) []:=
 FX_of (q:=((.dat 4 (.bool r)),[])) (E:=env) (m:=m+1) (dec:=d13) jn_ok (hct _) mixed Tryz.func49 rfl (Nat.le_of_ble_eq_true rfl) (fun b hb=>d13_sim hb) ((i16_eq m a0 a1).trans h)
theorem i40_fx (m:Nat) (hct:∀R,CallOK (R:=R) Tryz.prog (ct m)) (a0 a1:Int) (a2:List Dt) {r:List Dt} (h:i40 (m+1) a0 a1 a2=some r):FX Tryz.prog 118 [(.row 0),(.dat 3 (.int a0)),(.dat 3 (.int a1)),(.fn 50 [])] [(.row 22 a2)] (.tup []) [(.row 22 r)]:=
 FX_of (q:=((.tup []),[(.row 22 r)])) (E:=env) (m:=m+1) (dec:=d43) jn_ok (hct _) mixed Tryz.func118 rfl (Nat.le_of_ble_eq_true rfl) (fun b hb=>d43_sim hb) ((i40_eq m a0 a1 a2).trans h)
theorem i41_fx (m:Nat) (hct:∀R,CallOK (R:=R) Tryz.prog (ct m)) (a0 a1 a2:Int) (a3:List Dt) {r:List Dt} (h:i41 (m+1) a0 a1 a2 a3=some r):FX Tryz.prog 119 [(.row 0),(.dat 3 (.int a0)),(.dat 3 (.int a1)),(.dat 3 (.int a2)),(.fn 50 [])] [(.row 22 a3)] (.tup []) [(.row 22 r)]:=
 FX_of (q:=((.tup []),[(.row 22 r)])) (E:=env) (m:=m+1) (dec:=d43) jn_ok (hct _) mixed Tryz.func119 rfl (Nat.le_of_ble_eq_true rfl) (fun b hb=>d43_sim hb) ((i41_eq m a0 a1 a2 a3).trans h)
theorem i39_fx (m:Nat) (hct:∀R,CallOK (R:=R) Tryz.prog (ct m)) (a0:Int) (a1:List Dt) {r:List Dt} (h:i39 (m+1) a0 a1=some r):FX Tryz.prog 110 [(.row 0),(.dat 3 (.int a0)),(.fn 50 [])] [(.row 22 a1)] (.tup []) [(.row 22 r)]:=
 FX_of (q:=((.tup []),[(.row 22 r)])) (E:=env) (m:=m+1) (dec:=d43) jn_ok (hct _) mixed Tryz.func110 rfl (Nat.le_of_ble_eq_true rfl) (fun b hb=>d43_sim hb) ((i39_eq m a0 a1).trans h)
theorem i38_fx (m:Nat) (hct:∀R,CallOK (R:=R) Tryz.prog (ct m)) (a0:List Dt) {r:List Dt} (h:i38 (m+1) a0=some r):FX Tryz.prog 84 [(.row 0),(.fn 50 [])] [(.row 22 a0)] (.tup []) [(.row 22 r)]:=
 FX_of (q:=((.tup []),[(.row 22 r)])) (E:=env) (m:=m+1) (dec:=d43) jn_ok (hct _) mixed Tryz.func84 rfl (Nat.le_of_ble_eq_true rfl) (fun b hb=>d43_sim hb) ((i38_eq m a0).trans h)
theorem schema_repeats_fx (m:Nat) (hct:∀R,CallOK (R:=R) Tryz.prog (ct m)) (a0:List Dt) {r:Bool} (h:schema_repeats (m+1) a0=some r):FX Tryz.prog 55 [(.dat 22 (.lst a0))] [] (.dat 4 (.bool r)) []:=
 FX_of (q:=((.dat 4 (.bool r)),[])) (E:=env) (m:=m+1) (dec:=d13) jn_ok (hct _) mixed Tryz.func55 rfl (Nat.le_of_ble_eq_true rfl) (fun b hb=>d13_sim hb) ((schema_repeats_eq m a0).trans h)
theorem i12_fx (m:Nat) (hct:∀R,CallOK (R:=R) Tryz.prog (ct m)) (a0 a1:Dt) (a2 a3:List Dt) {r:List Dt} (h:i12 (m+1) a0 a1 a2 a3=some r):FX Tryz.prog 30 [(.row 0),(.dat 32 a0),(.dat 25 a1),(.dat 28 (.lst a2))] [(.row 40 a3)] (.row 1) [.gone,(.row 40 r)]:=
 FX_of (q:=((.row 1),[.gone,(.row 40 r)])) (E:=env) (m:=m+1) (dec:=d12) jn_ok (hct _) mixed Tryz.func30 rfl (Nat.le_of_ble_eq_true rfl) (fun b hb=>d12_sim hb) ((i12_eq m a0 a1 a2 a3).trans h)
theorem ref01_Ints_fx (m:Nat) (hct:∀R,CallOK (R:=R) Tryz.prog (ct m)) (a0 a1:Int) {r:Int} (h:ref01_Ints (m+1) a0 a1=some r):FX Tryz.prog 113 [(.dat 3 (.int a0)),(.dat 3 (.int a1))] [] (.dat 3 (.int r)) []:=
 FX_of (q:=((.dat 3 (.int r)),[])) (E:=env) (m:=m+1) (dec:=d9) jn_ok (hct _) mixed Tryz.func113 rfl (Nat.le_of_ble_eq_true rfl) (fun b hb=>d9_sim hb) ((ref01_Ints_eq m a0 a1).trans h)
theorem ref01_Texts_fx (m:Nat) (hct:∀R,CallOK (R:=R) Tryz.prog (ct m)) (a0 a1:ByteArray) {r:Int} (h:ref01_Texts (m+1) a0 a1=some r):FX Tryz.prog 114 [(.dat 9 (.str a0)),(.dat 9 (.str a1))] [] (.dat 3 (.int r)) []:=
 FX_of (q:=((.dat 3 (.int r)),[])) (E:=env) (m:=m+1) (dec:=d9) jn_ok (hct _) mixed Tryz.func114 rfl (Nat.le_of_ble_eq_true rfl) (fun b hb=>d9_sim hb) ((ref01_Texts_eq m a0 a1).trans h)
theorem ref01_Compare_fx (m:Nat) (hct:∀R,CallOK (R:=R) Tryz.prog (ct m)) (a0 a1:Dt) {r:Int} (h:ref01_Compare (m+1) a0 a1=some r):FX Tryz.prog 87 [(.dat 25 a0),(.dat 25 a1)] [] (.dat 3 (.int r)) []:=
 FX_of (q:=((.dat 3 (.int r)),[])) (E:=env) (m:=m+1) (dec:=d9) jn_ok (hct _) mixed Tryz.func87 rfl (Nat.le_of_ble_eq_true rfl) (fun b hb=>d9_sim hb) ((ref01_Compare_eq m a0 a1).trans h)
theorem ref01_Equal_fx (m:Nat) (hct:∀R,CallOK (R:=R) Tryz.prog (ct m)) (a0 a1:Dt) {r:Bool} (h:ref01_Equal (m+1) a0 a1=some r):FX Tryz.prog 112 [(.dat 25 a0),(.dat 25 a1)] [] (.dat 4 (.bool r)) []:=
 FX_of (q:=((.dat 4 (.bool r)),[])) (E:=env) (m:=m+1) (dec:=d13) jn_ok (hct _) mixed Tryz.func112 rfl (Nat.le_of_ble_eq_true rfl) (fun b hb=>d13_sim hb) ((ref01_Equal_eq m a0 a1).trans h)
theorem ref14_among_fx (m:Nat) (hct:∀R,CallOK (R:=R) Tryz.prog (ct m)) (a0:List Dt) (a1:Dt) {r:Bool} (h:ref14_among (m+1) a0 a1=some r):FX Tryz.prog 86 [(.dat 22 (.lst a0)),(.dat 25 a1)] [] (.dat 4 (.bool r)) []:=
 FX_of (q:=((.dat 4 (.bool r)),[])) (E:=env) (m:=m+1) (dec:=d13) jn_ok (hct _) mixed Tryz.func86 rfl (Nat.le_of_ble_eq_true rfl) (fun b hb=>d13_sim hb) ((ref14_among_eq m a0 a1).trans h)
theorem ref01_at_fx (m:Nat) (hct:∀R,CallOK (R:=R) Tryz.prog (ct m)) (a0:Dt) (a1:ByteArray) {r:Int} (h:ref01_at (m+1) a0 a1=some r):FX Tryz.prog 90 [(.dat 25 a0),(.dat 9 (.str a1))] [] (.dat 3 (.int r)) []:=
 FX_of (q:=((.dat 3 (.int r)),[])) (E:=env) (m:=m+1) (dec:=d9) jn_ok (hct _) mixed Tryz.func90 rfl (Nat.le_of_ble_eq_true rfl) (fun b hb=>d9_sim hb) ((ref01_at_eq m a0 a1).trans h)
theorem ref01_Get_fx (m:Nat) (hct:∀R,CallOK (R:=R) Tryz.prog (ct m)) (a0:Dt) (a1:ByteArray) {r:Dt×Bool} (h:ref01_Get (m+1) a0 a1=some r):FX Tryz.prog 58 [(.dat 25 a0),(.dat 9 (.str a1))] [] (.tup [(.dat 25 r.1),(.dat 4 (.bool r.2))]) []:=
 FX_of (q:=((.tup [(.dat 25 r.1),(.dat 4 (.bool r.2))]),[])) (E:=env) (m:=m+1) (dec:=d22) jn_ok (hct _) mixed Tryz.func58 rfl (Nat.le_of_ble_eq_true rfl) (fun b hb=>d22_sim hb) ((ref01_Get_eq m a0 a1).trans h)
theorem ref14_own_fx (m:Nat) (hct:∀R,CallOK (R:=R) Tryz.prog (ct m)) (a0 a1:Dt) (a2:List Dt) {r:List Dt} (h:ref14_own (m+1) a0 a1 a2=some r):FX Tryz.prog 57 [(.dat 32 a0),(.dat 25 a1),(.dat 28 (.lst a2))] [] (.row 0) [(.row 40 r)]:=
 FX_of (q:=((.row 0),[(.row 40 r)])) (E:=env) (m:=m+1) (dec:=d45) jn_ok (hct _) mixed Tryz.func57 rfl (Nat.le_of_ble_eq_true rfl) (fun b hb=>d45_sim hb) ((ref14_own_eq m a0 a1 a2).trans h)
theorem ref05_digit_fx (m:Nat) (hct:∀R,CallOK (R:=R) Tryz.prog (ct m)) (a0:Int) {r:ByteArray} (h:ref05_digit (m+1) a0=some r):FX Tryz.prog 91 [(.dat 3 (.int a0))] [] (.dat 9 (.str r)) []:=
 FX_of (q:=((.dat 9 (.str r)),[])) (E:=env) (m:=m+1) (dec:=d63) jn_ok (hct _) mixed Tryz.func91 rfl (Nat.le_of_ble_eq_true rfl) (fun b hb=>d63_sim hb) ((ref05_digit_eq m a0).trans h)
theorem ref05_Decimal_fx (m:Nat) (hct:∀R,CallOK (R:=R) Tryz.prog (ct m)) (a0:Int) {r:ByteArray} (h:ref05_Decimal (m+1) a0=some r):FX Tryz.prog 60 [(.dat 3 (.int a0))] [] (.dat 9 (.str r)) []:=
 FX_of (q:=((.dat 9 (.str r)),[])) (E:=env) (m:=m+1) (dec:=d63) jn_ok (hct _) mixed Tryz.func60 rfl (Nat.le_of_ble_eq_true rfl) (fun b hb=>d63_sim hb) ((ref05_Decimal_eq m a0).trans h)
theorem ref14_violations_fx (m:Nat) (hct:∀R,CallOK (R:=R) Tryz.prog (ct m)) (a0 a1:Dt) (a2:List Dt) {r:List Dt} (h:ref14_violations (m+1) a0 a1 a2=some r):FX Tryz.prog 31 [(.dat 32 a0),(.dat 25 a1),(.dat 28 (.lst a2))] [] (.dat 40 (.lst r)) []:=
 FX_of (q:=((.dat 40 (.lst r)),[])) (E:=env) (m:=m+1) (dec:=d29) jn_ok (hct _) mixed Tryz.func31 rfl (Nat.le_of_ble_eq_true rfl) (fun b hb=>d29_sim hb) ((ref14_violations_eq m a0 a1 a2).trans h)
theorem value_nodes_fx (m:Nat) (hct:∀R,CallOK (R:=R) Tryz.prog (ct m)) (a0:Dt) (a1:Int) {r:Int} (h:value_nodes (m+1) a0 a1=some r):FX Tryz.prog 62 [(.dat 25 a0),(.dat 3 (.int a1))] [] (.dat 3 (.int r)) []:=
 FX_of (q:=((.dat 3 (.int r)),[])) (E:=env) (m:=m+1) (dec:=d9) jn_ok (hct _) mixed Tryz.func62 rfl (Nat.le_of_ble_eq_true rfl) (fun b hb=>d9_sim hb) ((value_nodes_eq m a0 a1).trans h)
theorem i79_fx (m:Nat) (hct:∀R,CallOK (R:=R) Tryz.prog (ct m)) (a0:Dt) (a1 a2:Int) {r:Int×Int} (h:i79 (m+1) a0 a1 a2=some r):FX Tryz.prog 94 [(.dat 25 a0),(.fn 95 [(.ptr 0 [] 0),(.ptr 1 [] 0)])] [(.box 3 (.dat 3 (.int a1))),(.box 3 (.dat 3 (.int a2)))] (.tup []) [(.box 3 (.dat 3 (.int r.1))),(.box 3 (.dat 3 (.int r.2)))]:=
 FX_of (q:=((.tup []),[(.box 3 (.dat 3 (.int r.1))),(.box 3 (.dat 3 (.int r.2)))])) (E:=env) (m:=m+1) (dec:=d79) jn_ok (hct _) mixed Tryz.func94 rfl (Nat.le_of_ble_eq_true rfl) (fun b hb=>d79_sim hb) ((i79_eq m a0 a1 a2).trans h)
theorem i80_fx (m:Nat) (hct:∀R,CallOK (R:=R) Tryz.prog (ct m)) (a0:Dt) (a1 a2:Int) {r:Bool×Int×Int} (h:i80 (m+1) a0 a1 a2=some r):FX Tryz.prog 95 [(.dat 25 a0),(.ptr 0 [] 0),(.ptr 1 [] 0)] [(.box 3 (.dat 3 (.int a1))),(.box 3 (.dat 3 (.int a2)))] (.dat 4 (.bool r.1)) [(.box 3 (.dat 3 (.int r.2.1))),(.box 3 (.dat 3 (.int r.2.2)))]:=
 FX_of (q:=((.dat 4 (.bool r.1)),[(.box 3 (.dat 3 (.int r.2.1))),(.box 3 (.dat 3 (.int r.2.2)))])) (E:=env) (m:=m+1) (dec:=d80) jn_ok (hct _) mixed Tryz.func95 rfl (Nat.le_of_ble_eq_true rfl) (fun b hb=>d80_sim hb) ((i80_eq m a0 a1 a2).trans h)
theorem value_Nodes_fx (m:Nat) (hct:∀R,CallOK (R:=R) Tryz.prog (ct m)) (a0:Dt) {r:Int} (h:value_Nodes (m+1) a0=some r):FX Tryz.prog 33 [(.dat 25 a0)] [] (.dat 3 (.int r)) []:=
 FX_of (q:=((.dat 3 (.int r)),[])) (E:=env) (m:=m+1) (dec:=d9) jn_ok (hct _) mixed Tryz.func33 rfl (Nat.le_of_ble_eq_true rfl) (fun b hb=>d9_sim hb) ((value_Nodes_eq m a0).trans h)
theorem value_depth_fx (m:Nat) (hct:∀R,CallOK (R:=R) Tryz.prog (ct m)) (a0:Dt) (a1:Int) {r:Int} (h:value_depth (m+1) a0 a1=some r):FX Tryz.prog 63 [(.dat 25 a0),(.dat 3 (.int a1))] [] (.dat 3 (.int r)) []:=
 FX_of (q:=((.dat 3 (.int r)),[])) (E:=env) (m:=m+1) (dec:=d9) jn_ok (hct _) mixed Tryz.func63 rfl (Nat.le_of_ble_eq_true rfl) (fun b hb=>d9_sim hb) ((value_depth_eq m a0 a1).trans h)
theorem i81_fx (m:Nat) (hct:∀R,CallOK (R:=R) Tryz.prog (ct m)) (a0:Dt) (a1 a2:Int) {r:Int×Int} (h:i81 (m+1) a0 a1 a2=some r):FX Tryz.prog 94 [(.dat 25 a0),(.fn 96 [(.ptr 0 [] 0),(.ptr 1 [] 0)])] [(.box 3 (.dat 3 (.int a1))),(.box 3 (.dat 3 (.int a2)))] (.tup []) [(.box 3 (.dat 3 (.int r.1))),(.box 3 (.dat 3 (.int r.2)))]:=
 FX_of (q:=((.tup []),[(.box 3 (.dat 3 (.int r.1))),(.box 3 (.dat 3 (.int r.2)))])) (E:=env) (m:=m+1) (dec:=d79) jn_ok (hct _) mixed Tryz.func94 rfl (Nat.le_of_ble_eq_true rfl) (fun b hb=>d79_sim hb) ((i81_eq m a0 a1 a2).trans h)
theorem i82_fx (m:Nat) (hct:∀R,CallOK (R:=R) Tryz.prog (ct m)) (a0:Dt) (a1 a2:Int) {r:Bool×Int×Int} (h:i82 (m+1) a0 a1 a2=some r):FX Tryz.prog 96 [(.dat 25 a0),(.ptr 0 [] 0),(.ptr 1 [] 0)] [(.box 3 (.dat 3 (.int a1))),(.box 3 (.dat 3 (.int a2)))] (.dat 4 (.bool r.1)) [(.box 3 (.dat 3 (.int r.2.1))),(.box 3 (.dat 3 (.int r.2.2)))]:=
 FX_of (q:=((.dat 4 (.bool r.1)),[(.box 3 (.dat 3 (.int r.2.1))),(.box 3 (.dat 3 (.int r.2.2)))])) (E:=env) (m:=m+1) (dec:=d80) jn_ok (hct _) mixed Tryz.func96 rfl (Nat.le_of_ble_eq_true rfl) (fun b hb=>d80_sim hb) ((i82_eq m a0 a1 a2).trans h)
theorem value_Depth_fx (m:Nat) (hct:∀R,CallOK (R:=R) Tryz.prog (ct m)) (a0:Dt) {r:Int} (h:value_Depth (m+1) a0=some r):FX Tryz.prog 34 [(.dat 25 a0)] [] (.dat 3 (.int r)) []:=
 FX_of (q:=((.dat 3 (.int r)),[])) (E:=env) (m:=m+1) (dec:=d9) jn_ok (hct _) mixed Tryz.func34 rfl (Nat.le_of_ble_eq_true rfl) (fun b hb=>d9_sim hb) ((value_Depth_eq m a0).trans h)
theorem ref01_Name_fx (m:Nat) (hct:∀R,CallOK (R:=R) Tryz.prog (ct m)) (a0:ByteArray) {r:Bool} (h:ref01_Name (m+1) a0=some r):FX Tryz.prog 102 [(.dat 9 (.str a0))] [] (.dat 4 (.bool r)) []:=
 FX_of (q:=((.dat 4 (.bool r)),[])) (E:=env) (m:=m+1) (dec:=d13) jn_ok (hct _) mixed Tryz.func102 rfl (Nat.le_of_ble_eq_true rfl) (fun b hb=>d13_sim hb) ((ref01_Name_eq m a0).trans h)
theorem ref14_different_fx (m:Nat) (hct:∀R,CallOK (R:=R) Tryz.prog (ct m)) (a0:List Dt) {r:Bool} (h:ref14_different (m+1) a0=some r):FX Tryz.prog 105 [(.dat 28 (.lst a0))] [] (.dat 4 (.bool r)) []:=
 FX_of (q:=((.dat 4 (.bool r)),[])) (E:=env) (m:=m+1) (dec:=d13) jn_ok (hct _) mixed Tryz.func105 rfl (Nat.le_of_ble_eq_true rfl) (fun b hb=>d13_sim hb) ((ref14_different_eq m a0).trans h)
theorem ref01_Same_fx (m:Nat) (hct:∀R,CallOK (R:=R) Tryz.prog (ct m)) (a0 a1:Dt) {r:Bool} (h:ref01_Same (m+1) a0 a1=some r):FX Tryz.prog 26 [(.dat 25 a0),(.dat 25 a1)] [] (.dat 4 (.bool r)) []:=
 FX_of (q:=((.dat 4 (.bool r)),[])) (E:=env) (m:=m+1) (dec:=d13) jn_ok (hct _) mixed Tryz.func26 rfl (Nat.le_of_ble_eq_true rfl) (fun b hb=>d13_sim hb) ((ref01_Same_eq m a0 a1).trans h)
theorem value_isName_fx (m:Nat) (hct:∀R,CallOK (R:=R) Tryz.prog (ct m)) (a0:ByteArray) {r:Bool} (h:value_isName (m+1) a0=some r):FX Tryz.prog 116 [(.dat 9 (.str a0))] [] (.dat 4 (.bool r)) []:=
 FX_of (q:=((.dat 4 (.bool r)),[])) (E:=env) (m:=m+1) (dec:=d13) jn_ok (hct _) mixed Tryz.func116 rfl (Nat.le_of_ble_eq_true rfl) (fun b hb=>d13_sim hb) ((value_isName_eq m a0).trans h)
theorem value_sound_fx (m:Nat) (hct:∀R,CallOK (R:=R) Tryz.prog (ct m)) (a0:Dt) {r:Bool} (h:value_sound (m+1) a0=some r):FX Tryz.prog 65 [(.dat 25 a0)] [] (.dat 4 (.bool r)) []:=
 FX_of (q:=((.dat 4 (.bool r)),[])) (E:=env) (m:=m+1) (dec:=d13) jn_ok (hct _) mixed Tryz.func65 rfl (Nat.le_of_ble_eq_true rfl) (fun b hb=>d13_sim hb) ((value_sound_eq m a0).trans h)
theorem value_soundFields_fx (m:Nat) (hct:∀R,CallOK (R:=R) Tryz.prog (ct m)) (a0:List Dt) {r:Bool} (h:value_soundFields (m+1) a0=some r):FX Tryz.prog 98 [(.dat 23 (.lst a0))] [] (.dat 4 (.bool r)) []:=
 FX_of (q:=((.dat 4 (.bool r)),[])) (E:=env) (m:=m+1) (dec:=d13) jn_ok (hct _) mixed Tryz.func98 rfl (Nat.le_of_ble_eq_true rfl) (fun b hb=>d13_sim hb) ((value_soundFields_eq m a0).trans h)
theorem value_Valid_fx (m:Nat) (hct:∀R,CallOK (R:=R) Tryz.prog (ct m)) (a0:Dt) {r:Bool} (h:value_Valid (m+1) a0=some r):FX Tryz.prog 36 [(.dat 25 a0)] [] (.dat 4 (.bool r)) []:=
 FX_of (q:=((.dat 4 (.bool r)),[])) (E:=env) (m:=m+1) (dec:=d13) jn_ok (hct _) mixed Tryz.func36 rfl (Nat.le_of_ble_eq_true rfl) (fun b hb=>d13_sim hb) ((value_Valid_eq m a0).trans h)
theorem schema_bound_fx (m:Nat) (hct:∀R,CallOK (R:=R) Tryz.prog (ct m)) (a0:Bool) (a1:Dt) {r:Bool} (h:schema_bound (m+1) a0 a1=some r):FX Tryz.prog 93 [(.dat 4 (.bool a0)),(.dat 25 a1)] [] (.dat 4 (.bool r)) []:=
 FX_of (q:=((.dat 4 (.bool r)),[])) (E:=env) (m:=m+1) (dec:=d13) jn_ok (hct _) mixed Tryz.func93 rfl (Nat.le_of_ble_eq_true rfl) (fun b hb=>d13_sim hb) ((schema_bound_eq m a0 a1).trans h)
theorem schema_checkOne_fx (m:Nat) (hct:∀R,CallOK (R:=R) Tryz.prog (ct m)) (a0:Dt) {r:Int} (h:schema_checkOne (m+1) a0=some r):FX Tryz.prog 61 [(.dat 32 a0)] [] (.dat 33 (.int r)) []:=
 FX_of (q:=((.dat 33 (.int r)),[])) (E:=env) (m:=m+1) (dec:=d33) jn_ok (hct _) mixed Tryz.func61 rfl (Nat.le_of_ble_eq_true rfl) (fun b hb=>d33_sim hb) ((schema_checkOne_eq m a0).trans h)
theorem i32_fx (m:Nat) (hct:∀R,CallOK (R:=R) Tryz.prog (ct m)) (a0:Dt) (a1 a2:Int) {r:Int×Int} (h:i32 (m+1) a0 a1 a2=some r):FX Tryz.prog 32 [(.dat 32 a0),(.dat 3 (.int a1)),(.ptr 0 [] 0)] [(.box 3 (.dat 3 (.int a2)))] (.dat 33 (.int r.1)) [(.box 3 (.dat 3 (.int r.2)))]:=
 FX_of (q:=((.dat 33 (.int r.1)),[(.box 3 (.dat 3 (.int r.2)))])) (E:=env) (m:=m+1) (dec:=d32) jn_ok (hct _) mixed Tryz.func32 rfl (Nat.le_of_ble_eq_true rfl) (fun b hb=>d32_sim hb) ((i32_eq m a0 a1 a2).trans h)
theorem schema_Valid_fx (m:Nat) (hct:∀R,CallOK (R:=R) Tryz.prog (ct m)) (a0:Dt) {r:Int} (h:schema_Valid (m+1) a0=some r):FX Tryz.prog 20 [(.dat 32 a0)] [] (.dat 33 (.int r)) []:=
 FX_of (q:=((.dat 33 (.int r)),[])) (E:=env) (m:=m+1) (dec:=d33) jn_ok (hct _) mixed Tryz.func20 rfl (Nat.le_of_ble_eq_true rfl) (fun b hb=>d33_sim hb) ((schema_Valid_eq m a0).trans h)
theorem schema_Check_fx (m:Nat) (hct:∀R,CallOK (R:=R) Tryz.prog (ct m)) (a0 a1:Dt) {r:List Dt} (h:schema_Check (m+1) a0 a1=some r):FX Tryz.prog 13 [(.dat 32 a0),(.dat 25 a1)] [] (.dat 40 (.lst r)) []:=
 FX_of (q:=((.dat 40 (.lst r)),[])) (E:=env) (m:=m+1) (dec:=d29) jn_ok (hct _) mixed Tryz.func13 rfl (Nat.le_of_ble_eq_true rfl) (fun b hb=>d29_sim hb) ((schema_Check_eq m a0 a1).trans h)
theorem schema_Admit_fx (m:Nat) (hct:∀R,CallOK (R:=R) Tryz.prog (ct m)) (a0 a1 a2:Dt) {r:Int×List Dt} (h:schema_Admit (m+1) a0 a1 a2=some r):FX Tryz.prog 15 [(.dat 44 a0),(.dat 25 a1),(.dat 25 a2)] [] (.tup [(.dat 33 (.int r.1)),(.dat 40 (.lst r.2))]) []:=
 FX_of (q:=((.tup [(.dat 33 (.int r.1)),(.dat 40 (.lst r.2))]),[])) (E:=env) (m:=m+1) (dec:=d7) jn_ok (hct _) mixed Tryz.func15 rfl (Nat.le_of_ble_eq_true rfl) (fun b hb=>d7_sim hb) ((schema_Admit_eq m a0 a1 a2).trans h)
theorem ref01_Parts_fx (m:Nat) (hct:∀R,CallOK (R:=R) Tryz.prog (ct m)) (a0:Dt) {r:List Dt} (h:ref01_Parts (m+1) a0=some r):FX Tryz.prog 100 [(.dat 25 a0)] [] (.dat 22 (.lst r)) []:=
 FX_of (q:=((.dat 22 (.lst r)),[])) (E:=env) (m:=m+1) (dec:=d88) jn_ok (hct _) mixed Tryz.func100 rfl (Nat.le_of_ble_eq_true rfl) (fun b hb=>d88_sim hb) ((ref01_Parts_eq m a0).trans h)
theorem ref01_levels_fx (m:Nat) (hct:∀R,CallOK (R:=R) Tryz.prog (ct m)) (a0:Dt) (a1:Int) {r:Int} (h:ref01_levels (m+1) a0 a1=some r):FX Tryz.prog 70 [(.dat 25 a0),(.dat 3 (.int a1))] [] (.dat 3 (.int r)) []:=
 FX_of (q:=((.dat 3 (.int r)),[])) (E:=env) (m:=m+1) (dec:=d9) jn_ok (hct _) mixed Tryz.func70 rfl (Nat.le_of_ble_eq_true rfl) (fun b hb=>d9_sim hb) ((ref01_levels_eq m a0 a1).trans h)
theorem ref01_Depth_fx (m:Nat) (hct:∀R,CallOK (R:=R) Tryz.prog (ct m)) (a0:Dt) {r:Int} (h:ref01_Depth (m+1) a0=some r):FX Tryz.prog 38 [(.dat 25 a0)] [] (.dat 3 (.int r)) []:=
 FX_of (q:=((.dat 3 (.int r)),[])) (E:=env) (m:=m+1) (dec:=d9) jn_ok (hct _) mixed Tryz.func38 rfl (Nat.le_of_ble_eq_true rfl) (fun b hb=>d9_sim hb) ((ref01_Depth_eq m a0).trans h)
theorem ref01_count_fx (m:Nat) (hct:∀R,CallOK (R:=R) Tryz.prog (ct m)) (a0:Dt) (a1:Int) {r:Int} (h:ref01_count (m+1) a0 a1=some r):FX Tryz.prog 71 [(.dat 25 a0),(.dat 3 (.int a1))] [] (.dat 3 (.int r)) []:=
 FX_of (q:=((.dat 3 (.int r)),[])) (E:=env) (m:=m+1) (dec:=d9) jn_ok (hct _) mixed Tryz.func71 rfl (Nat.le_of_ble_eq_true rfl) (fun b hb=>d9_sim hb) ((ref01_count_eq m a0 a1).trans h)
theorem ref01_Nodes_fx (m:Nat) (hct:∀R,CallOK (R:=R) Tryz.prog (ct m)) (a0:Dt) {r:Int} (h:ref01_Nodes (m+1) a0=some r):FX Tryz.prog 39 [(.dat 25 a0)] [] (.dat 3 (.int r)) []:=
 FX_of (q:=((.dat 3 (.int r)),[])) (E:=env) (m:=m+1) (dec:=d9) jn_ok (hct _) mixed Tryz.func39 rfl (Nat.le_of_ble_eq_true rfl) (fun b hb=>d9_sim hb) ((ref01_Nodes_eq m a0).trans h)
theorem ref01_tail_fx (m:Nat) (hct:∀R,CallOK (R:=R) Tryz.prog (ct m)) (a0:ByteArray) (a1 a2:Int) {r:Bool} (h:ref01_tail (m+1) a0 a1 a2=some r):FX Tryz.prog 101 [(.dat 9 (.str a0)),(.dat 3 (.int a1)),(.dat 3 (.int a2))] [] (.dat 4 (.bool r)) []:=
 FX_of (q:=((.dat 4 (.bool r)),[])) (E:=env) (m:=m+1) (dec:=d13) jn_ok (hct _) mixed Tryz.func101 rfl (Nat.le_of_ble_eq_true rfl) (fun b hb=>d13_sim hb) ((ref01_tail_eq m a0 a1 a2).trans h)
theorem ref01_UTF8_fx (m:Nat) (hct:∀R,CallOK (R:=R) Tryz.prog (ct m)) (a0:ByteArray) {r:Bool} (h:ref01_UTF8 (m+1) a0=some r):FX Tryz.prog 72 [(.dat 9 (.str a0))] [] (.dat 4 (.bool r)) []:=
 FX_of (q:=((.dat 4 (.bool r)),[])) (E:=env) (m:=m+1) (dec:=d13) jn_ok (hct _) mixed Tryz.func72 rfl (Nat.le_of_ble_eq_true rfl) (fun b hb=>d13_sim hb) ((ref01_UTF8_eq m a0).trans h)
theorem ref01_wide_fx (m:Nat) (hct:∀R,CallOK (R:=R) Tryz.prog (ct m)) (a0:ByteArray) {r:Bool} (h:ref01_wide (m+1) a0=some r):FX Tryz.prog 103 [(.dat 9 (.str a0))] [] (.dat 4 (.bool r)) []:=
 FX_of (q:=((.dat 4 (.bool r)),[])) (E:=env) (m:=m+1) (dec:=d13) jn_ok (hct _) mixed Tryz.func103 rfl (Nat.le_of_ble_eq_true rfl) (fun b hb=>d13_sim hb) ((ref01_wide_eq m a0).trans h)
theorem ref01_formed_fx (m:Nat) (hct:∀R,CallOK (R:=R) Tryz.prog (ct m)) (a0:Dt) (a1:Bool) {r:Bool} (h:ref01_formed (m+1) a0 a1=some r):FX Tryz.prog 40 [(.dat 25 a0),(.dat 4 (.bool a1))] [] (.dat 4 (.bool r)) []:=
 FX_of (q:=((.dat 4 (.bool r)),[])) (E:=env) (m:=m+1) (dec:=d13) jn_ok (hct _) mixed Tryz.func40 rfl (Nat.le_of_ble_eq_true rfl) (fun b hb=>d13_sim hb) ((ref01_formed_eq m a0 a1).trans h)
theorem ref01_fields_fx (m:Nat) (hct:∀R,CallOK (R:=R) Tryz.prog (ct m)) (a0:Dt) (a1:Bool) {r:Bool} (h:ref01_fields (m+1) a0 a1=some r):FX Tryz.prog 73 [(.dat 25 a0),(.dat 4 (.bool a1))] [] (.dat 4 (.bool r)) []:=
 FX_of (q:=((.dat 4 (.bool r)),[])) (E:=env) (m:=m+1) (dec:=d13) jn_ok (hct _) mixed Tryz.func73 rfl (Nat.le_of_ble_eq_true rfl) (fun b hb=>d13_sim hb) ((ref01_fields_eq m a0 a1).trans h)
theorem ref01_Valid_fx (m:Nat) (hct:∀R,CallOK (R:=R) Tryz.prog (ct m)) (a0:Dt) {r:Bool} (h:ref01_Valid (m+1) a0=some r):FX Tryz.prog 107 [(.dat 25 a0)] [] (.dat 4 (.bool r)) []:=
 FX_of (q:=((.dat 4 (.bool r)),[])) (E:=env) (m:=m+1) (dec:=d13) jn_ok (hct _) mixed Tryz.func107 rfl (Nat.le_of_ble_eq_true rfl) (fun b hb=>d13_sim hb) ((ref01_Valid_eq m a0).trans h)
theorem ref14_unused_fx (m:Nat) (hct:∀R,CallOK (R:=R) Tryz.prog (ct m)) (a0:Bool) (a1:Dt) {r:Bool} (h:ref14_unused (m+1) a0 a1=some r):FX Tryz.prog 106 [(.dat 4 (.bool a0)),(.dat 25 a1)] [] (.dat 4 (.bool r)) []:=
 FX_of (q:=((.dat 4 (.bool r)),[])) (E:=env) (m:=m+1) (dec:=d13) jn_ok (hct _) mixed Tryz.func106 rfl (Nat.le_of_ble_eq_true rfl) (fun b hb=>d13_sim hb) ((ref14_unused_eq m a0 a1).trans h)
theorem ref14_single_fx (m:Nat) (hct:∀R,CallOK (R:=R) Tryz.prog (ct m)) (a0:Dt) {r:Int} (h:ref14_single (m+1) a0=some r):FX Tryz.prog 77 [(.dat 32 a0)] [] (.dat 33 (.int r)) []:=
 FX_of (q:=((.dat 33 (.int r)),[])) (E:=env) (m:=m+1) (dec:=d33) jn_ok (hct _) mixed Tryz.func77 rfl (Nat.le_of_ble_eq_true rfl) (fun b hb=>d33_sim hb) ((ref14_single_eq m a0).trans h)
theorem ref14_check_fx (m:Nat) (hct:∀R,CallOK (R:=R) Tryz.prog (ct m)) (a0:Dt) (a1 a2:Int) {r:Int×Int} (h:ref14_check (m+1) a0 a1 a2=some r):FX Tryz.prog 42 [(.dat 32 a0),(.dat 3 (.int a1)),(.dat 3 (.int a2))] [] (.tup [(.dat 3 (.int r.1)),(.dat 33 (.int r.2))]) []:=
 FX_of (q:=((.tup [(.dat 3 (.int r.1)),(.dat 33 (.int r.2))]),[])) (E:=env) (m:=m+1) (dec:=d44) jn_ok (hct _) mixed Tryz.func42 rfl (Nat.le_of_ble_eq_true rfl) (fun b hb=>d44_sim hb) ((ref14_check_eq m a0 a1 a2).trans h)
theorem ref14_Valid_fx (m:Nat) (hct:∀R,CallOK (R:=R) Tryz.prog (ct m)) (a0:Dt) {r:Int} (h:ref14_Valid (m+1) a0=some r):FX Tryz.prog 25 [(.dat 32 a0)] [] (.dat 33 (.int r)) []:=
 FX_of (q:=((.dat 33 (.int r)),[])) (E:=env) (m:=m+1) (dec:=d33) jn_ok (hct _) mixed Tryz.func25 rfl (Nat.le_of_ble_eq_true rfl) (fun b hb=>d33_sim hb) ((ref14_Valid_eq m a0).trans h)
theorem ref14_Check_fx (m:Nat) (hct:∀R,CallOK (R:=R) Tryz.prog (ct m)) (a0 a1:Dt) {r:List Dt} (h:ref14_Check (m+1) a0 a1=some r):FX Tryz.prog 14 [(.dat 32 a0),(.dat 25 a1)] [] (.dat 40 (.lst r)) []:=
 FX_of (q:=((.dat 40 (.lst r)),[])) (E:=env) (m:=m+1) (dec:=d29) jn_ok (hct _) mixed Tryz.func14 rfl (Nat.le_of_ble_eq_true rfl) (fun b hb=>d29_sim hb) ((ref14_Check_eq m a0 a1).trans h)
theorem law14_SchemaChecks_fx (m:Nat) (hct:∀R,CallOK (R:=R) Tryz.prog (ct m)) (a0 a1:Dt) {r:Bool} (h:law14_SchemaChecks (m+1) a0 a1=some r):FX Tryz.prog 4 [(.dat 32 a0),(.dat 25 a1)] [] (.dat 4 (.bool r)) []:=
 FX_of (q:=((.dat 4 (.bool r)),[])) (E:=env) (m:=m+1) (dec:=d13) jn_ok (hct _) mixed Tryz.func4 rfl (Nat.le_of_ble_eq_true rfl) (fun b hb=>d13_sim hb) ((law14_SchemaChecks_eq m a0 a1).trans h)
theorem ref14_Admit_fx (m:Nat) (hct:∀R,CallOK (R:=R) Tryz.prog (ct m)) (a0 a1 a2:Dt) {r:Int×List Dt} (h:ref14_Admit (m+1) a0 a1 a2=some r):FX Tryz.prog 16 [(.dat 44 a0),(.dat 25 a1),(.dat 25 a2)] [] (.tup [(.dat 33 (.int r.1)),(.dat 40 (.lst r.2))]) []:=
 FX_of (q:=((.tup [(.dat 33 (.int r.1)),(.dat 40 (.lst r.2))]),[])) (E:=env) (m:=m+1) (dec:=d7) jn_ok (hct _) mixed Tryz.func16 rfl (Nat.le_of_ble_eq_true rfl) (fun b hb=>d7_sim hb) ((ref14_Admit_eq m a0 a1 a2).trans h)
theorem law14_SchemaAdmits_fx (m:Nat) (hct:∀R,CallOK (R:=R) Tryz.prog (ct m)) (a0:Dt) {r:Bool} (h:law14_SchemaAdmits (m+1) a0=some r):FX Tryz.prog 5 [(.dat 46 a0)] [] (.dat 4 (.bool r)) []:=
 FX_of (q:=((.dat 4 (.bool r)),[])) (E:=env) (m:=m+1) (dec:=d13) jn_ok (hct _) mixed Tryz.func5 rfl (Nat.le_of_ble_eq_true rfl) (fun b hb=>d13_sim hb) ((law14_SchemaAdmits_eq m a0).trans h)
theorem ct4_ok (m:Nat) (hct:∀k,k<m→∀R,CallOK (R:=R) Tryz.prog (ct k)) {R:Type} {args:List AV} {objs:List Ob} {K:Res→Option R} {r:R} (h:ct4 m args objs K=some r):∃q:Res,K q=some r∧FX Tryz.prog 4 args objs q.1 q.2∧HasBody Tryz.prog 4:=by
 unfold ct4 at h
 split at h
 ·rename_i l hl
  obtain⟨x,hx,hk⟩:=Option.bind_eq_some_iff.1 h
  obtain⟨h1,h2⟩:=sel0_ok hl
  cases m with
  |zero=>cases hx
  |succ m=>exact⟨_,hk,(law14_SchemaChecks_fx m (hct m (Nat.lt_succ_self m)) _ _ hx).conv h1 h2,⟨_,Tryz.func4,rfl,by decide⟩⟩
 cases h
theorem ct5_ok (m:Nat) (hct:∀k,k<m→∀R,CallOK (R:=R) Tryz.prog (ct k)) {R:Type} {args:List AV} {objs:List Ob} {K:Res→Option R} {r:R} (h:ct5 m args objs K=some r):∃q:Res,K q=some r∧FX Tryz.prog 5 args objs q.1 q.2∧HasBody Tryz.prog 5:=by
 unfold ct5 at h
 split at h
 ·rename_i l hl
  obtain⟨x,hx,hk⟩:=Option.bind_eq_some_iff.1 h
  obtain⟨h1,h2⟩:=sel1_ok hl
  cases m with
  |zero=>cases hx
  |succ m=>exact⟨_,hk,(law14_SchemaAdmits_fx m (hct m (Nat.lt_succ_self m)) _ hx).conv h1 h2,⟨_,Tryz.func5,rfl,by decide⟩⟩
 cases h
theorem ct11_ok (m:Nat) (hct:∀k,k<m→∀R,CallOK (R:=R) Tryz.prog (ct k)) {R:Type} {args:List AV} {objs:List Ob} {K:Res→Option R} {r:R} (h:ct11 m args objs K=some r):∃q:Res,K q=some r∧FX Tryz.prog 11 args objs q.1 q.2∧HasBody Tryz.prog 11:=by
 unfold ct11 at h
 split at h
 ·rename_i l hl
  obtain⟨x,hx,hk⟩:=Option.bind_eq_some_iff.1 h
  obtain⟨h1,h2⟩:=sel0_ok hl
  cases m with
  |zero=>cases hx
  |succ m=>exact⟨_,hk,(law14_few_fx m (hct m (Nat.lt_succ_self m)) _ _ hx).conv h1 h2,⟨_,Tryz.func11,rfl,by decide⟩⟩
 cases h
theorem ct7_ok (m:Nat) (hct:∀k,k<m→∀R,CallOK (R:=R) Tryz.prog (ct k)) {R:Type} {args:List AV} {objs:List Ob} {K:Res→Option R} {r:R} (h:ct7 m args objs K=some r):∃q:Res,K q=some r∧FX Tryz.prog 7 args objs q.1 q.2∧HasBody Tryz.prog 7:=by
 unfold ct7 at h
 split at h
 ·rename_i l hl
  obtain⟨x,hx,hk⟩:=Option.bind_eq_some_iff.1 h
  obtain⟨h1,h2⟩:=sel3_ok hl
  exact⟨_,hk,(awakeC_fx hx).conv h1 h2,⟨_,Tryz.func7,rfl,by decide⟩⟩
 cases h
theorem ct13_ok (m:Nat) (hct:∀k,k<m→∀R,CallOK (R:=R) Tryz.prog (ct k)) {R:Type} {args:List AV} {objs:List Ob} {K:Res→Option R} {r:R} (h:ct13 m args objs K=some r):∃q:Res,K q=some r∧FX Tryz.prog 13 args objs q.1 q.2∧HasBody Tryz.prog 13:=by
 unfold ct13 at h
 split at h
 ·rename_i l hl
  obtain⟨x,hx,hk⟩:=Option.bind_eq_some_iff.1 h
  obtain⟨h1,h2⟩:=sel0_ok hl
  cases m with
  |zero=>cases hx
  |succ m=>exact⟨_,hk,(schema_Check_fx m (hct m (Nat.lt_succ_self m)) _ _ hx).conv h1 h2,⟨_,Tryz.func13,rfl,by decide⟩⟩
 cases h
theorem ct14_ok (m:Nat) (hct:∀k,k<m→∀R,CallOK (R:=R) Tryz.prog (ct k)) {R:Type} {args:List AV} {objs:List Ob} {K:Res→Option R} {r:R} (h:ct14 m args objs K=some r):∃q:Res,K q=some r∧FX Tryz.prog 14 args objs q.1 q.2∧HasBody Tryz.prog 14:=by
 unfold ct14 at h
 split at h
 ·rename_i l hl
  obtain⟨x,hx,hk⟩:=Option.bind_eq_some_iff.1 h
  obtain⟨h1,h2⟩:=sel0_ok hl
  cases m with
  |zero=>cases hx
  |succ m=>exact⟨_,hk,(ref14_Check_fx m (hct m (Nat.lt_succ_self m)) _ _ hx).conv h1 h2,⟨_,Tryz.func14,rfl,by decide⟩⟩
 cases h
theorem ct12_ok (m:Nat) (hct:∀k,k<m→∀R,CallOK (R:=R) Tryz.prog (ct k)) {R:Type} {args:List AV} {objs:List Ob} {K:Res→Option R} {r:R} (h:ct12 m args objs K=some r):∃q:Res,K q=some r∧FX Tryz.prog 12 args objs q.1 q.2∧HasBody Tryz.prog 12:=by
 unfold ct12 at h
 split at h
 ·rename_i l hl
  obtain⟨x,hx,hk⟩:=Option.bind_eq_some_iff.1 h
  obtain⟨h1,h2⟩:=sel6_ok hl
  cases m with
  |zero=>cases hx
  |succ m=>exact⟨_,hk,(ref14_SameList_fx m (hct m (Nat.lt_succ_self m)) _ _ hx).conv h1 h2,⟨_,Tryz.func12,rfl,by decide⟩⟩
 cases h
theorem ct15_ok (m:Nat) (hct:∀k,k<m→∀R,CallOK (R:=R) Tryz.prog (ct k)) {R:Type} {args:List AV} {objs:List Ob} {K:Res→Option R} {r:R} (h:ct15 m args objs K=some r):∃q:Res,K q=some r∧FX Tryz.prog 15 args objs q.1 q.2∧HasBody Tryz.prog 15:=by
 unfold ct15 at h
 split at h
 ·rename_i l hl
  obtain⟨x,hx,hk⟩:=Option.bind_eq_some_iff.1 h
  obtain⟨h1,h2⟩:=sel7_ok hl
  cases m with
  |zero=>cases hx
  |succ m=>exact⟨_,hk,(schema_Admit_fx m (hct m (Nat.lt_succ_self m)) _ _ _ hx).conv h1 h2,⟨_,Tryz.func15,rfl,by decide⟩⟩
 cases h
theorem ct16_ok (m:Nat) (hct:∀k,k<m→∀R,CallOK (R:=R) Tryz.prog (ct k)) {R:Type} {args:List AV} {objs:List Ob} {K:Res→Option R} {r:R} (h:ct16 m args objs K=some r):∃q:Res,K q=some r∧FX Tryz.prog 16 args objs q.1 q.2∧HasBody Tryz.prog 16:=by
 unfold ct16 at h
 split at h
 ·rename_i l hl
  obtain⟨x,hx,hk⟩:=Option.bind_eq_some_iff.1 h
  obtain⟨h1,h2⟩:=sel7_ok hl
  cases m with
  |zero=>cases hx
  |succ m=>exact⟨_,hk,(ref14_Admit_fx m (hct m (Nat.lt_succ_self m)) _ _ _ hx).conv h1 h2,⟨_,Tryz.func16,rfl,by decide⟩⟩
 cases h
theorem ct29_ok (m:Nat) (hct:∀k,k<m→∀R,CallOK (R:=R) Tryz.prog (ct k)) {R:Type} {args:List AV} {objs:List Ob} {K:Res→Option R} {r:R} (h:ct29 m args objs K=some r):∃q:Res,K q=some r∧FX Tryz.prog 29 args objs q.1 q.2∧HasBody Tryz.prog 29:=by
 unfold ct29 at h
 split at h
 ·rename_i l hl
  obtain⟨x,hx,hk⟩:=Option.bind_eq_some_iff.1 h
  obtain⟨h1,h2⟩:=sel9_ok hl
  cases m with
  |zero=>cases hx
  |succ m=>exact⟨_,hk,(ref14_Count_fx m (hct m (Nat.lt_succ_self m)) _ _ hx).conv h1 h2,⟨_,Tryz.func29,rfl,by decide⟩⟩
 cases h
theorem ct6_ok (m:Nat) (hct:∀k,k<m→∀R,CallOK (R:=R) Tryz.prog (ct k)) {R:Type} {args:List AV} {objs:List Ob} {K:Res→Option R} {r:R} (h:ct6 m args objs K=some r):∃q:Res,K q=some r∧FX Tryz.prog 6 args objs q.1 q.2∧HasBody Tryz.prog 6:=by
 unfold ct6 at h
 split at h
 ·rename_i l hl
  obtain⟨x,hx,hk⟩:=Option.bind_eq_some_iff.1 h
  obtain⟨h1,h2⟩:=sel10_ok hl
  cases m with
  |zero=>cases hx
  |succ m=>exact⟨_,hk,(ref02_Few_fx m (hct m (Nat.lt_succ_self m)) _ _ hx).conv h1 h2,⟨_,Tryz.func6,rfl,by decide⟩⟩
 cases h
theorem ct20_ok (m:Nat) (hct:∀k,k<m→∀R,CallOK (R:=R) Tryz.prog (ct k)) {R:Type} {args:List AV} {objs:List Ob} {K:Res→Option R} {r:R} (h:ct20 m args objs K=some r):∃q:Res,K q=some r∧FX Tryz.prog 20 args objs q.1 q.2∧HasBody Tryz.prog 20:=by
 unfold ct20 at h
 split at h
 ·rename_i l hl
  obtain⟨x,hx,hk⟩:=Option.bind_eq_some_iff.1 h
  obtain⟨h1,h2⟩:=sel11_ok hl
  cases m with
  |zero=>cases hx
  |succ m=>exact⟨_,hk,(schema_Valid_fx m (hct m (Nat.lt_succ_self m)) _ hx).conv h1 h2,⟨_,Tryz.func20,rfl,by decide⟩⟩
 cases h
theorem ct30_ok (m:Nat) (hct:∀k,k<m→∀R,CallOK (R:=R) Tryz.prog (ct k)) {R:Type} {args:List AV} {objs:List Ob} {K:Res→Option R} {r:R} (h:ct30 m args objs K=some r):∃q:Res,K q=some r∧FX Tryz.prog 30 args objs q.1 q.2∧HasBody Tryz.prog 30:=by
 unfold ct30 at h
 split at h
 ·rename_i l hl
  obtain⟨x,hx,hk⟩:=Option.bind_eq_some_iff.1 h
  obtain⟨h1,h2⟩:=sel12_ok hl
  cases m with
  |zero=>cases hx
  |succ m=>exact⟨_,hk,(i12_fx m (hct m (Nat.lt_succ_self m)) _ _ _ _ hx).conv h1 h2,⟨_,Tryz.func30,rfl,by decide⟩⟩
 cases h
theorem ct48_ok (m:Nat) (hct:∀k,k<m→∀R,CallOK (R:=R) Tryz.prog (ct k)) {R:Type} {args:List AV} {objs:List Ob} {K:Res→Option R} {r:R} (h:ct48 m args objs K=some r):∃q:Res,K q=some r∧FX Tryz.prog 48 args objs q.1 q.2∧HasBody Tryz.prog 48:=by
 unfold ct48 at h
 split at h
 ·rename_i l hl
  obtain⟨x,hx,hk⟩:=Option.bind_eq_some_iff.1 h
  obtain⟨h1,h2⟩:=sel13_ok hl
  cases m with
  |zero=>cases hx
  |succ m=>exact⟨_,hk,(schema_hasKind_fx m (hct m (Nat.lt_succ_self m)) _ _ hx).conv h1 h2,⟨_,Tryz.func48,rfl,by decide⟩⟩
 cases h
theorem ct44_ok (m:Nat) (hct:∀k,k<m→∀R,CallOK (R:=R) Tryz.prog (ct k)) {R:Type} {args:List AV} {objs:List Ob} {K:Res→Option R} {r:R} (h:ct44 m args objs K=some r):∃q:Res,K q=some r∧FX Tryz.prog 44 args objs q.1 q.2∧HasBody Tryz.prog 44:=by
 unfold ct44 at h
 split at h
 ·rename_i l hl
  obtain⟨x,hx,hk⟩:=Option.bind_eq_some_iff.1 h
  obtain⟨h1,h2⟩:=sel14_ok hl
  cases m with
  |zero=>cases hx
  |succ m=>exact⟨_,hk,(i14_fx m (hct m (Nat.lt_succ_self m)) _ _ _ _ _ hx).conv h1 h2,⟨_,Tryz.func44,rfl,by decide⟩⟩
 cases h
theorem ct45_ok (m:Nat) (hct:∀k,k<m→∀R,CallOK (R:=R) Tryz.prog (ct k)) {R:Type} {args:List AV} {objs:List Ob} {K:Res→Option R} {r:R} (h:ct45 m args objs K=some r):∃q:Res,K q=some r∧FX Tryz.prog 45 args objs q.1 q.2∧HasBody Tryz.prog 45:=by
 unfold ct45 at h
 split at h
 ·rename_i l hl
  obtain⟨x,hx,hk⟩:=Option.bind_eq_some_iff.1 h
  obtain⟨h1,h2⟩:=sel15_ok hl
  cases m with
  |zero=>cases hx
  |succ m=>exact⟨_,hk,(slices_Concat_fx m (hct m (Nat.lt_succ_self m)) _ hx).conv h1 h2,⟨_,Tryz.func45,rfl,by decide⟩⟩
 cases h
theorem ct49_ok (m:Nat) (hct:∀k,k<m→∀R,CallOK (R:=R) Tryz.prog (ct k)) {R:Type} {args:List AV} {objs:List Ob} {K:Res→Option R} {r:R} (h:ct49 m args objs K=some r):∃q:Res,K q=some r∧FX Tryz.prog 49 args objs q.1 q.2∧HasBody Tryz.prog 49:=by
 unfold ct49 at h
 split at h
 ·rename_i l hl
  obtain⟨x,hx,hk⟩:=Option.bind_eq_some_iff.1 h
  obtain⟨h1,h2⟩:=sel16_ok hl
  cases m with
  |zero=>cases hx
  |succ m=>exact⟨_,hk,(i16_fx m (hct m (Nat.lt_succ_self m)) _ _ hx).conv h1 h2,⟨_,Tryz.func49,rfl,by decide⟩⟩
 cases h
theorem ct79_ok (m:Nat) (hct:∀k,k<m→∀R,CallOK (R:=R) Tryz.prog (ct k)) {R:Type} {args:List AV} {objs:List Ob} {K:Res→Option R} {r:R} (h:ct79 m args objs K=some r):∃q:Res,K q=some r∧FX Tryz.prog 79 args objs q.1 q.2∧HasBody Tryz.prog 79:=by
 unfold ct79 at h
 split at h
 ·rename_i l hl
  obtain⟨x,hx,hk⟩:=Option.bind_eq_some_iff.1 h
  obtain⟨h1,h2⟩:=sel16_ok hl
  cases m with
  |zero=>cases hx
  |succ m=>exact⟨_,hk,(i17_fx m (hct m (Nat.lt_succ_self m)) _ _ hx).conv h1 h2,⟨_,Tryz.func79,rfl,by decide⟩⟩
 cases h
theorem ct46_ok (m:Nat) (hct:∀k,k<m→∀R,CallOK (R:=R) Tryz.prog (ct k)) {R:Type} {args:List AV} {objs:List Ob} {K:Res→Option R} {r:R} (h:ct46 m args objs K=some r):∃q:Res,K q=some r∧FX Tryz.prog 46 args objs q.1 q.2∧HasBody Tryz.prog 46:=by
 unfold ct46 at h
 split at h
 ·rename_i l hl
  obtain⟨x,hx,hk⟩:=Option.bind_eq_some_iff.1 h
  obtain⟨h1,h2⟩:=sel18_ok hl
  cases m with
  |zero=>cases hx
  |succ m=>exact⟨_,hk,(i18_fx m (hct m (Nat.lt_succ_self m)) _ _ hx).conv h1 h2,⟨_,Tryz.func46,rfl,by decide⟩⟩
 cases h
theorem ct47_ok (m:Nat) (hct:∀k,k<m→∀R,CallOK (R:=R) Tryz.prog (ct k)) {R:Type} {args:List AV} {objs:List Ob} {K:Res→Option R} {r:R} (h:ct47 m args objs K=some r):∃q:Res,K q=some r∧FX Tryz.prog 47 args objs q.1 q.2∧HasBody Tryz.prog 47:=by
 unfold ct47 at h
 split at h
 ·rename_i l hl
  obtain⟨x,hx,hk⟩:=Option.bind_eq_some_iff.1 h
  obtain⟨h1,h2⟩:=sel19_ok hl
  cases m with
  |zero=>cases hx
  |succ m=>exact⟨_,hk,(value_Equal_fx m (hct m (Nat.lt_succ_self m)) _ _ hx).conv h1 h2,⟨_,Tryz.func47,rfl,by decide⟩⟩
 cases h
theorem ct50_ok (m:Nat) (hct:∀k,k<m→∀R,CallOK (R:=R) Tryz.prog (ct k)) {R:Type} {args:List AV} {objs:List Ob} {K:Res→Option R} {r:R} (h:ct50 m args objs K=some r):∃q:Res,K q=some r∧FX Tryz.prog 50 args objs q.1 q.2∧HasBody Tryz.prog 50:=by
 unfold ct50 at h
 split at h
 ·rename_i l hl
  obtain⟨x,hx,hk⟩:=Option.bind_eq_some_iff.1 h
  obtain⟨h1,h2⟩:=sel19_ok hl
  cases m with
  |zero=>cases hx
  |succ m=>exact⟨_,hk,(value_Compare_fx m (hct m (Nat.lt_succ_self m)) _ _ hx).conv h1 h2,⟨_,Tryz.func50,rfl,by decide⟩⟩
 cases h
theorem ct51_ok (m:Nat) (hct:∀k,k<m→∀R,CallOK (R:=R) Tryz.prog (ct k)) {R:Type} {args:List AV} {objs:List Ob} {K:Res→Option R} {r:R} (h:ct51 m args objs K=some r):∃q:Res,K q=some r∧FX Tryz.prog 51 args objs q.1 q.2∧HasBody Tryz.prog 51:=by
 unfold ct51 at h
 split at h
 ·rename_i l hl
  obtain⟨x,hx,hk⟩:=Option.bind_eq_some_iff.1 h
  obtain⟨h1,h2⟩:=sel21_ok hl
  cases m with
  |zero=>cases hx
  |succ m=>exact⟨_,hk,(schema_length_fx m (hct m (Nat.lt_succ_self m)) _ hx).conv h1 h2,⟨_,Tryz.func51,rfl,by decide⟩⟩
 cases h
theorem ct52_ok (m:Nat) (hct:∀k,k<m→∀R,CallOK (R:=R) Tryz.prog (ct k)) {R:Type} {args:List AV} {objs:List Ob} {K:Res→Option R} {r:R} (h:ct52 m args objs K=some r):∃q:Res,K q=some r∧FX Tryz.prog 52 args objs q.1 q.2∧HasBody Tryz.prog 52:=by
 unfold ct52 at h
 split at h
 ·rename_i l hl
  obtain⟨x,hx,hk⟩:=Option.bind_eq_some_iff.1 h
  obtain⟨h1,h2⟩:=sel22_ok hl
  cases m with
  |zero=>cases hx
  |succ m=>exact⟨_,hk,(schema_field_fx m (hct m (Nat.lt_succ_self m)) _ _ hx).conv h1 h2,⟨_,Tryz.func52,rfl,by decide⟩⟩
 cases h
theorem ct54_ok (m:Nat) (hct:∀k,k<m→∀R,CallOK (R:=R) Tryz.prog (ct k)) {R:Type} {args:List AV} {objs:List Ob} {K:Res→Option R} {r:R} (h:ct54 m args objs K=some r):∃q:Res,K q=some r∧FX Tryz.prog 54 args objs q.1 q.2∧HasBody Tryz.prog 54:=by
 unfold ct54 at h
 split at h
 ·rename_i l hl
  obtain⟨x,hx,hk⟩:=Option.bind_eq_some_iff.1 h
  obtain⟨h1,h2⟩:=sel23_ok hl
  cases m with
  |zero=>cases hx
  |succ m=>exact⟨_,hk,(i23_fx m (hct m (Nat.lt_succ_self m)) _ _ hx).conv h1 h2,⟨_,Tryz.func54,rfl,by decide⟩⟩
 cases h
theorem ct82_ok (m:Nat) (hct:∀k,k<m→∀R,CallOK (R:=R) Tryz.prog (ct k)) {R:Type} {args:List AV} {objs:List Ob} {K:Res→Option R} {r:R} (h:ct82 m args objs K=some r):∃q:Res,K q=some r∧FX Tryz.prog 82 args objs q.1 q.2∧HasBody Tryz.prog 82:=by
 unfold ct82 at h
 split at h
 ·rename_i l hl
  obtain⟨x,hx,hk⟩:=Option.bind_eq_some_iff.1 h
  obtain⟨h1,h2⟩:=sel23_ok hl
  cases m with
  |zero=>cases hx
  |succ m=>exact⟨_,hk,(i24_fx m (hct m (Nat.lt_succ_self m)) _ _ hx).conv h1 h2,⟨_,Tryz.func82,rfl,by decide⟩⟩
 cases h
theorem ct53_ok (m:Nat) (hct:∀k,k<m→∀R,CallOK (R:=R) Tryz.prog (ct k)) {R:Type} {args:List AV} {objs:List Ob} {K:Res→Option R} {r:R} (h:ct53 m args objs K=some r):∃q:Res,K q=some r∧FX Tryz.prog 53 args objs q.1 q.2∧HasBody Tryz.prog 53:=by
 unfold ct53 at h
 split at h
 ·rename_i l hl
  obtain⟨x,hx,hk⟩:=Option.bind_eq_some_iff.1 h
  obtain⟨h1,h2⟩:=sel25_ok hl
  cases m with
  |zero=>cases hx
  |succ m=>exact⟨_,hk,(i25_fx m (hct m (Nat.lt_succ_self m)) _ _ hx).conv h1 h2,⟨_,Tryz.func53,rfl,by decide⟩⟩
 cases h
theorem ct55_ok (m:Nat) (hct:∀k,k<m→∀R,CallOK (R:=R) Tryz.prog (ct k)) {R:Type} {args:List AV} {objs:List Ob} {K:Res→Option R} {r:R} (h:ct55 m args objs K=some r):∃q:Res,K q=some r∧FX Tryz.prog 55 args objs q.1 q.2∧HasBody Tryz.prog 55:=by
 unfold ct55 at h
 split at h
 ·rename_i l hl
  obtain⟨x,hx,hk⟩:=Option.bind_eq_some_iff.1 h
  obtain⟨h1,h2⟩:=sel26_ok hl
  cases m with
  |zero=>cases hx
  |succ m=>exact⟨_,hk,(schema_repeats_fx m (hct m (Nat.lt_succ_self m)) _ hx).conv h1 h2,⟨_,Tryz.func55,rfl,by decide⟩⟩
 cases h
theorem ct56_ok (m:Nat) (hct:∀k,k<m→∀R,CallOK (R:=R) Tryz.prog (ct k)) {R:Type} {args:List AV} {objs:List Ob} {K:Res→Option R} {r:R} (h:ct56 m args objs K=some r):∃q:Res,K q=some r∧FX Tryz.prog 56 args objs q.1 q.2∧HasBody Tryz.prog 56:=by
 unfold ct56 at h
 split at h
 ·rename_i l hl
  obtain⟨x,hx,hk⟩:=Option.bind_eq_some_iff.1 h
  obtain⟨h1,h2⟩:=sel27_ok hl
  exact⟨_,hk,(Itoa_fx hx).conv h1 h2,⟨_,Tryz.func56,rfl,by decide⟩⟩
 cases h
theorem ct25_ok (m:Nat) (hct:∀k,k<m→∀R,CallOK (R:=R) Tryz.prog (ct k)) {R:Type} {args:List AV} {objs:List Ob} {K:Res→Option R} {r:R} (h:ct25 m args objs K=some r):∃q:Res,K q=some r∧FX Tryz.prog 25 args objs q.1 q.2∧HasBody Tryz.prog 25:=by
 unfold ct25 at h
 split at h
 ·rename_i l hl
  obtain⟨x,hx,hk⟩:=Option.bind_eq_some_iff.1 h
  obtain⟨h1,h2⟩:=sel11_ok hl
  cases m with
  |zero=>cases hx
  |succ m=>exact⟨_,hk,(ref14_Valid_fx m (hct m (Nat.lt_succ_self m)) _ hx).conv h1 h2,⟨_,Tryz.func25,rfl,by decide⟩⟩
 cases h
theorem ct31_ok (m:Nat) (hct:∀k,k<m→∀R,CallOK (R:=R) Tryz.prog (ct k)) {R:Type} {args:List AV} {objs:List Ob} {K:Res→Option R} {r:R} (h:ct31 m args objs K=some r):∃q:Res,K q=some r∧FX Tryz.prog 31 args objs q.1 q.2∧HasBody Tryz.prog 31:=by
 unfold ct31 at h
 split at h
 ·rename_i l hl
  obtain⟨x,hx,hk⟩:=Option.bind_eq_some_iff.1 h
  obtain⟨h1,h2⟩:=sel29_ok hl
  cases m with
  |zero=>cases hx
  |succ m=>exact⟨_,hk,(ref14_violations_fx m (hct m (Nat.lt_succ_self m)) _ _ _ hx).conv h1 h2,⟨_,Tryz.func31,rfl,by decide⟩⟩
 cases h
theorem ct28_ok (m:Nat) (hct:∀k,k<m→∀R,CallOK (R:=R) Tryz.prog (ct k)) {R:Type} {args:List AV} {objs:List Ob} {K:Res→Option R} {r:R} (h:ct28 m args objs K=some r):∃q:Res,K q=some r∧FX Tryz.prog 28 args objs q.1 q.2∧HasBody Tryz.prog 28:=by
 unfold ct28 at h
 split at h
 ·rename_i l hl
  obtain⟨x,hx,hk⟩:=Option.bind_eq_some_iff.1 h
  obtain⟨h1,h2⟩:=sel30_ok hl
  cases m with
  |zero=>cases hx
  |succ m=>exact⟨_,hk,(ref04_Same_fx m (hct m (Nat.lt_succ_self m)) _ _ hx).conv h1 h2,⟨_,Tryz.func28,rfl,by decide⟩⟩
 cases h
theorem ct17_ok (m:Nat) (hct:∀k,k<m→∀R,CallOK (R:=R) Tryz.prog (ct k)) {R:Type} {args:List AV} {objs:List Ob} {K:Res→Option R} {r:R} (h:ct17 m args objs K=some r):∃q:Res,K q=some r∧FX Tryz.prog 17 args objs q.1 q.2∧HasBody Tryz.prog 17:=by
 unfold ct17 at h
 split at h
 ·rename_i l hl
  obtain⟨x,hx,hk⟩:=Option.bind_eq_some_iff.1 h
  obtain⟨h1,h2⟩:=sel31_ok hl
  cases m with
  |zero=>cases hx
  |succ m=>exact⟨_,hk,(ref02_count_fx m (hct m (Nat.lt_succ_self m)) _ _ _ hx).conv h1 h2,⟨_,Tryz.func17,rfl,by decide⟩⟩
 cases h
theorem ct32_ok (m:Nat) (hct:∀k,k<m→∀R,CallOK (R:=R) Tryz.prog (ct k)) {R:Type} {args:List AV} {objs:List Ob} {K:Res→Option R} {r:R} (h:ct32 m args objs K=some r):∃q:Res,K q=some r∧FX Tryz.prog 32 args objs q.1 q.2∧HasBody Tryz.prog 32:=by
 unfold ct32 at h
 split at h
 ·rename_i l hl
  obtain⟨x,hx,hk⟩:=Option.bind_eq_some_iff.1 h
  obtain⟨h1,h2⟩:=sel32_ok hl
  cases m with
  |zero=>cases hx
  |succ m=>exact⟨_,hk,(i32_fx m (hct m (Nat.lt_succ_self m)) _ _ _ hx).conv h1 h2,⟨_,Tryz.func32,rfl,by decide⟩⟩
 cases h
theorem ct61_ok (m:Nat) (hct:∀k,k<m→∀R,CallOK (R:=R) Tryz.prog (ct k)) {R:Type} {args:List AV} {objs:List Ob} {K:Res→Option R} {r:R} (h:ct61 m args objs K=some r):∃q:Res,K q=some r∧FX Tryz.prog 61 args objs q.1 q.2∧HasBody Tryz.prog 61:=by
 unfold ct61 at h
 split at h
 ·rename_i l hl
  obtain⟨x,hx,hk⟩:=Option.bind_eq_some_iff.1 h
  obtain⟨h1,h2⟩:=sel11_ok hl
  cases m with
  |zero=>cases hx
  |succ m=>exact⟨_,hk,(schema_checkOne_fx m (hct m (Nat.lt_succ_self m)) _ hx).conv h1 h2,⟨_,Tryz.func61,rfl,by decide⟩⟩
 cases h
theorem ct78_ok (m:Nat) (hct:∀k,k<m→∀R,CallOK (R:=R) Tryz.prog (ct k)) {R:Type} {args:List AV} {objs:List Ob} {K:Res→Option R} {r:R} (h:ct78 m args objs K=some r):∃q:Res,K q=some r∧FX Tryz.prog 78 args objs q.1 q.2∧HasBody Tryz.prog 78:=by
 unfold ct78 at h
 split at h
 ·rename_i l hl
  obtain⟨x,hx,hk⟩:=Option.bind_eq_some_iff.1 h
  obtain⟨h1,h2⟩:=sel34_ok hl
  exact⟨_,hk,(Grow_fx hx).conv h1 h2,⟨_,Tryz.func78,rfl,by decide⟩⟩
 cases h
theorem ct80_ok (m:Nat) (hct:∀k,k<m→∀R,CallOK (R:=R) Tryz.prog (ct k)) {R:Type} {args:List AV} {objs:List Ob} {K:Res→Option R} {r:R} (h:ct80 m args objs K=some r):∃q:Res,K q=some r∧FX Tryz.prog 80 args objs q.1 q.2∧HasBody Tryz.prog 80:=by
 unfold ct80 at h
 split at h
 ·rename_i l hl
  obtain⟨x,hx,hk⟩:=Option.bind_eq_some_iff.1 h
  obtain⟨h1,h2⟩:=sel13_ok hl
  cases m with
  |zero=>cases hx
  |succ m=>exact⟨_,hk,(cmp_Compare_fx m (hct m (Nat.lt_succ_self m)) _ _ hx).conv h1 h2,⟨_,Tryz.func80,rfl,by decide⟩⟩
 cases h
theorem ct81_ok (m:Nat) (hct:∀k,k<m→∀R,CallOK (R:=R) Tryz.prog (ct k)) {R:Type} {args:List AV} {objs:List Ob} {K:Res→Option R} {r:R} (h:ct81 m args objs K=some r):∃q:Res,K q=some r∧FX Tryz.prog 81 args objs q.1 q.2∧HasBody Tryz.prog 81:=by
 unfold ct81 at h
 split at h
 ·rename_i l hl
  obtain⟨x,hx,hk⟩:=Option.bind_eq_some_iff.1 h
  obtain⟨h1,h2⟩:=sel36_ok hl
  exact⟨_,hk,(Compare_fx hx).conv h1 h2,⟨_,Tryz.func81,rfl,by decide⟩⟩
 cases h
theorem ct83_ok (m:Nat) (hct:∀k,k<m→∀R,CallOK (R:=R) Tryz.prog (ct k)) {R:Type} {args:List AV} {objs:List Ob} {K:Res→Option R} {r:R} (h:ct83 m args objs K=some r):∃q:Res,K q=some r∧FX Tryz.prog 83 args objs q.1 q.2∧HasBody Tryz.prog 83:=by
 unfold ct83 at h
 split at h
 ·rename_i l hl
  obtain⟨x,hx,hk⟩:=Option.bind_eq_some_iff.1 h
  obtain⟨h1,h2⟩:=sel26_ok hl
  exact⟨_,hk,(Clone_fx hx).conv h1 h2,⟨_,Tryz.func83,rfl,by decide⟩⟩
 cases h
theorem ct84_ok (m:Nat) (hct:∀k,k<m→∀R,CallOK (R:=R) Tryz.prog (ct k)) {R:Type} {args:List AV} {objs:List Ob} {K:Res→Option R} {r:R} (h:ct84 m args objs K=some r):∃q:Res,K q=some r∧FX Tryz.prog 84 args objs q.1 q.2∧HasBody Tryz.prog 84:=by
 unfold ct84 at h
 split at h
 ·rename_i l hl
  obtain⟨x,hx,hk⟩:=Option.bind_eq_some_iff.1 h
  obtain⟨h1,h2⟩:=sel38_ok hl
  cases m with
  |zero=>cases hx
  |succ m=>exact⟨_,hk,(i38_fx m (hct m (Nat.lt_succ_self m)) _ hx).conv h1 h2,⟨_,Tryz.func84,rfl,by decide⟩⟩
 cases h
theorem ct110_ok (m:Nat) (hct:∀k,k<m→∀R,CallOK (R:=R) Tryz.prog (ct k)) {R:Type} {args:List AV} {objs:List Ob} {K:Res→Option R} {r:R} (h:ct110 m args objs K=some r):∃q:Res,K q=some r∧FX Tryz.prog 110 args objs q.1 q.2∧HasBody Tryz.prog 110:=by
 unfold ct110 at h
 split at h
 ·rename_i l hl
  obtain⟨x,hx,hk⟩:=Option.bind_eq_some_iff.1 h
  obtain⟨h1,h2⟩:=sel39_ok hl
  cases m with
  |zero=>cases hx
  |succ m=>exact⟨_,hk,(i39_fx m (hct m (Nat.lt_succ_self m)) _ _ hx).conv h1 h2,⟨_,Tryz.func110,rfl,by decide⟩⟩
 cases h
theorem ct118_ok (m:Nat) (hct:∀k,k<m→∀R,CallOK (R:=R) Tryz.prog (ct k)) {R:Type} {args:List AV} {objs:List Ob} {K:Res→Option R} {r:R} (h:ct118 m args objs K=some r):∃q:Res,K q=some r∧FX Tryz.prog 118 args objs q.1 q.2∧HasBody Tryz.prog 118:=by
 unfold ct118 at h
 split at h
 ·rename_i l hl
  obtain⟨x,hx,hk⟩:=Option.bind_eq_some_iff.1 h
  obtain⟨h1,h2⟩:=sel40_ok hl
  cases m with
  |zero=>cases hx
  |succ m=>exact⟨_,hk,(i40_fx m (hct m (Nat.lt_succ_self m)) _ _ _ hx).conv h1 h2,⟨_,Tryz.func118,rfl,by decide⟩⟩
 cases h
theorem ct119_ok (m:Nat) (hct:∀k,k<m→∀R,CallOK (R:=R) Tryz.prog (ct k)) {R:Type} {args:List AV} {objs:List Ob} {K:Res→Option R} {r:R} (h:ct119 m args objs K=some r):∃q:Res,K q=some r∧FX Tryz.prog 119 args objs q.1 q.2∧HasBody Tryz.prog 119:=by
 unfold ct119 at h
 split at h
 ·rename_i l hl
  obtain⟨x,hx,hk⟩:=Option.bind_eq_some_iff.1 h
  obtain⟨h1,h2⟩:=sel41_ok hl
  cases m with
  |zero=>cases hx
  |succ m=>exact⟨_,hk,(i41_fx m (hct m (Nat.lt_succ_self m)) _ _ _ _ hx).conv h1 h2,⟨_,Tryz.func119,rfl,by decide⟩⟩
 cases h
theorem ct124_ok (m:Nat) (hct:∀k,k<m→∀R,CallOK (R:=R) Tryz.prog (ct k)) {R:Type} {args:List AV} {objs:List Ob} {K:Res→Option R} {r:R} (h:ct124 m args objs K=some r):∃q:Res,K q=some r∧FX Tryz.prog 124 args objs q.1 q.2∧HasBody Tryz.prog 124:=by
 unfold ct124 at h
 split at h
 ·rename_i l hl
  obtain⟨x,hx,hk⟩:=Option.bind_eq_some_iff.1 h
  obtain⟨h1,h2⟩:=sel41_ok hl
  cases m with
  |zero=>cases hx
  |succ m=>exact⟨_,hk,(i42_fx m (hct m (Nat.lt_succ_self m)) _ _ _ _ hx).conv h1 h2,⟨_,Tryz.func124,rfl,by decide⟩⟩
 cases h
theorem ct130_ok (m:Nat) (hct:∀k,k<m→∀R,CallOK (R:=R) Tryz.prog (ct k)) {R:Type} {args:List AV} {objs:List Ob} {K:Res→Option R} {r:R} (h:ct130 m args objs K=some r):∃q:Res,K q=some r∧FX Tryz.prog 130 args objs q.1 q.2∧HasBody Tryz.prog 130:=by
 unfold ct130 at h
 split at h
 ·rename_i l hl
  obtain⟨x,hx,hk⟩:=Option.bind_eq_some_iff.1 h
  obtain⟨h1,h2⟩:=sel41_ok hl
  cases m with
  |zero=>cases hx
  |succ m=>exact⟨_,hk,(i43_fx m (hct m (Nat.lt_succ_self m)) _ _ _ _ hx).conv h1 h2,⟨_,Tryz.func130,rfl,by decide⟩⟩
 cases h
theorem ct42_ok (m:Nat) (hct:∀k,k<m→∀R,CallOK (R:=R) Tryz.prog (ct k)) {R:Type} {args:List AV} {objs:List Ob} {K:Res→Option R} {r:R} (h:ct42 m args objs K=some r):∃q:Res,K q=some r∧FX Tryz.prog 42 args objs q.1 q.2∧HasBody Tryz.prog 42:=by
 unfold ct42 at h
 split at h
 ·rename_i l hl
  obtain⟨x,hx,hk⟩:=Option.bind_eq_some_iff.1 h
  obtain⟨h1,h2⟩:=sel44_ok hl
  cases m with
  |zero=>cases hx
  |succ m=>exact⟨_,hk,(ref14_check_fx m (hct m (Nat.lt_succ_self m)) _ _ _ hx).conv h1 h2,⟨_,Tryz.func42,rfl,by decide⟩⟩
 cases h
theorem ct57_ok (m:Nat) (hct:∀k,k<m→∀R,CallOK (R:=R) Tryz.prog (ct k)) {R:Type} {args:List AV} {objs:List Ob} {K:Res→Option R} {r:R} (h:ct57 m args objs K=some r):∃q:Res,K q=some r∧FX Tryz.prog 57 args objs q.1 q.2∧HasBody Tryz.prog 57:=by
 unfold ct57 at h
 split at h
 ·rename_i l hl
  obtain⟨x,hx,hk⟩:=Option.bind_eq_some_iff.1 h
  obtain⟨h1,h2⟩:=sel29_ok hl
  cases m with
  |zero=>cases hx
  |succ m=>exact⟨_,hk,(ref14_own_fx m (hct m (Nat.lt_succ_self m)) _ _ _ hx).conv h1 h2,⟨_,Tryz.func57,rfl,by decide⟩⟩
 cases h
theorem ct86_ok (m:Nat) (hct:∀k,k<m→∀R,CallOK (R:=R) Tryz.prog (ct k)) {R:Type} {args:List AV} {objs:List Ob} {K:Res→Option R} {r:R} (h:ct86 m args objs K=some r):∃q:Res,K q=some r∧FX Tryz.prog 86 args objs q.1 q.2∧HasBody Tryz.prog 86:=by
 unfold ct86 at h
 split at h
 ·rename_i l hl
  obtain⟨x,hx,hk⟩:=Option.bind_eq_some_iff.1 h
  obtain⟨h1,h2⟩:=sel46_ok hl
  cases m with
  |zero=>cases hx
  |succ m=>exact⟨_,hk,(ref14_among_fx m (hct m (Nat.lt_succ_self m)) _ _ hx).conv h1 h2,⟨_,Tryz.func86,rfl,by decide⟩⟩
 cases h
theorem ct87_ok (m:Nat) (hct:∀k,k<m→∀R,CallOK (R:=R) Tryz.prog (ct k)) {R:Type} {args:List AV} {objs:List Ob} {K:Res→Option R} {r:R} (h:ct87 m args objs K=some r):∃q:Res,K q=some r∧FX Tryz.prog 87 args objs q.1 q.2∧HasBody Tryz.prog 87:=by
 unfold ct87 at h
 split at h
 ·rename_i l hl
  obtain⟨x,hx,hk⟩:=Option.bind_eq_some_iff.1 h
  obtain⟨h1,h2⟩:=sel19_ok hl
  cases m with
  |zero=>cases hx
  |succ m=>exact⟨_,hk,(ref01_Compare_fx m (hct m (Nat.lt_succ_self m)) _ _ hx).conv h1 h2,⟨_,Tryz.func87,rfl,by decide⟩⟩
 cases h
theorem ct88_ok (m:Nat) (hct:∀k,k<m→∀R,CallOK (R:=R) Tryz.prog (ct k)) {R:Type} {args:List AV} {objs:List Ob} {K:Res→Option R} {r:R} (h:ct88 m args objs K=some r):∃q:Res,K q=some r∧FX Tryz.prog 88 args objs q.1 q.2∧HasBody Tryz.prog 88:=by
 unfold ct88 at h
 split at h
 ·rename_i l hl
  obtain⟨x,hx,hk⟩:=Option.bind_eq_some_iff.1 h
  obtain⟨h1,h2⟩:=sel21_ok hl
  cases m with
  |zero=>cases hx
  |succ m=>exact⟨_,hk,(ref14_length_fx m (hct m (Nat.lt_succ_self m)) _ hx).conv h1 h2,⟨_,Tryz.func88,rfl,by decide⟩⟩
 cases h
theorem ct58_ok (m:Nat) (hct:∀k,k<m→∀R,CallOK (R:=R) Tryz.prog (ct k)) {R:Type} {args:List AV} {objs:List Ob} {K:Res→Option R} {r:R} (h:ct58 m args objs K=some r):∃q:Res,K q=some r∧FX Tryz.prog 58 args objs q.1 q.2∧HasBody Tryz.prog 58:=by
 unfold ct58 at h
 split at h
 ·rename_i l hl
  obtain⟨x,hx,hk⟩:=Option.bind_eq_some_iff.1 h
  obtain⟨h1,h2⟩:=sel22_ok hl
  cases m with
  |zero=>cases hx
  |succ m=>exact⟨_,hk,(ref01_Get_fx m (hct m (Nat.lt_succ_self m)) _ _ hx).conv h1 h2,⟨_,Tryz.func58,rfl,by decide⟩⟩
 cases h
theorem ct59_ok (m:Nat) (hct:∀k,k<m→∀R,CallOK (R:=R) Tryz.prog (ct k)) {R:Type} {args:List AV} {objs:List Ob} {K:Res→Option R} {r:R} (h:ct59 m args objs K=some r):∃q:Res,K q=some r∧FX Tryz.prog 59 args objs q.1 q.2∧HasBody Tryz.prog 59:=by
 unfold ct59 at h
 split at h
 ·rename_i l hl
  obtain⟨x,hx,hk⟩:=Option.bind_eq_some_iff.1 h
  obtain⟨h1,h2⟩:=sel50_ok hl
  cases m with
  |zero=>cases hx
  |succ m=>exact⟨_,hk,(ref14_step_fx m (hct m (Nat.lt_succ_self m)) _ _ hx).conv h1 h2,⟨_,Tryz.func59,rfl,by decide⟩⟩
 cases h
theorem ct89_ok (m:Nat) (hct:∀k,k<m→∀R,CallOK (R:=R) Tryz.prog (ct k)) {R:Type} {args:List AV} {objs:List Ob} {K:Res→Option R} {r:R} (h:ct89 m args objs K=some r):∃q:Res,K q=some r∧FX Tryz.prog 89 args objs q.1 q.2∧HasBody Tryz.prog 89:=by
 unfold ct89 at h
 split at h
 ·rename_i l hl
  obtain⟨x,hx,hk⟩:=Option.bind_eq_some_iff.1 h
  obtain⟨h1,h2⟩:=sel51_ok hl
  cases m with
  |zero=>cases hx
  |succ m=>exact⟨_,hk,(ref14_has_fx m (hct m (Nat.lt_succ_self m)) _ _ hx).conv h1 h2,⟨_,Tryz.func89,rfl,by decide⟩⟩
 cases h
theorem ct60_ok (m:Nat) (hct:∀k,k<m→∀R,CallOK (R:=R) Tryz.prog (ct k)) {R:Type} {args:List AV} {objs:List Ob} {K:Res→Option R} {r:R} (h:ct60 m args objs K=some r):∃q:Res,K q=some r∧FX Tryz.prog 60 args objs q.1 q.2∧HasBody Tryz.prog 60:=by
 unfold ct60 at h
 split at h
 ·rename_i l hl
  obtain⟨x,hx,hk⟩:=Option.bind_eq_some_iff.1 h
  obtain⟨h1,h2⟩:=sel27_ok hl
  cases m with
  |zero=>cases hx
  |succ m=>exact⟨_,hk,(ref05_Decimal_fx m (hct m (Nat.lt_succ_self m)) _ hx).conv h1 h2,⟨_,Tryz.func60,rfl,by decide⟩⟩
 cases h
theorem ct43_ok (m:Nat) (hct:∀k,k<m→∀R,CallOK (R:=R) Tryz.prog (ct k)) {R:Type} {args:List AV} {objs:List Ob} {K:Res→Option R} {r:R} (h:ct43 m args objs K=some r):∃q:Res,K q=some r∧FX Tryz.prog 43 args objs q.1 q.2∧HasBody Tryz.prog 43:=by
 unfold ct43 at h
 split at h
 ·rename_i l hl
  obtain⟨x,hx,hk⟩:=Option.bind_eq_some_iff.1 h
  obtain⟨h1,h2⟩:=sel30_ok hl
  cases m with
  |zero=>cases hx
  |succ m=>exact⟨_,hk,(ref04_prefix_fx m (hct m (Nat.lt_succ_self m)) _ _ hx).conv h1 h2,⟨_,Tryz.func43,rfl,by decide⟩⟩
 cases h
theorem ct92_ok (m:Nat) (hct:∀k,k<m→∀R,CallOK (R:=R) Tryz.prog (ct k)) {R:Type} {args:List AV} {objs:List Ob} {K:Res→Option R} {r:R} (h:ct92 m args objs K=some r):∃q:Res,K q=some r∧FX Tryz.prog 92 args objs q.1 q.2∧HasBody Tryz.prog 92:=by
 unfold ct92 at h
 split at h
 ·rename_i l hl
  obtain⟨x,hx,hk⟩:=Option.bind_eq_some_iff.1 h
  obtain⟨h1,h2⟩:=sel54_ok hl
  cases m with
  |zero=>cases hx
  |succ m=>exact⟨_,hk,(schema_isName_fx m (hct m (Nat.lt_succ_self m)) _ hx).conv h1 h2,⟨_,Tryz.func92,rfl,by decide⟩⟩
 cases h
theorem ct93_ok (m:Nat) (hct:∀k,k<m→∀R,CallOK (R:=R) Tryz.prog (ct k)) {R:Type} {args:List AV} {objs:List Ob} {K:Res→Option R} {r:R} (h:ct93 m args objs K=some r):∃q:Res,K q=some r∧FX Tryz.prog 93 args objs q.1 q.2∧HasBody Tryz.prog 93:=by
 unfold ct93 at h
 split at h
 ·rename_i l hl
  obtain⟨x,hx,hk⟩:=Option.bind_eq_some_iff.1 h
  obtain⟨h1,h2⟩:=sel55_ok hl
  cases m with
  |zero=>cases hx
  |succ m=>exact⟨_,hk,(schema_bound_fx m (hct m (Nat.lt_succ_self m)) _ _ hx).conv h1 h2,⟨_,Tryz.func93,rfl,by decide⟩⟩
 cases h
theorem ct36_ok (m:Nat) (hct:∀k,k<m→∀R,CallOK (R:=R) Tryz.prog (ct k)) {R:Type} {args:List AV} {objs:List Ob} {K:Res→Option R} {r:R} (h:ct36 m args objs K=some r):∃q:Res,K q=some r∧FX Tryz.prog 36 args objs q.1 q.2∧HasBody Tryz.prog 36:=by
 unfold ct36 at h
 split at h
 ·rename_i l hl
  obtain⟨x,hx,hk⟩:=Option.bind_eq_some_iff.1 h
  obtain⟨h1,h2⟩:=sel21_ok hl
  cases m with
  |zero=>cases hx
  |succ m=>exact⟨_,hk,(value_Valid_fx m (hct m (Nat.lt_succ_self m)) _ hx).conv h1 h2,⟨_,Tryz.func36,rfl,by decide⟩⟩
 cases h
theorem ct108_ok (m:Nat) (hct:∀k,k<m→∀R,CallOK (R:=R) Tryz.prog (ct k)) {R:Type} {args:List AV} {objs:List Ob} {K:Res→Option R} {r:R} (h:ct108 m args objs K=some r):∃q:Res,K q=some r∧FX Tryz.prog 108 args objs q.1 q.2∧HasBody Tryz.prog 108:=by
 unfold ct108 at h
 split at h
 ·rename_i l hl
  obtain⟨x,hx,hk⟩:=Option.bind_eq_some_iff.1 h
  obtain⟨h1,h2⟩:=sel27_ok hl
  cases m with
  |zero=>cases hx
  |succ m=>exact⟨_,hk,(cmp_isNaN_fx m (hct m (Nat.lt_succ_self m)) _ hx).conv h1 h2,⟨_,Tryz.func108,rfl,by decide⟩⟩
 cases h
theorem ct77_ok (m:Nat) (hct:∀k,k<m→∀R,CallOK (R:=R) Tryz.prog (ct k)) {R:Type} {args:List AV} {objs:List Ob} {K:Res→Option R} {r:R} (h:ct77 m args objs K=some r):∃q:Res,K q=some r∧FX Tryz.prog 77 args objs q.1 q.2∧HasBody Tryz.prog 77:=by
 unfold ct77 at h
 split at h
 ·rename_i l hl
  obtain⟨x,hx,hk⟩:=Option.bind_eq_some_iff.1 h
  obtain⟨h1,h2⟩:=sel11_ok hl
  cases m with
  |zero=>cases hx
  |succ m=>exact⟨_,hk,(ref14_single_fx m (hct m (Nat.lt_succ_self m)) _ hx).conv h1 h2,⟨_,Tryz.func77,rfl,by decide⟩⟩
 cases h
theorem ct112_ok (m:Nat) (hct:∀k,k<m→∀R,CallOK (R:=R) Tryz.prog (ct k)) {R:Type} {args:List AV} {objs:List Ob} {K:Res→Option R} {r:R} (h:ct112 m args objs K=some r):∃q:Res,K q=some r∧FX Tryz.prog 112 args objs q.1 q.2∧HasBody Tryz.prog 112:=by
 unfold ct112 at h
 split at h
 ·rename_i l hl
  obtain⟨x,hx,hk⟩:=Option.bind_eq_some_iff.1 h
  obtain⟨h1,h2⟩:=sel19_ok hl
  cases m with
  |zero=>cases hx
  |succ m=>exact⟨_,hk,(ref01_Equal_fx m (hct m (Nat.lt_succ_self m)) _ _ hx).conv h1 h2,⟨_,Tryz.func112,rfl,by decide⟩⟩
 cases h
theorem ct113_ok (m:Nat) (hct:∀k,k<m→∀R,CallOK (R:=R) Tryz.prog (ct k)) {R:Type} {args:List AV} {objs:List Ob} {K:Res→Option R} {r:R} (h:ct113 m args objs K=some r):∃q:Res,K q=some r∧FX Tryz.prog 113 args objs q.1 q.2∧HasBody Tryz.prog 113:=by
 unfold ct113 at h
 split at h
 ·rename_i l hl
  obtain⟨x,hx,hk⟩:=Option.bind_eq_some_iff.1 h
  obtain⟨h1,h2⟩:=sel13_ok hl
  cases m with
  |zero=>cases hx
  |succ m=>exact⟨_,hk,(ref01_Ints_fx m (hct m (Nat.lt_succ_self m)) _ _ hx).conv h1 h2,⟨_,Tryz.func113,rfl,by decide⟩⟩
 cases h
theorem ct114_ok (m:Nat) (hct:∀k,k<m→∀R,CallOK (R:=R) Tryz.prog (ct k)) {R:Type} {args:List AV} {objs:List Ob} {K:Res→Option R} {r:R} (h:ct114 m args objs K=some r):∃q:Res,K q=some r∧FX Tryz.prog 114 args objs q.1 q.2∧HasBody Tryz.prog 114:=by
 unfold ct114 at h
 split at h
 ·rename_i l hl
  obtain⟨x,hx,hk⟩:=Option.bind_eq_some_iff.1 h
  obtain⟨h1,h2⟩:=sel36_ok hl
  cases m with
  |zero=>cases hx
  |succ m=>exact⟨_,hk,(ref01_Texts_fx m (hct m (Nat.lt_succ_self m)) _ _ hx).conv h1 h2,⟨_,Tryz.func114,rfl,by decide⟩⟩
 cases h
theorem ct90_ok (m:Nat) (hct:∀k,k<m→∀R,CallOK (R:=R) Tryz.prog (ct k)) {R:Type} {args:List AV} {objs:List Ob} {K:Res→Option R} {r:R} (h:ct90 m args objs K=some r):∃q:Res,K q=some r∧FX Tryz.prog 90 args objs q.1 q.2∧HasBody Tryz.prog 90:=by
 unfold ct90 at h
 split at h
 ·rename_i l hl
  obtain⟨x,hx,hk⟩:=Option.bind_eq_some_iff.1 h
  obtain⟨h1,h2⟩:=sel22_ok hl
  cases m with
  |zero=>cases hx
  |succ m=>exact⟨_,hk,(ref01_at_fx m (hct m (Nat.lt_succ_self m)) _ _ hx).conv h1 h2,⟨_,Tryz.func90,rfl,by decide⟩⟩
 cases h
theorem ct91_ok (m:Nat) (hct:∀k,k<m→∀R,CallOK (R:=R) Tryz.prog (ct k)) {R:Type} {args:List AV} {objs:List Ob} {K:Res→Option R} {r:R} (h:ct91 m args objs K=some r):∃q:Res,K q=some r∧FX Tryz.prog 91 args objs q.1 q.2∧HasBody Tryz.prog 91:=by
 unfold ct91 at h
 split at h
 ·rename_i l hl
  obtain⟨x,hx,hk⟩:=Option.bind_eq_some_iff.1 h
  obtain⟨h1,h2⟩:=sel27_ok hl
  cases m with
  |zero=>cases hx
  |succ m=>exact⟨_,hk,(ref05_digit_fx m (hct m (Nat.lt_succ_self m)) _ hx).conv h1 h2,⟨_,Tryz.func91,rfl,by decide⟩⟩
 cases h
theorem ct33_ok (m:Nat) (hct:∀k,k<m→∀R,CallOK (R:=R) Tryz.prog (ct k)) {R:Type} {args:List AV} {objs:List Ob} {K:Res→Option R} {r:R} (h:ct33 m args objs K=some r):∃q:Res,K q=some r∧FX Tryz.prog 33 args objs q.1 q.2∧HasBody Tryz.prog 33:=by
 unfold ct33 at h
 split at h
 ·rename_i l hl
  obtain⟨x,hx,hk⟩:=Option.bind_eq_some_iff.1 h
  obtain⟨h1,h2⟩:=sel21_ok hl
  cases m with
  |zero=>cases hx
  |succ m=>exact⟨_,hk,(value_Nodes_fx m (hct m (Nat.lt_succ_self m)) _ hx).conv h1 h2,⟨_,Tryz.func33,rfl,by decide⟩⟩
 cases h
theorem ct34_ok (m:Nat) (hct:∀k,k<m→∀R,CallOK (R:=R) Tryz.prog (ct k)) {R:Type} {args:List AV} {objs:List Ob} {K:Res→Option R} {r:R} (h:ct34 m args objs K=some r):∃q:Res,K q=some r∧FX Tryz.prog 34 args objs q.1 q.2∧HasBody Tryz.prog 34:=by
 unfold ct34 at h
 split at h
 ·rename_i l hl
  obtain⟨x,hx,hk⟩:=Option.bind_eq_some_iff.1 h
  obtain⟨h1,h2⟩:=sel21_ok hl
  cases m with
  |zero=>cases hx
  |succ m=>exact⟨_,hk,(value_Depth_fx m (hct m (Nat.lt_succ_self m)) _ hx).conv h1 h2,⟨_,Tryz.func34,rfl,by decide⟩⟩
 cases h
theorem ct65_ok (m:Nat) (hct:∀k,k<m→∀R,CallOK (R:=R) Tryz.prog (ct k)) {R:Type} {args:List AV} {objs:List Ob} {K:Res→Option R} {r:R} (h:ct65 m args objs K=some r):∃q:Res,K q=some r∧FX Tryz.prog 65 args objs q.1 q.2∧HasBody Tryz.prog 65:=by
 unfold ct65 at h
 split at h
 ·rename_i l hl
  obtain⟨x,hx,hk⟩:=Option.bind_eq_some_iff.1 h
  obtain⟨h1,h2⟩:=sel21_ok hl
  cases m with
  |zero=>cases hx
  |succ m=>exact⟨_,hk,(value_sound_fx m (hct m (Nat.lt_succ_self m)) _ hx).conv h1 h2,⟨_,Tryz.func65,rfl,by decide⟩⟩
 cases h
theorem ct105_ok (m:Nat) (hct:∀k,k<m→∀R,CallOK (R:=R) Tryz.prog (ct k)) {R:Type} {args:List AV} {objs:List Ob} {K:Res→Option R} {r:R} (h:ct105 m args objs K=some r):∃q:Res,K q=some r∧FX Tryz.prog 105 args objs q.1 q.2∧HasBody Tryz.prog 105:=by
 unfold ct105 at h
 split at h
 ·rename_i l hl
  obtain⟨x,hx,hk⟩:=Option.bind_eq_some_iff.1 h
  obtain⟨h1,h2⟩:=sel67_ok hl
  cases m with
  |zero=>cases hx
  |succ m=>exact⟨_,hk,(ref14_different_fx m (hct m (Nat.lt_succ_self m)) _ hx).conv h1 h2,⟨_,Tryz.func105,rfl,by decide⟩⟩
 cases h
theorem ct106_ok (m:Nat) (hct:∀k,k<m→∀R,CallOK (R:=R) Tryz.prog (ct k)) {R:Type} {args:List AV} {objs:List Ob} {K:Res→Option R} {r:R} (h:ct106 m args objs K=some r):∃q:Res,K q=some r∧FX Tryz.prog 106 args objs q.1 q.2∧HasBody Tryz.prog 106:=by
 unfold ct106 at h
 split at h
 ·rename_i l hl
  obtain⟨x,hx,hk⟩:=Option.bind_eq_some_iff.1 h
  obtain⟨h1,h2⟩:=sel55_ok hl
  cases m with
  |zero=>cases hx
  |succ m=>exact⟨_,hk,(ref14_unused_fx m (hct m (Nat.lt_succ_self m)) _ _ hx).conv h1 h2,⟨_,Tryz.func106,rfl,by decide⟩⟩
 cases h
theorem ct107_ok (m:Nat) (hct:∀k,k<m→∀R,CallOK (R:=R) Tryz.prog (ct k)) {R:Type} {args:List AV} {objs:List Ob} {K:Res→Option R} {r:R} (h:ct107 m args objs K=some r):∃q:Res,K q=some r∧FX Tryz.prog 107 args objs q.1 q.2∧HasBody Tryz.prog 107:=by
 unfold ct107 at h
 split at h
 ·rename_i l hl
  obtain⟨x,hx,hk⟩:=Option.bind_eq_some_iff.1 h
  obtain⟨h1,h2⟩:=sel21_ok hl
  cases m with
  |zero=>cases hx
  |succ m=>exact⟨_,hk,(ref01_Valid_fx m (hct m (Nat.lt_succ_self m)) _ hx).conv h1 h2,⟨_,Tryz.func107,rfl,by decide⟩⟩
 cases h
theorem ct62_ok (m:Nat) (hct:∀k,k<m→∀R,CallOK (R:=R) Tryz.prog (ct k)) {R:Type} {args:List AV} {objs:List Ob} {K:Res→Option R} {r:R} (h:ct62 m args objs K=some r):∃q:Res,K q=some r∧FX Tryz.prog 62 args objs q.1 q.2∧HasBody Tryz.prog 62:=by
 unfold ct62 at h
 split at h
 ·rename_i l hl
  obtain⟨x,hx,hk⟩:=Option.bind_eq_some_iff.1 h
  obtain⟨h1,h2⟩:=sel10_ok hl
  cases m with
  |zero=>cases hx
  |succ m=>exact⟨_,hk,(value_nodes_fx m (hct m (Nat.lt_succ_self m)) _ _ hx).conv h1 h2,⟨_,Tryz.func62,rfl,by decide⟩⟩
 cases h
theorem ct63_ok (m:Nat) (hct:∀k,k<m→∀R,CallOK (R:=R) Tryz.prog (ct k)) {R:Type} {args:List AV} {objs:List Ob} {K:Res→Option R} {r:R} (h:ct63 m args objs K=some r):∃q:Res,K q=some r∧FX Tryz.prog 63 args objs q.1 q.2∧HasBody Tryz.prog 63:=by
 unfold ct63 at h
 split at h
 ·rename_i l hl
  obtain⟨x,hx,hk⟩:=Option.bind_eq_some_iff.1 h
  obtain⟨h1,h2⟩:=sel10_ok hl
  cases m with
  |zero=>cases hx
  |succ m=>exact⟨_,hk,(value_depth_fx m (hct m (Nat.lt_succ_self m)) _ _ hx).conv h1 h2,⟨_,Tryz.func63,rfl,by decide⟩⟩
 cases h
theorem ct97_ok (m:Nat) (hct:∀k,k<m→∀R,CallOK (R:=R) Tryz.prog (ct k)) {R:Type} {args:List AV} {objs:List Ob} {K:Res→Option R} {r:R} (h:ct97 m args objs K=some r):∃q:Res,K q=some r∧FX Tryz.prog 97 args objs q.1 q.2∧HasBody Tryz.prog 97:=by
 unfold ct97 at h
 split at h
 ·rename_i l hl
  obtain⟨x,hx,hk⟩:=Option.bind_eq_some_iff.1 h
  obtain⟨h1,h2⟩:=sel54_ok hl
  exact⟨_,hk,(ValidString_fx hx).conv h1 h2,⟨_,Tryz.func97,rfl,by decide⟩⟩
 cases h
theorem ct98_ok (m:Nat) (hct:∀k,k<m→∀R,CallOK (R:=R) Tryz.prog (ct k)) {R:Type} {args:List AV} {objs:List Ob} {K:Res→Option R} {r:R} (h:ct98 m args objs K=some r):∃q:Res,K q=some r∧FX Tryz.prog 98 args objs q.1 q.2∧HasBody Tryz.prog 98:=by
 unfold ct98 at h
 split at h
 ·rename_i l hl
  obtain⟨x,hx,hk⟩:=Option.bind_eq_some_iff.1 h
  obtain⟨h1,h2⟩:=sel73_ok hl
  cases m with
  |zero=>cases hx
  |succ m=>exact⟨_,hk,(value_soundFields_fx m (hct m (Nat.lt_succ_self m)) _ hx).conv h1 h2,⟨_,Tryz.func98,rfl,by decide⟩⟩
 cases h
theorem ct102_ok (m:Nat) (hct:∀k,k<m→∀R,CallOK (R:=R) Tryz.prog (ct k)) {R:Type} {args:List AV} {objs:List Ob} {K:Res→Option R} {r:R} (h:ct102 m args objs K=some r):∃q:Res,K q=some r∧FX Tryz.prog 102 args objs q.1 q.2∧HasBody Tryz.prog 102:=by
 unfold ct102 at h
 split at h
 ·rename_i l hl
  obtain⟨x,hx,hk⟩:=Option.bind_eq_some_iff.1 h
  obtain⟨h1,h2⟩:=sel54_ok hl
  cases m with
  |zero=>cases hx
  |succ m=>exact⟨_,hk,(ref01_Name_fx m (hct m (Nat.lt_succ_self m)) _ hx).conv h1 h2,⟨_,Tryz.func102,rfl,by decide⟩⟩
 cases h
theorem ct26_ok (m:Nat) (hct:∀k,k<m→∀R,CallOK (R:=R) Tryz.prog (ct k)) {R:Type} {args:List AV} {objs:List Ob} {K:Res→Option R} {r:R} (h:ct26 m args objs K=some r):∃q:Res,K q=some r∧FX Tryz.prog 26 args objs q.1 q.2∧HasBody Tryz.prog 26:=by
 unfold ct26 at h
 split at h
 ·rename_i l hl
  obtain⟨x,hx,hk⟩:=Option.bind_eq_some_iff.1 h
  obtain⟨h1,h2⟩:=sel19_ok hl
  cases m with
  |zero=>cases hx
  |succ m=>exact⟨_,hk,(ref01_Same_fx m (hct m (Nat.lt_succ_self m)) _ _ hx).conv h1 h2,⟨_,Tryz.func26,rfl,by decide⟩⟩
 cases h
theorem ct38_ok (m:Nat) (hct:∀k,k<m→∀R,CallOK (R:=R) Tryz.prog (ct k)) {R:Type} {args:List AV} {objs:List Ob} {K:Res→Option R} {r:R} (h:ct38 m args objs K=some r):∃q:Res,K q=some r∧FX Tryz.prog 38 args objs q.1 q.2∧HasBody Tryz.prog 38:=by
 unfold ct38 at h
 split at h
 ·rename_i l hl
  obtain⟨x,hx,hk⟩:=Option.bind_eq_some_iff.1 h
  obtain⟨h1,h2⟩:=sel21_ok hl
  cases m with
  |zero=>cases hx
  |succ m=>exact⟨_,hk,(ref01_Depth_fx m (hct m (Nat.lt_succ_self m)) _ hx).conv h1 h2,⟨_,Tryz.func38,rfl,by decide⟩⟩
 cases h
theorem ct39_ok (m:Nat) (hct:∀k,k<m→∀R,CallOK (R:=R) Tryz.prog (ct k)) {R:Type} {args:List AV} {objs:List Ob} {K:Res→Option R} {r:R} (h:ct39 m args objs K=some r):∃q:Res,K q=some r∧FX Tryz.prog 39 args objs q.1 q.2∧HasBody Tryz.prog 39:=by
 unfold ct39 at h
 split at h
 ·rename_i l hl
  obtain⟨x,hx,hk⟩:=Option.bind_eq_some_iff.1 h
  obtain⟨h1,h2⟩:=sel21_ok hl
  cases m with
  |zero=>cases hx
  |succ m=>exact⟨_,hk,(ref01_Nodes_fx m (hct m (Nat.lt_succ_self m)) _ hx).conv h1 h2,⟨_,Tryz.func39,rfl,by decide⟩⟩
 cases h
theorem ct40_ok (m:Nat) (hct:∀k,k<m→∀R,CallOK (R:=R) Tryz.prog (ct k)) {R:Type} {args:List AV} {objs:List Ob} {K:Res→Option R} {r:R} (h:ct40 m args objs K=some r):∃q:Res,K q=some r∧FX Tryz.prog 40 args objs q.1 q.2∧HasBody Tryz.prog 40:=by
 unfold ct40 at h
 split at h
 ·rename_i l hl
  obtain⟨x,hx,hk⟩:=Option.bind_eq_some_iff.1 h
  obtain⟨h1,h2⟩:=sel78_ok hl
  cases m with
  |zero=>cases hx
  |succ m=>exact⟨_,hk,(ref01_formed_fx m (hct m (Nat.lt_succ_self m)) _ _ hx).conv h1 h2,⟨_,Tryz.func40,rfl,by decide⟩⟩
 cases h
theorem ct94_ok (m:Nat) (hct:∀k,k<m→∀R,CallOK (R:=R) Tryz.prog (ct k)) {R:Type} {args:List AV} {objs:List Ob} {K:Res→Option R} {r:R} (h:ct94 m args objs K=some r):∃q:Res,K q=some r∧FX Tryz.prog 94 args objs q.1 q.2∧HasBody Tryz.prog 94:=by
 unfold ct94 at h
 split at h
 ·rename_i l hl
  obtain⟨x,hx,hk⟩:=Option.bind_eq_some_iff.1 h
  obtain⟨h1,h2⟩:=sel79_ok hl
  cases m with
  |zero=>cases hx
  |succ m=>exact⟨_,hk,(i79_fx m (hct m (Nat.lt_succ_self m)) _ _ _ hx).conv h1 h2,⟨_,Tryz.func94,rfl,by decide⟩⟩
 split at h
 ·rename_i l hl
  obtain⟨x,hx,hk⟩:=Option.bind_eq_some_iff.1 h
  obtain⟨h1,h2⟩:=sel81_ok hl
  cases m with
  |zero=>cases hx
  |succ m=>exact⟨_,hk,(i81_fx m (hct m (Nat.lt_succ_self m)) _ _ _ hx).conv h1 h2,⟨_,Tryz.func94,rfl,by decide⟩⟩
 cases h
theorem ct95_ok (m:Nat) (hct:∀k,k<m→∀R,CallOK (R:=R) Tryz.prog (ct k)) {R:Type} {args:List AV} {objs:List Ob} {K:Res→Option R} {r:R} (h:ct95 m args objs K=some r):∃q:Res,K q=some r∧FX Tryz.prog 95 args objs q.1 q.2∧HasBody Tryz.prog 95:=by
 unfold ct95 at h
 split at h
 ·rename_i l hl
  obtain⟨x,hx,hk⟩:=Option.bind_eq_some_iff.1 h
  obtain⟨h1,h2⟩:=sel80_ok hl
  cases m with
  |zero=>cases hx
  |succ m=>exact⟨_,hk,(i80_fx m (hct m (Nat.lt_succ_self m)) _ _ _ hx).conv h1 h2,⟨_,Tryz.func95,rfl,by decide⟩⟩
 cases h
theorem ct96_ok (m:Nat) (hct:∀k,k<m→∀R,CallOK (R:=R) Tryz.prog (ct k)) {R:Type} {args:List AV} {objs:List Ob} {K:Res→Option R} {r:R} (h:ct96 m args objs K=some r):∃q:Res,K q=some r∧FX Tryz.prog 96 args objs q.1 q.2∧HasBody Tryz.prog 96:=by
 unfold ct96 at h
 split at h
 ·rename_i l hl
  obtain⟨x,hx,hk⟩:=Option.bind_eq_some_iff.1 h
  obtain⟨h1,h2⟩:=sel80_ok hl
  cases m with
  |zero=>cases hx
  |succ m=>exact⟨_,hk,(i82_fx m (hct m (Nat.lt_succ_self m)) _ _ _ hx).conv h1 h2,⟨_,Tryz.func96,rfl,by decide⟩⟩
 cases h
theorem ct116_ok (m:Nat) (hct:∀k,k<m→∀R,CallOK (R:=R) Tryz.prog (ct k)) {R:Type} {args:List AV} {objs:List Ob} {K:Res→Option R} {r:R} (h:ct116 m args objs K=some r):∃q:Res,K q=some r∧FX Tryz.prog 116 args objs q.1 q.2∧HasBody Tryz.prog 116:=by
 unfold ct116 at h
 split at h
 ·rename_i l hl
  obtain⟨x,hx,hk⟩:=Option.bind_eq_some_iff.1 h
  obtain⟨h1,h2⟩:=sel54_ok hl
  cases m with
  |zero=>cases hx
  |succ m=>exact⟨_,hk,(value_isName_fx m (hct m (Nat.lt_succ_self m)) _ hx).conv h1 h2,⟨_,Tryz.func116,rfl,by decide⟩⟩
 cases h
theorem ct70_ok (m:Nat) (hct:∀k,k<m→∀R,CallOK (R:=R) Tryz.prog (ct k)) {R:Type} {args:List AV} {objs:List Ob} {K:Res→Option R} {r:R} (h:ct70 m args objs K=some r):∃q:Res,K q=some r∧FX Tryz.prog 70 args objs q.1 q.2∧HasBody Tryz.prog 70:=by
 unfold ct70 at h
 split at h
 ·rename_i l hl
  obtain⟨x,hx,hk⟩:=Option.bind_eq_some_iff.1 h
  obtain⟨h1,h2⟩:=sel10_ok hl
  cases m with
  |zero=>cases hx
  |succ m=>exact⟨_,hk,(ref01_levels_fx m (hct m (Nat.lt_succ_self m)) _ _ hx).conv h1 h2,⟨_,Tryz.func70,rfl,by decide⟩⟩
 cases h
theorem ct71_ok (m:Nat) (hct:∀k,k<m→∀R,CallOK (R:=R) Tryz.prog (ct k)) {R:Type} {args:List AV} {objs:List Ob} {K:Res→Option R} {r:R} (h:ct71 m args objs K=some r):∃q:Res,K q=some r∧FX Tryz.prog 71 args objs q.1 q.2∧HasBody Tryz.prog 71:=by
 unfold ct71 at h
 split at h
 ·rename_i l hl
  obtain⟨x,hx,hk⟩:=Option.bind_eq_some_iff.1 h
  obtain⟨h1,h2⟩:=sel10_ok hl
  cases m with
  |zero=>cases hx
  |succ m=>exact⟨_,hk,(ref01_count_fx m (hct m (Nat.lt_succ_self m)) _ _ hx).conv h1 h2,⟨_,Tryz.func71,rfl,by decide⟩⟩
 cases h
theorem ct72_ok (m:Nat) (hct:∀k,k<m→∀R,CallOK (R:=R) Tryz.prog (ct k)) {R:Type} {args:List AV} {objs:List Ob} {K:Res→Option R} {r:R} (h:ct72 m args objs K=some r):∃q:Res,K q=some r∧FX Tryz.prog 72 args objs q.1 q.2∧HasBody Tryz.prog 72:=by
 unfold ct72 at h
 split at h
 ·rename_i l hl
  obtain⟨x,hx,hk⟩:=Option.bind_eq_some_iff.1 h
  obtain⟨h1,h2⟩:=sel54_ok hl
  cases m with
  |zero=>cases hx
  |succ m=>exact⟨_,hk,(ref01_UTF8_fx m (hct m (Nat.lt_succ_self m)) _ hx).conv h1 h2,⟨_,Tryz.func72,rfl,by decide⟩⟩
 cases h
theorem ct73_ok (m:Nat) (hct:∀k,k<m→∀R,CallOK (R:=R) Tryz.prog (ct k)) {R:Type} {args:List AV} {objs:List Ob} {K:Res→Option R} {r:R} (h:ct73 m args objs K=some r):∃q:Res,K q=some r∧FX Tryz.prog 73 args objs q.1 q.2∧HasBody Tryz.prog 73:=by
 unfold ct73 at h
 split at h
 ·rename_i l hl
  obtain⟨x,hx,hk⟩:=Option.bind_eq_some_iff.1 h
  obtain⟨h1,h2⟩:=sel78_ok hl
  cases m with
  |zero=>cases hx
  |succ m=>exact⟨_,hk,(ref01_fields_fx m (hct m (Nat.lt_succ_self m)) _ _ hx).conv h1 h2,⟨_,Tryz.func73,rfl,by decide⟩⟩
 cases h
theorem ct100_ok (m:Nat) (hct:∀k,k<m→∀R,CallOK (R:=R) Tryz.prog (ct k)) {R:Type} {args:List AV} {objs:List Ob} {K:Res→Option R} {r:R} (h:ct100 m args objs K=some r):∃q:Res,K q=some r∧FX Tryz.prog 100 args objs q.1 q.2∧HasBody Tryz.prog 100:=by
 unfold ct100 at h
 split at h
 ·rename_i l hl
  obtain⟨x,hx,hk⟩:=Option.bind_eq_some_iff.1 h
  obtain⟨h1,h2⟩:=sel21_ok hl
  cases m with
  |zero=>cases hx
  |succ m=>exact⟨_,hk,(ref01_Parts_fx m (hct m (Nat.lt_succ_self m)) _ hx).conv h1 h2,⟨_,Tryz.func100,rfl,by decide⟩⟩
 cases h
theorem ct101_ok (m:Nat) (hct:∀k,k<m→∀R,CallOK (R:=R) Tryz.prog (ct k)) {R:Type} {args:List AV} {objs:List Ob} {K:Res→Option R} {r:R} (h:ct101 m args objs K=some r):∃q:Res,K q=some r∧FX Tryz.prog 101 args objs q.1 q.2∧HasBody Tryz.prog 101:=by
 unfold ct101 at h
 split at h
 ·rename_i l hl
  obtain⟨x,hx,hk⟩:=Option.bind_eq_some_iff.1 h
  obtain⟨h1,h2⟩:=sel89_ok hl
  cases m with
  |zero=>cases hx
  |succ m=>exact⟨_,hk,(ref01_tail_fx m (hct m (Nat.lt_succ_self m)) _ _ _ hx).conv h1 h2,⟨_,Tryz.func101,rfl,by decide⟩⟩
 cases h
theorem ct103_ok (m:Nat) (hct:∀k,k<m→∀R,CallOK (R:=R) Tryz.prog (ct k)) {R:Type} {args:List AV} {objs:List Ob} {K:Res→Option R} {r:R} (h:ct103 m args objs K=some r):∃q:Res,K q=some r∧FX Tryz.prog 103 args objs q.1 q.2∧HasBody Tryz.prog 103:=by
 unfold ct103 at h
 split at h
 ·rename_i l hl
  obtain⟨x,hx,hk⟩:=Option.bind_eq_some_iff.1 h
  obtain⟨h1,h2⟩:=sel54_ok hl
  cases m with
  |zero=>cases hx
  |succ m=>exact⟨_,hk,(ref01_wide_fx m (hct m (Nat.lt_succ_self m)) _ hx).conv h1 h2,⟨_,Tryz.func103,rfl,by decide⟩⟩
 cases h
set_option maxHeartbeats 4000000 in
theorem ct_ok:∀(m:Nat) (R:Type),CallOK (R:=R) Tryz.prog (ct m):=by
 intro m
 induction m using Nat.strongRecOn with
 |_ m ih=>
  intro R f args objs K r h
  unfold ct at h
  rcases bset_some h with⟨hb,h1⟩| ⟨_,h⟩
  · have e:=beq_eq hb
    subst e
    exact ct4_ok m ih h1
  rcases bset_some h with⟨hb,h1⟩| ⟨_,h⟩
  · have e:=beq_eq hb
    subst e
    exact ct5_ok m ih h1
  rcases bset_some h with⟨hb,h1⟩| ⟨_,h⟩
  · have e:=beq_eq hb
    subst e
    exact ct11_ok m ih h1
  rcases bset_some h with⟨hb,h1⟩| ⟨_,h⟩
  · have e:=beq_eq hb
    subst e
    exact ct7_ok m ih h1
  rcases bset_some h with⟨hb,h1⟩| ⟨_,h⟩
  · have e:=beq_eq hb
    subst e
    exact ct13_ok m ih h1
  rcases bset_some h with⟨hb,h1⟩| ⟨_,h⟩
  · have e:=beq_eq hb
    subst e
    exact ct14_ok m ih h1
  rcases bset_some h with⟨hb,h1⟩| ⟨_,h⟩
  · have e:=beq_eq hb
    subst e
    exact ct12_ok m ih h1
  rcases bset_some h with⟨hb,h1⟩| ⟨_,h⟩
  · have e:=beq_eq hb
    subst e
    exact ct15_ok m ih h1
  rcases bset_some h with⟨hb,h1⟩| ⟨_,h⟩
  · have e:=beq_eq hb
    subst e
    exact ct16_ok m ih h1
  rcases bset_some h with⟨hb,h1⟩| ⟨_,h⟩
  · have e:=beq_eq hb
    subst e
    exact ct29_ok m ih h1
  rcases bset_some h with⟨hb,h1⟩| ⟨_,h⟩
  · have e:=beq_eq hb
    subst e
    exact ct6_ok m ih h1
  rcases bset_some h with⟨hb,h1⟩| ⟨_,h⟩
  · have e:=beq_eq hb
    subst e
    exact ct20_ok m ih h1
  rcases bset_some h with⟨hb,h1⟩| ⟨_,h⟩
  · have e:=beq_eq hb
    subst e
    exact ct30_ok m ih h1
  rcases bset_some h with⟨hb,h1⟩| ⟨_,h⟩
  · have e:=beq_eq hb
    subst e
    exact ct48_ok m ih h1
  rcases bset_some h with⟨hb,h1⟩| ⟨_,h⟩
  · have e:=beq_eq hb
    subst e
    exact ct44_ok m ih h1
  rcases bset_some h with⟨hb,h1⟩| ⟨_,h⟩
  · have e:=beq_eq hb
    subst e
    exact ct45_ok m ih h1
  rcases bset_some h with⟨hb,h1⟩| ⟨_,h⟩
  · have e:=beq_eq hb
    subst e
    exact ct49_ok m ih h1
  rcases bset_some h with⟨hb,h1⟩| ⟨_,h⟩
  · have e:=beq_eq hb
    subst e
    exact ct79_ok m ih h1
  rcases bset_some h with⟨hb,h1⟩| ⟨_,h⟩
  · have e:=beq_eq hb
    subst e
    exact ct46_ok m ih h1
  rcases bset_some h with⟨hb,h1⟩| ⟨_,h⟩
  · have e:=beq_eq hb
    subst e
    exact ct47_ok m ih h1
  rcases bset_some h with⟨hb,h1⟩| ⟨_,h⟩
  · have e:=beq_eq hb
    subst e
    exact ct50_ok m ih h1
  rcases bset_some h with⟨hb,h1⟩| ⟨_,h⟩
  · have e:=beq_eq hb
    subst e
    exact ct51_ok m ih h1
  rcases bset_some h with⟨hb,h1⟩| ⟨_,h⟩
  · have e:=beq_eq hb
    subst e
    exact ct52_ok m ih h1
  rcases bset_some h with⟨hb,h1⟩| ⟨_,h⟩
  · have e:=beq_eq hb
    subst e
    exact ct54_ok m ih h1
  rcases bset_some h with⟨hb,h1⟩| ⟨_,h⟩
  · have e:=beq_eq hb
    subst e
    exact ct82_ok m ih h1
  rcases bset_some h with⟨hb,h1⟩| ⟨_,h⟩
  · have e:=beq_eq hb
    subst e
    exact ct53_ok m ih h1
  rcases bset_some h with⟨hb,h1⟩| ⟨_,h⟩
  · have e:=beq_eq hb
    subst e
    exact ct55_ok m ih h1
  rcases bset_some h with⟨hb,h1⟩| ⟨_,h⟩
  · have e:=beq_eq hb
    subst e
    exact ct56_ok m ih h1
  rcases bset_some h with⟨hb,h1⟩| ⟨_,h⟩
  · have e:=beq_eq hb
    subst e
    exact ct25_ok m ih h1
  rcases bset_some h with⟨hb,h1⟩| ⟨_,h⟩
  · have e:=beq_eq hb
    subst e
    exact ct31_ok m ih h1
  rcases bset_some h with⟨hb,h1⟩| ⟨_,h⟩
  · have e:=beq_eq hb
    subst e
    exact ct28_ok m ih h1
  rcases bset_some h with⟨hb,h1⟩| ⟨_,h⟩
  · have e:=beq_eq hb
    subst e
    exact ct17_ok m ih h1
  rcases bset_some h with⟨hb,h1⟩| ⟨_,h⟩
  · have e:=beq_eq hb
    subst e
    exact ct32_ok m ih h1
  rcases bset_some h with⟨hb,h1⟩| ⟨_,h⟩
  · have e:=beq_eq hb
    subst e
    exact ct61_ok m ih h1
  rcases bset_some h with⟨hb,h1⟩| ⟨_,h⟩
  · have e:=beq_eq hb
    subst e
    exact ct78_ok m ih h1
  rcases bset_some h with⟨hb,h1⟩| ⟨_,h⟩
  · have e:=beq_eq hb
    subst e
    exact ct80_ok m ih h1
  rcases bset_some h with⟨hb,h1⟩| ⟨_,h⟩
  · have e:=beq_eq hb
    subst e
    exact ct81_ok m ih h1
  rcases bset_some h with⟨hb,h1⟩| ⟨_,h⟩
  · have e:=beq_eq hb
    subst e
    exact ct83_ok m ih h1
  rcases bset_some h with⟨hb,h1⟩| ⟨_,h⟩
  · have e:=beq_eq hb
    subst e
    exact ct84_ok m ih h1
  rcases bset_some h with⟨hb,h1⟩| ⟨_,h⟩
  · have e:=beq_eq hb
    subst e
    exact ct110_ok m ih h1
  rcases bset_some h with⟨hb,h1⟩| ⟨_,h⟩
  · have e:=beq_eq hb
    subst e
    exact ct118_ok m ih h1
  rcases bset_some h with⟨hb,h1⟩| ⟨_,h⟩
  · have e:=beq_eq hb
    subst e
    exact ct119_ok m ih h1
  rcases bset_some h with⟨hb,h1⟩| ⟨_,h⟩
  · have e:=beq_eq hb
    subst e
    exact ct124_ok m ih h1
  rcases bset_some h with⟨hb,h1⟩| ⟨_,h⟩
  · have e:=beq_eq hb
    subst e
    exact ct130_ok m ih h1
  rcases bset_some h with⟨hb,h1⟩| ⟨_,h⟩
  · have e:=beq_eq hb
    subst e
    exact ct42_ok m ih h1
  rcases bset_some h with⟨hb,h1⟩| ⟨_,h⟩
  · have e:=beq_eq hb
    subst e
    exact ct57_ok m ih h1
  rcases bset_some h with⟨hb,h1⟩| ⟨_,h⟩
  · have e:=beq_eq hb
    subst e
    exact ct86_ok m ih h1
  rcases bset_some h with⟨hb,h1⟩| ⟨_,h⟩
  · have e:=beq_eq hb
    subst e
    exact ct87_ok m ih h1
  rcases bset_some h with⟨hb,h1⟩| ⟨_,h⟩
  · have e:=beq_eq hb
    subst e
    exact ct88_ok m ih h1
  rcases bset_some h with⟨hb,h1⟩| ⟨_,h⟩
  · have e:=beq_eq hb
    subst e
    exact ct58_ok m ih h1
  rcases bset_some h with⟨hb,h1⟩| ⟨_,h⟩
  · have e:=beq_eq hb
    subst e
    exact ct59_ok m ih h1
  rcases bset_some h with⟨hb,h1⟩| ⟨_,h⟩
  · have e:=beq_eq hb
    subst e
    exact ct89_ok m ih h1
  rcases bset_some h with⟨hb,h1⟩| ⟨_,h⟩
  · have e:=beq_eq hb
    subst e
    exact ct60_ok m ih h1
  rcases bset_some h with⟨hb,h1⟩| ⟨_,h⟩
  · have e:=beq_eq hb
    subst e
    exact ct43_ok m ih h1
  rcases bset_some h with⟨hb,h1⟩| ⟨_,h⟩
  · have e:=beq_eq hb
    subst e
    exact ct92_ok m ih h1
  rcases bset_some h with⟨hb,h1⟩| ⟨_,h⟩
  · have e:=beq_eq hb
    subst e
    exact ct93_ok m ih h1
  rcases bset_some h with⟨hb,h1⟩| ⟨_,h⟩
  · have e:=beq_eq hb
    subst e
    exact ct36_ok m ih h1
  rcases bset_some h with⟨hb,h1⟩| ⟨_,h⟩
  · have e:=beq_eq hb
    subst e
    exact ct108_ok m ih h1
  rcases bset_some h with⟨hb,h1⟩| ⟨_,h⟩
  · have e:=beq_eq hb
    subst e
    exact ct77_ok m ih h1
  rcases bset_some h with⟨hb,h1⟩| ⟨_,h⟩
  · have e:=beq_eq hb
    subst e
    exact ct112_ok m ih h1
  rcases bset_some h with⟨hb,h1⟩| ⟨_,h⟩
  · have e:=beq_eq hb
    subst e
    exact ct113_ok m ih h1
  rcases bset_some h with⟨hb,h1⟩| ⟨_,h⟩
  · have e:=beq_eq hb
    subst e
    exact ct114_ok m ih h1
  rcases bset_some h with⟨hb,h1⟩| ⟨_,h⟩
  · have e:=beq_eq hb
    subst e
    exact ct90_ok m ih h1
  rcases bset_some h with⟨hb,h1⟩| ⟨_,h⟩
  · have e:=beq_eq hb
    subst e
    exact ct91_ok m ih h1
  rcases bset_some h with⟨hb,h1⟩| ⟨_,h⟩
  · have e:=beq_eq hb
    subst e
    exact ct33_ok m ih h1
  rcases bset_some h with⟨hb,h1⟩| ⟨_,h⟩
  · have e:=beq_eq hb
    subst e
    exact ct34_ok m ih h1
  rcases bset_some h with⟨hb,h1⟩| ⟨_,h⟩
  · have e:=beq_eq hb
    subst e
    exact ct65_ok m ih h1
  rcases bset_some h with⟨hb,h1⟩| ⟨_,h⟩
  · have e:=beq_eq hb
    subst e
    exact ct105_ok m ih h1
  rcases bset_some h with⟨hb,h1⟩| ⟨_,h⟩
  · have e:=beq_eq hb
    subst e
    exact ct106_ok m ih h1
  rcases bset_some h with⟨hb,h1⟩| ⟨_,h⟩
  · have e:=beq_eq hb
    subst e
    exact ct107_ok m ih h1
  rcases bset_some h with⟨hb,h1⟩| ⟨_,h⟩
  · have e:=beq_eq hb
    subst e
    exact ct62_ok m ih h1
  rcases bset_some h with⟨hb,h1⟩| ⟨_,h⟩
  · have e:=beq_eq hb
    subst e
    exact ct63_ok m ih h1
  rcases bset_some h with⟨hb,h1⟩| ⟨_,h⟩
  · have e:=beq_eq hb
    subst e
    exact ct97_ok m ih h1
  rcases bset_some h with⟨hb,h1⟩| ⟨_,h⟩
  · have e:=beq_eq hb
    subst e
    exact ct98_ok m ih h1
  rcases bset_some h with⟨hb,h1⟩| ⟨_,h⟩
  · have e:=beq_eq hb
    subst e
    exact ct102_ok m ih h1
  rcases bset_some h with⟨hb,h1⟩| ⟨_,h⟩
  · have e:=beq_eq hb
    subst e
    exact ct26_ok m ih h1
  rcases bset_some h with⟨hb,h1⟩| ⟨_,h⟩
  · have e:=beq_eq hb
    subst e
    exact ct38_ok m ih h1
  rcases bset_some h with⟨hb,h1⟩| ⟨_,h⟩
  · have e:=beq_eq hb
    subst e
    exact ct39_ok m ih h1
  rcases bset_some h with⟨hb,h1⟩| ⟨_,h⟩
  · have e:=beq_eq hb
    subst e
    exact ct40_ok m ih h1
  rcases bset_some h with⟨hb,h1⟩| ⟨_,h⟩
  · have e:=beq_eq hb
    subst e
    exact ct94_ok m ih h1
  rcases bset_some h with⟨hb,h1⟩| ⟨_,h⟩
  · have e:=beq_eq hb
    subst e
    exact ct95_ok m ih h1
  rcases bset_some h with⟨hb,h1⟩| ⟨_,h⟩
  · have e:=beq_eq hb
    subst e
    exact ct96_ok m ih h1
  rcases bset_some h with⟨hb,h1⟩| ⟨_,h⟩
  · have e:=beq_eq hb
    subst e
    exact ct116_ok m ih h1
  rcases bset_some h with⟨hb,h1⟩| ⟨_,h⟩
  · have e:=beq_eq hb
    subst e
    exact ct70_ok m ih h1
  rcases bset_some h with⟨hb,h1⟩| ⟨_,h⟩
  · have e:=beq_eq hb
    subst e
    exact ct71_ok m ih h1
  rcases bset_some h with⟨hb,h1⟩| ⟨_,h⟩
  · have e:=beq_eq hb
    subst e
    exact ct72_ok m ih h1
  rcases bset_some h with⟨hb,h1⟩| ⟨_,h⟩
  · have e:=beq_eq hb
    subst e
    exact ct73_ok m ih h1
  rcases bset_some h with⟨hb,h1⟩| ⟨_,h⟩
  · have e:=beq_eq hb
    subst e
    exact ct100_ok m ih h1
  rcases bset_some h with⟨hb,h1⟩| ⟨_,h⟩
  · have e:=beq_eq hb
    subst e
    exact ct101_ok m ih h1
  rcases bset_some h with⟨hb,h1⟩| ⟨_,h⟩
  · have e:=beq_eq hb
    subst e
    exact ct103_ok m ih h1
  cases h
end Go.Proofs.YtfneddmmeadacaaGreatDoor
