/- Generated: the contracts. -/
import Derived.Test.YtameompfdamfpaaGreatDoorEq0
set_option linter.unusedVariables false
set_option linter.unusedSimpArgs false
namespace Go.Proofs.YtameompfdamfpaaGreatDoor
open Go.Am
set_option maxRecDepth 100000
theorem mixed:Tryz.prog.follows .mixedOrders=true:=by kernel_rfl
theorem law03_SameList_fx (m:Nat) (hct:∀R,CallOK (R:=R) Tryz.prog (ct m)) (a0 a1:List Dt) {r:Bool} (h:law03_SameList (m+1) a0 a1=some r):FX Tryz.prog 14 [(.dat 23 (.lst a0)),(.dat 23 (.lst a1))] [] (.dat 4 (.bool r)) []:=
 FX_of (q:=((.dat 4 (.bool r)),[])) (E:=env) (m:=m+1) (dec:=d5) jn_ok (hct _) mixed Tryz.func14 rfl (Nat.le_of_ble_eq_true rfl) (fun b hb=>d5_sim hb) ((law03_SameList_eq m a0 a1).trans h)
theorem law03_Same_fx (m:Nat) (hct:∀R,CallOK (R:=R) Tryz.prog (ct m)) (a0 a1:Dt) {r:Bool} (h:law03_Same (m+1) a0 a1=some r):FX Tryz.prog 46 [(.dat 33 a0),(.dat 33 a1)] [] (.dat 4 (.bool r)) []:=
 FX_of (q:=((.dat 4 (.bool r)),[])) (E:=env) (m:=m+1) (dec:=d5) jn_ok (hct _) mixed Tryz.func46 rfl (Nat.le_of_ble_eq_true rfl) (fun b hb=>d5_sim hb) ((law03_Same_eq m a0 a1).trans h)
theorem ref36_integer_fx (m:Nat) (hct:∀R,CallOK (R:=R) Tryz.prog (ct m)) (a0:Int) {r:Dt} (h:ref36_integer (m+1) a0=some r):FX Tryz.prog 51 [(.dat 3 (.int a0))] [] (.dat 33 r) []:=
 FX_of (q:=((.dat 33 r),[])) (E:=env) (m:=m+1) (dec:=d14) jn_ok (hct _) mixed Tryz.func51 rfl (Nat.le_of_ble_eq_true rfl) (fun b hb=>d14_sim hb) ((ref36_integer_eq m a0).trans h)
theorem ref36_null_fx (m:Nat) (hct:∀R,CallOK (R:=R) Tryz.prog (ct m)) {r:Dt} (h:ref36_null (m+1)=some r):FX Tryz.prog 53 [] [] (.dat 33 r) []:=
 FX_of (q:=((.dat 33 r),[])) (E:=env) (m:=m+1) (dec:=d14) jn_ok (hct _) mixed Tryz.func53 rfl (Nat.le_of_ble_eq_true rfl) (fun b hb=>d14_sim hb) ((ref36_null_eq m).trans h)
theorem ref01_Name_fx (m:Nat) (hct:∀R,CallOK (R:=R) Tryz.prog (ct m)) (a0:ByteArray) {r:Bool} (h:ref01_Name (m+1) a0=some r):FX Tryz.prog 42 [(.dat 9 (.str a0))] [] (.dat 4 (.bool r)) []:=
 FX_of (q:=((.dat 4 (.bool r)),[])) (E:=env) (m:=m+1) (dec:=d5) jn_ok (hct _) mixed Tryz.func42 rfl (Nat.le_of_ble_eq_true rfl) (fun b hb=>d5_sim hb) ((ref01_Name_eq m a0).trans h)
theorem ref04_Valid_fx (m:Nat) (hct:∀R,CallOK (R:=R) Tryz.prog (ct m)) (a0:List Dt) {r:Bool} (h:ref04_Valid (m+1) a0=some r):FX Tryz.prog 11 [(.dat 22 (.lst a0))] [] (.dat 4 (.bool r)) []:=
 FX_of (q:=((.dat 4 (.bool r)),[])) (E:=env) (m:=m+1) (dec:=d5) jn_ok (hct _) mixed Tryz.func11 rfl (Nat.le_of_ble_eq_true rfl) (fun b hb=>d5_sim hb) ((ref04_Valid_eq m a0).trans h)
theorem law36_named_fx (m:Nat) (hct:∀R,CallOK (R:=R) Tryz.prog (ct m)) (a0:ByteArray) {r:Bool} (h:law36_named (m+1) a0=some r):FX Tryz.prog 12 [(.dat 9 (.str a0))] [] (.dat 4 (.bool r)) []:=
 FX_of (q:=((.dat 4 (.bool r)),[])) (E:=env) (m:=m+1) (dec:=d5) jn_ok (hct _) mixed Tryz.func12 rfl (Nat.le_of_ble_eq_true rfl) (fun b hb=>d5_sim hb) ((law36_named_eq m a0).trans h)
theorem reshape_integer_fx (m:Nat) (hct:∀R,CallOK (R:=R) Tryz.prog (ct m)) (a0:Int) {r:Dt} (h:reshape_integer (m+1) a0=some r):FX Tryz.prog 62 [(.dat 3 (.int a0))] [] (.dat 33 r) []:=
 FX_of (q:=((.dat 33 r),[])) (E:=env) (m:=m+1) (dec:=d14) jn_ok (hct _) mixed Tryz.func62 rfl (Nat.le_of_ble_eq_true rfl) (fun b hb=>d14_sim hb) ((reshape_integer_eq m a0).trans h)
theorem reshape_copyValue_fx (m:Nat) (hct:∀R,CallOK (R:=R) Tryz.prog (ct m)) (a0:Dt) {r:Dt} (h:reshape_copyValue (m+1) a0=some r):FX Tryz.prog 72 [(.dat 33 a0)] [] (.dat 33 r) []:=
 FX_of (q:=((.dat 33 r),[])) (E:=env) (m:=m+1) (dec:=d14) jn_ok (hct _) mixed Tryz.func72 rfl (Nat.le_of_ble_eq_true rfl) (fun b hb=>d14_sim hb) ((reshape_copyValue_eq m a0).trans h)
theorem ref04_Number_fx (m:Nat) (hct:∀R,CallOK (R:=R) Tryz.prog (ct m)) (a0:ByteArray) {r:Int×Bool} (h:ref04_Number (m+1) a0=some r):FX Tryz.prog 97 [(.dat 9 (.str a0))] [] (.tup [(.dat 3 (.int r.1)),(.dat 4 (.bool r.2))]) []:=
 FX_of (q:=((.tup [(.dat 3 (.int r.1)),(.dat 4 (.bool r.2))]),[])) (E:=env) (m:=m+1) (dec:=d28) jn_ok (hct _) mixed Tryz.func97 rfl (Nat.le_of_ble_eq_true rfl) (fun b hb=>d28_sim hb) ((ref04_Number_eq m a0).trans h)
theorem ref01_Null_fx (m:Nat) (hct:∀R,CallOK (R:=R) Tryz.prog (ct m)) {r:Dt} (h:ref01_Null (m+1)=some r):FX Tryz.prog 101 [] [] (.dat 33 r) []:=
 FX_of (q:=((.dat 33 r),[])) (E:=env) (m:=m+1) (dec:=d14) jn_ok (hct _) mixed Tryz.func101 rfl (Nat.le_of_ble_eq_true rfl) (fun b hb=>d14_sim hb) ((ref01_Null_eq m).trans h)
theorem path_field_fx (m:Nat) (hct:∀R,CallOK (R:=R) Tryz.prog (ct m)) (a0:List Dt) (a1:ByteArray) {r:Int} (h:path_field (m+1) a0 a1=some r):FX Tryz.prog 138 [(.dat 31 (.lst a0)),(.dat 9 (.str a1))] [] (.dat 3 (.int r)) []:=
 FX_of (q:=((.dat 3 (.int r)),[])) (E:=env) (m:=m+1) (dec:=d36) jn_ok (hct _) mixed Tryz.func138 rfl (Nat.le_of_ble_eq_true rfl) (fun b hb=>d36_sim hb) ((path_field_eq m a0 a1).trans h)
theorem path_Number_fx (m:Nat) (hct:∀R,CallOK (R:=R) Tryz.prog (ct m)) (a0:ByteArray) {r:Int×Bool} (h:path_Number (m+1) a0=some r):FX Tryz.prog 139 [(.dat 9 (.str a0))] [] (.tup [(.dat 3 (.int r.1)),(.dat 4 (.bool r.2))]) []:=
 FX_of (q:=((.tup [(.dat 3 (.int r.1)),(.dat 4 (.bool r.2))]),[])) (E:=env) (m:=m+1) (dec:=d28) jn_ok (hct _) mixed Tryz.func139 rfl (Nat.le_of_ble_eq_true rfl) (fun b hb=>d28_sim hb) ((path_Number_eq m a0).trans h)
theorem path_clone_fx (m:Nat) (hct:∀R,CallOK (R:=R) Tryz.prog (ct m)) (a0:Dt) {r:Int×Int×ByteArray×List Dt×List Dt} (h:path_clone (m+1) a0=some r):FX Tryz.prog 140 [(.dat 33 a0)] [] (.agg 33 [(.dat 3 (.int r.1)),(.dat 3 (.int r.2.1)),(.dat 9 (.str r.2.2.1)),(.row 0),(.row 1)]) [(.row 23 r.2.2.2.1),(.row 31 r.2.2.2.2)]:=
 FX_of (q:=((.agg 33 [(.dat 3 (.int r.1)),(.dat 3 (.int r.2.1)),(.dat 9 (.str r.2.2.1)),(.row 0),(.row 1)]),[(.row 23 r.2.2.2.1),(.row 31 r.2.2.2.2)])) (E:=env) (m:=m+1) (dec:=d38) jn_ok (hct _) mixed Tryz.func140 rfl (Nat.le_of_ble_eq_true rfl) (fun b hb=>d38_sim hb) ((path_clone_eq m a0).trans h)
theorem path_Get_fx (m:Nat) (hct:∀R,CallOK (R:=R) Tryz.prog (ct m)) (a0:Dt) (a1:List Dt) {r:Dt} (h:path_Get (m+1) a0 a1=some r):FX Tryz.prog 94 [(.dat 33 a0),(.dat 22 (.lst a1))] [] (.dat 33 r) []:=
 FX_of (q:=((.dat 33 r),[])) (E:=env) (m:=m+1) (dec:=d14) jn_ok (hct _) mixed Tryz.func94 rfl (Nat.le_of_ble_eq_true rfl) (fun b hb=>d14_sim hb) ((path_Get_eq m a0 a1).trans h)
theorem ref01_at_fx (m:Nat) (hct:∀R,CallOK (R:=R) Tryz.prog (ct m)) (a0:Dt) (a1:ByteArray) {r:Int} (h:ref01_at (m+1) a0 a1=some r):FX Tryz.prog 82 [(.dat 33 a0),(.dat 9 (.str a1))] [] (.dat 3 (.int r)) []:=
 FX_of (q:=((.dat 3 (.int r)),[])) (E:=env) (m:=m+1) (dec:=d36) jn_ok (hct _) mixed Tryz.func82 rfl (Nat.le_of_ble_eq_true rfl) (fun b hb=>d36_sim hb) ((ref01_at_eq m a0 a1).trans h)
theorem ref01_Get_fx (m:Nat) (hct:∀R,CallOK (R:=R) Tryz.prog (ct m)) (a0:Dt) (a1:ByteArray) {r:Dt×Bool} (h:ref01_Get (m+1) a0 a1=some r):FX Tryz.prog 31 [(.dat 33 a0),(.dat 9 (.str a1))] [] (.tup [(.dat 33 r.1),(.dat 4 (.bool r.2))]) []:=
 FX_of (q:=((.tup [(.dat 33 r.1),(.dat 4 (.bool r.2))]),[])) (E:=env) (m:=m+1) (dec:=d27) jn_ok (hct _) mixed Tryz.func31 rfl (Nat.le_of_ble_eq_true rfl) (fun b hb=>d27_sim hb) ((ref01_Get_eq m a0 a1).trans h)
theorem ref04_Get_fx (m:Nat) (hct:∀R,CallOK (R:=R) Tryz.prog (ct m)) (a0:Dt) (a1:List Dt) {r:Dt} (h:ref04_Get (m+1) a0 a1=some r):FX Tryz.prog 48 [(.dat 33 a0),(.dat 22 (.lst a1))] [] (.dat 33 r) []:=
 FX_of (q:=((.dat 33 r),[])) (E:=env) (m:=m+1) (dec:=d14) jn_ok (hct _) mixed Tryz.func48 rfl (Nat.le_of_ble_eq_true rfl) (fun b hb=>d14_sim hb) ((ref04_Get_eq m a0 a1).trans h)
theorem ref01_Set_fx (m:Nat) (hct:∀R,CallOK (R:=R) Tryz.prog (ct m)) (a0:Dt) (a1:ByteArray) (a2:Dt) {r:Dt} (h:ref01_Set (m+1) a0 a1 a2=some r):FX Tryz.prog 99 [(.dat 33 a0),(.dat 9 (.str a1)),(.dat 33 a2)] [] (.dat 33 r) []:=
 FX_of (q:=((.dat 33 r),[])) (E:=env) (m:=m+1) (dec:=d14) jn_ok (hct _) mixed Tryz.func99 rfl (Nat.le_of_ble_eq_true rfl) (fun b hb=>d14_sim hb) ((ref01_Set_eq m a0 a1 a2).trans h)
theorem ref36_with_fx (m:Nat) (hct:∀R,CallOK (R:=R) Tryz.prog (ct m)) (a0:Dt) (a1:ByteArray) (a2:Dt) {r:Dt} (h:ref36_with (m+1) a0 a1 a2=some r):FX Tryz.prog 50 [(.dat 33 a0),(.dat 9 (.str a1)),(.dat 33 a2)] [] (.dat 33 r) []:=
 FX_of (q:=((.dat 33 r),[])) (E:=env) (m:=m+1) (dec:=d14) jn_ok (hct _) mixed Tryz.func50 rfl (Nat.le_of_ble_eq_true rfl) (fun b hb=>d14_sim hb) ((ref36_with_eq m a0 a1 a2).trans h)
theorem ref01_Remove_fx (m:Nat) (hct:∀R,CallOK (R:=R) Tryz.prog (ct m)) (a0:Dt) (a1:ByteArray) {r:Dt} (h:ref01_Remove (m+1) a0 a1=some r):FX Tryz.prog 100 [(.dat 33 a0),(.dat 9 (.str a1))] [] (.dat 33 r) []:=
 FX_of (q:=((.dat 33 r),[])) (E:=env) (m:=m+1) (dec:=d14) jn_ok (hct _) mixed Tryz.func100 rfl (Nat.le_of_ble_eq_true rfl) (fun b hb=>d14_sim hb) ((ref01_Remove_eq m a0 a1).trans h)
theorem ref04_Drop_fx (m:Nat) (hct:∀R,CallOK (R:=R) Tryz.prog (ct m)) (a0:Dt) (a1:List Dt) {r:Dt} (h:ref04_Drop (m+1) a0 a1=some r):FX Tryz.prog 52 [(.dat 33 a0),(.dat 22 (.lst a1))] [] (.dat 33 r) []:=
 FX_of (q:=((.dat 33 r),[])) (E:=env) (m:=m+1) (dec:=d14) jn_ok (hct _) mixed Tryz.func52 rfl (Nat.le_of_ble_eq_true rfl) (fun b hb=>d14_sim hb) ((ref04_Drop_eq m a0 a1).trans h)
theorem ref04_fresh_fx (m:Nat) (hct:∀R,CallOK (R:=R) Tryz.prog (ct m)) (a0:List Dt) (a1:Dt) {r:Dt} (h:ref04_fresh (m+1) a0 a1=some r):FX Tryz.prog 144 [(.dat 22 (.lst a0)),(.dat 33 a1)] [] (.dat 33 r) []:=
 FX_of (q:=((.dat 33 r),[])) (E:=env) (m:=m+1) (dec:=d14) jn_ok (hct _) mixed Tryz.func144 rfl (Nat.le_of_ble_eq_true rfl) (fun b hb=>d14_sim hb) ((ref04_fresh_eq m a0 a1).trans h)
theorem ref04_put_fx (m:Nat) (hct:∀R,CallOK (R:=R) Tryz.prog (ct m)) (a0:Dt) (a1:List Dt) (a2:Dt) {r:Dt×Bool} (h:ref04_put (m+1) a0 a1 a2=some r):FX Tryz.prog 98 [(.dat 33 a0),(.dat 22 (.lst a1)),(.dat 33 a2)] [] (.tup [(.dat 33 r.1),(.dat 4 (.bool r.2))]) []:=
 FX_of (q:=((.tup [(.dat 33 r.1),(.dat 4 (.bool r.2))]),[])) (E:=env) (m:=m+1) (dec:=d27) jn_ok (hct _) mixed Tryz.func98 rfl (Nat.le_of_ble_eq_true rfl) (fun b hb=>d27_sim hb) ((ref04_put_eq m a0 a1 a2).trans h)
theorem ref04_Put_fx (m:Nat) (hct:∀R,CallOK (R:=R) Tryz.prog (ct m)) (a0:Dt) (a1:List Dt) (a2:Dt) {r:Dt×Int} (h:ref04_Put (m+1) a0 a1 a2=some r):FX Tryz.prog 49 [(.dat 33 a0),(.dat 22 (.lst a1)),(.dat 33 a2)] [] (.tup [(.dat 33 r.1),(.dat 37 (.int r.2))]) []:=
 FX_of (q:=((.tup [(.dat 33 r.1),(.dat 37 (.int r.2))]),[])) (E:=env) (m:=m+1) (dec:=d13) jn_ok (hct _) mixed Tryz.func49 rfl (Nat.le_of_ble_eq_true rfl) (fun b hb=>d13_sim hb) ((ref04_Put_eq m a0 a1 a2).trans h)
theorem ref36_Unwind_fx (m:Nat) (hct:∀R,CallOK (R:=R) Tryz.prog (ct m)) (a0:List Dt) (a1:ByteArray) (a2:Bool) (a3:List Dt) {r:List Dt} (h:ref36_Unwind (m+1) a0 a1 a2 a3=some r):FX Tryz.prog 16 [(.dat 22 (.lst a0)),(.dat 9 (.str a1)),(.dat 4 (.bool a2)),(.dat 23 (.lst a3))] [] (.dat 23 (.lst r)) []:=
 FX_of (q:=((.dat 23 (.lst r)),[])) (E:=env) (m:=m+1) (dec:=d4) jn_ok (hct _) mixed Tryz.func16 rfl (Nat.le_of_ble_eq_true rfl) (fun b hb=>d4_sim hb) ((ref36_Unwind_eq m a0 a1 a2 a3).trans h)
theorem value_clone_fx (m:Nat) (hct:∀R,CallOK (R:=R) Tryz.prog (ct m)) (a0:Dt) {r:Int×Int×ByteArray×List Dt×List Dt} (h:value_clone (m+1) a0=some r):FX Tryz.prog 170 [(.dat 33 a0)] [] (.agg 33 [(.dat 3 (.int r.1)),(.dat 3 (.int r.2.1)),(.dat 9 (.str r.2.2.1)),(.row 0),(.row 1)]) [(.row 23 r.2.2.2.1),(.row 31 r.2.2.2.2)]:=
 FX_of (q:=((.agg 33 [(.dat 3 (.int r.1)),(.dat 3 (.int r.2.1)),(.dat 9 (.str r.2.2.1)),(.row 0),(.row 1)]),[(.row 23 r.2.2.2.1),(.row 31 r.2.2.2.2)])) (E:=env) (m:=m+1) (dec:=d38) jn_ok (hct _) mixed Tryz.func170 rfl (Nat.le_of_ble_eq_true rfl) (fun b hb=>d38_sim hb) ((value_clone_eq m a0).trans h)
theorem value_find_fx (m:Nat) (hct:∀R,CallOK (R:=R) Tryz.prog (ct m)) (a0:Dt) (a1:ByteArray) {r:Int} (h:value_find (m+1) a0 a1=some r):FX Tryz.prog 171 [(.dat 33 a0),(.dat 9 (.str a1))] [] (.dat 3 (.int r)) []:=
 FX_of (q:=((.dat 3 (.int r)),[])) (E:=env) (m:=m+1) (dec:=d36) jn_ok (hct _) mixed Tryz.func171 rfl (Nat.le_of_ble_eq_true rfl) (fun b hb=>d36_sim hb) ((value_find_eq m a0 a1).trans h)
theorem value_Set_fx (m:Nat) (hct:∀R,CallOK (R:=R) Tryz.prog (ct m)) (a0:Dt) (a1:ByteArray) (a2:Dt) {r:Dt} (h:value_Set (m+1) a0 a1 a2=some r):FX Tryz.prog 123 [(.dat 33 a0),(.dat 9 (.str a1)),(.dat 33 a2)] [] (.dat 33 r) []:=
 FX_of (q:=((.dat 33 r),[])) (E:=env) (m:=m+1) (dec:=d14) jn_ok (hct _) mixed Tryz.func123 rfl (Nat.le_of_ble_eq_true rfl) (fun b hb=>d14_sim hb) ((value_Set_eq m a0 a1 a2).trans h)
theorem reshape_named_fx (m:Nat) (hct:∀R,CallOK (R:=R) Tryz.prog (ct m)) (a0:Dt) (a1:ByteArray) (a2:Dt) {r:Dt} (h:reshape_named (m+1) a0 a1 a2=some r):FX Tryz.prog 77 [(.dat 33 a0),(.dat 9 (.str a1)),(.dat 33 a2)] [] (.dat 33 r) []:=
 FX_of (q:=((.dat 33 r),[])) (E:=env) (m:=m+1) (dec:=d14) jn_ok (hct _) mixed Tryz.func77 rfl (Nat.le_of_ble_eq_true rfl) (fun b hb=>d14_sim hb) ((reshape_named_eq m a0 a1 a2).trans h)
theorem reshape_unwind_fx (m:Nat) (hct:∀R,CallOK (R:=R) Tryz.prog (ct m)) (a0:List Dt) (a1:ByteArray) (a2:Bool) (a3:Dt) {r:List Dt} (h:reshape_unwind (m+1) a0 a1 a2 a3=some r):FX Tryz.prog 47 [(.dat 22 (.lst a0)),(.dat 9 (.str a1)),(.dat 4 (.bool a2)),(.dat 33 a3)] [] (.dat 23 (.lst r)) []:=
 FX_of (q:=((.dat 23 (.lst r)),[])) (E:=env) (m:=m+1) (dec:=d4) jn_ok (hct _) mixed Tryz.func47 rfl (Nat.le_of_ble_eq_true rfl) (fun b hb=>d4_sim hb) ((reshape_unwind_eq m a0 a1 a2 a3).trans h)
theorem reshape_Unwind_fx (m:Nat) (hct:∀R,CallOK (R:=R) Tryz.prog (ct m)) (a0:List Dt) (a1:ByteArray) (a2:Bool) (a3:List Dt) {r:List Dt} (h:reshape_Unwind (m+1) a0 a1 a2 a3=some r):FX Tryz.prog 15 [(.dat 22 (.lst a0)),(.dat 9 (.str a1)),(.dat 4 (.bool a2)),(.dat 23 (.lst a3))] [] (.dat 23 (.lst r)) []:=
 FX_of (q:=((.dat 23 (.lst r)),[])) (E:=env) (m:=m+1) (dec:=d4) jn_ok (hct _) mixed Tryz.func15 rfl (Nat.le_of_ble_eq_true rfl) (fun b hb=>d4_sim hb) ((reshape_Unwind_eq m a0 a1 a2 a3).trans h)
theorem ref01_Parts_fx (m:Nat) (hct:∀R,CallOK (R:=R) Tryz.prog (ct m)) (a0:Dt) {r:List Dt} (h:ref01_Parts (m+1) a0=some r):FX Tryz.prog 160 [(.dat 33 a0)] [] (.dat 23 (.lst r)) []:=
 FX_of (q:=((.dat 23 (.lst r)),[])) (E:=env) (m:=m+1) (dec:=d4) jn_ok (hct _) mixed Tryz.func160 rfl (Nat.le_of_ble_eq_true rfl) (fun b hb=>d4_sim hb) ((ref01_Parts_eq m a0).trans h)
theorem ref01_levels_fx (m:Nat) (hct:∀R,CallOK (R:=R) Tryz.prog (ct m)) (a0:Dt) (a1:Int) {r:Int} (h:ref01_levels (m+1) a0 a1=some r):FX Tryz.prog 112 [(.dat 33 a0),(.dat 3 (.int a1))] [] (.dat 3 (.int r)) []:=
 FX_of (q:=((.dat 3 (.int r)),[])) (E:=env) (m:=m+1) (dec:=d36) jn_ok (hct _) mixed Tryz.func112 rfl (Nat.le_of_ble_eq_true rfl) (fun b hb=>d36_sim hb) ((ref01_levels_eq m a0 a1).trans h)
theorem ref01_Depth_fx (m:Nat) (hct:∀R,CallOK (R:=R) Tryz.prog (ct m)) (a0:Dt) {r:Int} (h:ref01_Depth (m+1) a0=some r):FX Tryz.prog 68 [(.dat 33 a0)] [] (.dat 3 (.int r)) []:=
 FX_of (q:=((.dat 3 (.int r)),[])) (E:=env) (m:=m+1) (dec:=d36) jn_ok (hct _) mixed Tryz.func68 rfl (Nat.le_of_ble_eq_true rfl) (fun b hb=>d36_sim hb) ((ref01_Depth_eq m a0).trans h)
theorem ref01_count_fx (m:Nat) (hct:∀R,CallOK (R:=R) Tryz.prog (ct m)) (a0:Dt) (a1:Int) {r:Int} (h:ref01_count (m+1) a0 a1=some r):FX Tryz.prog 113 [(.dat 33 a0),(.dat 3 (.int a1))] [] (.dat 3 (.int r)) []:=
 FX_of (q:=((.dat 3 (.int r)),[])) (E:=env) (m:=m+1) (dec:=d36) jn_ok (hct _) mixed Tryz.func113 rfl (Nat.le_of_ble_eq_true rfl) (fun b hb=>d36_sim hb) ((ref01_count_eq m a0 a1).trans h)
theorem ref01_Nodes_fx (m:Nat) (hct:∀R,CallOK (R:=R) Tryz.prog (ct m)) (a0:Dt) {r:Int} (h:ref01_Nodes (m+1) a0=some r):FX Tryz.prog 69 [(.dat 33 a0)] [] (.dat 3 (.int r)) []:=
 FX_of (q:=((.dat 3 (.int r)),[])) (E:=env) (m:=m+1) (dec:=d36) jn_ok (hct _) mixed Tryz.func69 rfl (Nat.le_of_ble_eq_true rfl) (fun b hb=>d36_sim hb) ((ref01_Nodes_eq m a0).trans h)
theorem ref01_tail_fx (m:Nat) (hct:∀R,CallOK (R:=R) Tryz.prog (ct m)) (a0:ByteArray) (a1 a2:Int) {r:Bool} (h:ref01_tail (m+1) a0 a1 a2=some r):FX Tryz.prog 161 [(.dat 9 (.str a0)),(.dat 3 (.int a1)),(.dat 3 (.int a2))] [] (.dat 4 (.bool r)) []:=
 FX_of (q:=((.dat 4 (.bool r)),[])) (E:=env) (m:=m+1) (dec:=d5) jn_ok (hct _) mixed Tryz.func161 rfl (Nat.le_of_ble_eq_true rfl) (fun b hb=>d5_sim hb) ((ref01_tail_eq m a0 a1 a2).trans h)
theorem ref01_UTF8_fx (m:Nat) (hct:∀R,CallOK (R:=R) Tryz.prog (ct m)) (a0:ByteArray) {r:Bool} (h:ref01_UTF8 (m+1) a0=some r):FX Tryz.prog 114 [(.dat 9 (.str a0))] [] (.dat 4 (.bool r)) []:=
 FX_of (q:=((.dat 4 (.bool r)),[])) (E:=env) (m:=m+1) (dec:=d5) jn_ok (hct _) mixed Tryz.func114 rfl (Nat.le_of_ble_eq_true rfl) (fun b hb=>d5_sim hb) ((ref01_UTF8_eq m a0).trans h)
theorem ref01_wide_fx (m:Nat) (hct:∀R,CallOK (R:=R) Tryz.prog (ct m)) (a0:ByteArray) {r:Bool} (h:ref01_wide (m+1) a0=some r):FX Tryz.prog 162 [(.dat 9 (.str a0))] [] (.dat 4 (.bool r)) []:=
 FX_of (q:=((.dat 4 (.bool r)),[])) (E:=env) (m:=m+1) (dec:=d5) jn_ok (hct _) mixed Tryz.func162 rfl (Nat.le_of_ble_eq_true rfl) (fun b hb=>d5_sim hb) ((ref01_wide_eq m a0).trans h)
theorem ref01_formed_fx (m:Nat) (hct:∀R,CallOK (R:=R) Tryz.prog (ct m)) (a0:Dt) (a1:Bool) {r:Bool} (h:ref01_formed (m+1) a0 a1=some r):FX Tryz.prog 70 [(.dat 33 a0),(.dat 4 (.bool a1))] [] (.dat 4 (.bool r)) []:=
 FX_of (q:=((.dat 4 (.bool r)),[])) (E:=env) (m:=m+1) (dec:=d5) jn_ok (hct _) mixed Tryz.func70 rfl (Nat.le_of_ble_eq_true rfl) (fun b hb=>d5_sim hb) ((ref01_formed_eq m a0 a1).trans h)
theorem ref01_fields_fx (m:Nat) (hct:∀R,CallOK (R:=R) Tryz.prog (ct m)) (a0:Dt) (a1:Bool) {r:Bool} (h:ref01_fields (m+1) a0 a1=some r):FX Tryz.prog 115 [(.dat 33 a0),(.dat 4 (.bool a1))] [] (.dat 4 (.bool r)) []:=
 FX_of (q:=((.dat 4 (.bool r)),[])) (E:=env) (m:=m+1) (dec:=d5) jn_ok (hct _) mixed Tryz.func115 rfl (Nat.le_of_ble_eq_true rfl) (fun b hb=>d5_sim hb) ((ref01_fields_eq m a0 a1).trans h)
theorem ref01_Valid_fx (m:Nat) (hct:∀R,CallOK (R:=R) Tryz.prog (ct m)) (a0:Dt) {r:Bool} (h:ref01_Valid (m+1) a0=some r):FX Tryz.prog 24 [(.dat 33 a0)] [] (.dat 4 (.bool r)) []:=
 FX_of (q:=((.dat 4 (.bool r)),[])) (E:=env) (m:=m+1) (dec:=d5) jn_ok (hct _) mixed Tryz.func24 rfl (Nat.le_of_ble_eq_true rfl) (fun b hb=>d5_sim hb) ((ref01_Valid_eq m a0).trans h)
theorem law36_valid_1_fx (m:Nat) (hct:∀R,CallOK (R:=R) Tryz.prog (ct m)) (a0:Dt) {r:Bool} (h:law36_valid_1 (m+1) a0=some r):FX Tryz.prog 41 [(.dat 33 a0)] [] (.dat 4 (.bool r)) []:=
 FX_of (q:=((.dat 4 (.bool r)),[])) (E:=env) (m:=m+1) (dec:=d5) jn_ok (hct _) mixed Tryz.func41 rfl (Nat.le_of_ble_eq_true rfl) (fun b hb=>d5_sim hb) ((law36_valid_1_eq m a0).trans h)
theorem i9_fx (m:Nat) (hct:∀R,CallOK (R:=R) Tryz.prog (ct m)) (a0:List Dt) {r:Int} (h:i9 (m+1) a0=some r):FX Tryz.prog 67 [(.dat 23 (.lst a0)),(.fn 41 [])] [] (.dat 3 (.int r)) []:=
 FX_of (q:=((.dat 3 (.int r)),[])) (E:=env) (m:=m+1) (dec:=d36) jn_ok (hct _) mixed Tryz.func67 rfl (Nat.le_of_ble_eq_true rfl) (fun b hb=>d36_sim hb) ((i9_eq m a0).trans h)
theorem i8_fx (m:Nat) (hct:∀R,CallOK (R:=R) Tryz.prog (ct m)) (a0:List Dt) {r:Bool} (h:i8 (m+1) a0=some r):FX Tryz.prog 22 [(.dat 23 (.lst a0)),(.fn 41 [])] [] (.dat 4 (.bool r)) []:=
 FX_of (q:=((.dat 4 (.bool r)),[])) (E:=env) (m:=m+1) (dec:=d5) jn_ok (hct _) mixed Tryz.func22 rfl (Nat.le_of_ble_eq_true rfl) (fun b hb=>d5_sim hb) ((i8_eq m a0).trans h)
theorem law36_valid_fx (m:Nat) (hct:∀R,CallOK (R:=R) Tryz.prog (ct m)) (a0:List Dt) {r:Bool} (h:law36_valid (m+1) a0=some r):FX Tryz.prog 10 [(.dat 23 (.lst a0))] [] (.dat 4 (.bool r)) []:=
 FX_of (q:=((.dat 4 (.bool r)),[])) (E:=env) (m:=m+1) (dec:=d5) jn_ok (hct _) mixed Tryz.func10 rfl (Nat.le_of_ble_eq_true rfl) (fun b hb=>d5_sim hb) ((law36_valid_eq m a0).trans h)
theorem law36_ReshapeUnwind_fx (m:Nat) (hct:∀R,CallOK (R:=R) Tryz.prog (ct m)) (a0:List Dt) (a1:ByteArray) (a2:Bool) (a3:List Dt) {r:Bool} (h:law36_ReshapeUnwind (m+1) a0 a1 a2 a3=some r):FX Tryz.prog 3 [(.dat 22 (.lst a0)),(.dat 9 (.str a1)),(.dat 4 (.bool a2)),(.dat 23 (.lst a3))] [] (.dat 4 (.bool r)) []:=
 FX_of (q:=((.dat 4 (.bool r)),[])) (E:=env) (m:=m+1) (dec:=d5) jn_ok (hct _) mixed Tryz.func3 rfl (Nat.le_of_ble_eq_true rfl) (fun b hb=>d5_sim hb) ((law36_ReshapeUnwind_eq m a0 a1 a2 a3).trans h)
theorem ct3_ok (m:Nat) (hct:∀k,k<m→∀R,CallOK (R:=R) Tryz.prog (ct k)) {R:Type} {args:List AV} {objs:List Ob} {K:Res→Option R} {r:R} (h:ct3 m args objs K=some r):∃q:Res,K q=some r∧FX Tryz.prog 3 args objs q.1 q.2∧HasBody Tryz.prog 3:=by
 unfold ct3 at h
 split at h
 ·rename_i l hl
  obtain⟨x,hx,hk⟩:=Option.bind_eq_some_iff.1 h
  obtain⟨h1,h2⟩:=sel0_ok hl
  cases m with
  |zero=>cases hx
  |succ m=>exact⟨_,hk,(law36_ReshapeUnwind_fx m (hct m (Nat.lt_succ_self m)) _ _ _ _ hx).conv h1 h2,⟨_,Tryz.func3,rfl,by decide⟩⟩
 cases h
theorem ct10_ok (m:Nat) (hct:∀k,k<m→∀R,CallOK (R:=R) Tryz.prog (ct k)) {R:Type} {args:List AV} {objs:List Ob} {K:Res→Option R} {r:R} (h:ct10 m args objs K=some r):∃q:Res,K q=some r∧FX Tryz.prog 10 args objs q.1 q.2∧HasBody Tryz.prog 10:=by
 unfold ct10 at h
 split at h
 ·rename_i l hl
  obtain⟨x,hx,hk⟩:=Option.bind_eq_some_iff.1 h
  obtain⟨h1,h2⟩:=sel1_ok hl
  cases m with
  |zero=>cases hx
  |succ m=>exact⟨_,hk,(law36_valid_fx m (hct m (Nat.lt_succ_self m)) _ hx).conv h1 h2,⟨_,Tryz.func10,rfl,by decide⟩⟩
 cases h
theorem ct13_ok (m:Nat) (hct:∀k,k<m→∀R,CallOK (R:=R) Tryz.prog (ct k)) {R:Type} {args:List AV} {objs:List Ob} {K:Res→Option R} {r:R} (h:ct13 m args objs K=some r):∃q:Res,K q=some r∧FX Tryz.prog 13 args objs q.1 q.2∧HasBody Tryz.prog 13:=by
 unfold ct13 at h
 split at h
 ·rename_i l hl
  obtain⟨x,hx,hk⟩:=Option.bind_eq_some_iff.1 h
  obtain⟨h1,h2⟩:=sel2_ok hl
  exact⟨_,hk,(awakeC_fx hx).conv h1 h2,⟨_,Tryz.func13,rfl,by decide⟩⟩
 cases h
theorem ct15_ok (m:Nat) (hct:∀k,k<m→∀R,CallOK (R:=R) Tryz.prog (ct k)) {R:Type} {args:List AV} {objs:List Ob} {K:Res→Option R} {r:R} (h:ct15 m args objs K=some r):∃q:Res,K q=some r∧FX Tryz.prog 15 args objs q.1 q.2∧HasBody Tryz.prog 15:=by
 unfold ct15 at h
 split at h
 ·rename_i l hl
  obtain⟨x,hx,hk⟩:=Option.bind_eq_some_iff.1 h
  obtain⟨h1,h2⟩:=sel0_ok hl
  cases m with
  |zero=>cases hx
  |succ m=>exact⟨_,hk,(reshape_Unwind_fx m (hct m (Nat.lt_succ_self m)) _ _ _ _ hx).conv h1 h2,⟨_,Tryz.func15,rfl,by decide⟩⟩
 cases h
theorem ct16_ok (m:Nat) (hct:∀k,k<m→∀R,CallOK (R:=R) Tryz.prog (ct k)) {R:Type} {args:List AV} {objs:List Ob} {K:Res→Option R} {r:R} (h:ct16 m args objs K=some r):∃q:Res,K q=some r∧FX Tryz.prog 16 args objs q.1 q.2∧HasBody Tryz.prog 16:=by
 unfold ct16 at h
 split at h
 ·rename_i l hl
  obtain⟨x,hx,hk⟩:=Option.bind_eq_some_iff.1 h
  obtain⟨h1,h2⟩:=sel0_ok hl
  cases m with
  |zero=>cases hx
  |succ m=>exact⟨_,hk,(ref36_Unwind_fx m (hct m (Nat.lt_succ_self m)) _ _ _ _ hx).conv h1 h2,⟨_,Tryz.func16,rfl,by decide⟩⟩
 cases h
theorem ct14_ok (m:Nat) (hct:∀k,k<m→∀R,CallOK (R:=R) Tryz.prog (ct k)) {R:Type} {args:List AV} {objs:List Ob} {K:Res→Option R} {r:R} (h:ct14 m args objs K=some r):∃q:Res,K q=some r∧FX Tryz.prog 14 args objs q.1 q.2∧HasBody Tryz.prog 14:=by
 unfold ct14 at h
 split at h
 ·rename_i l hl
  obtain⟨x,hx,hk⟩:=Option.bind_eq_some_iff.1 h
  obtain⟨h1,h2⟩:=sel5_ok hl
  cases m with
  |zero=>cases hx
  |succ m=>exact⟨_,hk,(law03_SameList_fx m (hct m (Nat.lt_succ_self m)) _ _ hx).conv h1 h2,⟨_,Tryz.func14,rfl,by decide⟩⟩
 cases h
theorem ct11_ok (m:Nat) (hct:∀k,k<m→∀R,CallOK (R:=R) Tryz.prog (ct k)) {R:Type} {args:List AV} {objs:List Ob} {K:Res→Option R} {r:R} (h:ct11 m args objs K=some r):∃q:Res,K q=some r∧FX Tryz.prog 11 args objs q.1 q.2∧HasBody Tryz.prog 11:=by
 unfold ct11 at h
 split at h
 ·rename_i l hl
  obtain⟨x,hx,hk⟩:=Option.bind_eq_some_iff.1 h
  obtain⟨h1,h2⟩:=sel6_ok hl
  cases m with
  |zero=>cases hx
  |succ m=>exact⟨_,hk,(ref04_Valid_fx m (hct m (Nat.lt_succ_self m)) _ hx).conv h1 h2,⟨_,Tryz.func11,rfl,by decide⟩⟩
 cases h
theorem ct12_ok (m:Nat) (hct:∀k,k<m→∀R,CallOK (R:=R) Tryz.prog (ct k)) {R:Type} {args:List AV} {objs:List Ob} {K:Res→Option R} {r:R} (h:ct12 m args objs K=some r):∃q:Res,K q=some r∧FX Tryz.prog 12 args objs q.1 q.2∧HasBody Tryz.prog 12:=by
 unfold ct12 at h
 split at h
 ·rename_i l hl
  obtain⟨x,hx,hk⟩:=Option.bind_eq_some_iff.1 h
  obtain⟨h1,h2⟩:=sel7_ok hl
  cases m with
  |zero=>cases hx
  |succ m=>exact⟨_,hk,(law36_named_fx m (hct m (Nat.lt_succ_self m)) _ hx).conv h1 h2,⟨_,Tryz.func12,rfl,by decide⟩⟩
 cases h
theorem ct22_ok (m:Nat) (hct:∀k,k<m→∀R,CallOK (R:=R) Tryz.prog (ct k)) {R:Type} {args:List AV} {objs:List Ob} {K:Res→Option R} {r:R} (h:ct22 m args objs K=some r):∃q:Res,K q=some r∧FX Tryz.prog 22 args objs q.1 q.2∧HasBody Tryz.prog 22:=by
 unfold ct22 at h
 split at h
 ·rename_i l hl
  obtain⟨x,hx,hk⟩:=Option.bind_eq_some_iff.1 h
  obtain⟨h1,h2⟩:=sel8_ok hl
  cases m with
  |zero=>cases hx
  |succ m=>exact⟨_,hk,(i8_fx m (hct m (Nat.lt_succ_self m)) _ hx).conv h1 h2,⟨_,Tryz.func22,rfl,by decide⟩⟩
 cases h
theorem ct67_ok (m:Nat) (hct:∀k,k<m→∀R,CallOK (R:=R) Tryz.prog (ct k)) {R:Type} {args:List AV} {objs:List Ob} {K:Res→Option R} {r:R} (h:ct67 m args objs K=some r):∃q:Res,K q=some r∧FX Tryz.prog 67 args objs q.1 q.2∧HasBody Tryz.prog 67:=by
 unfold ct67 at h
 split at h
 ·rename_i l hl
  obtain⟨x,hx,hk⟩:=Option.bind_eq_some_iff.1 h
  obtain⟨h1,h2⟩:=sel8_ok hl
  cases m with
  |zero=>cases hx
  |succ m=>exact⟨_,hk,(i9_fx m (hct m (Nat.lt_succ_self m)) _ hx).conv h1 h2,⟨_,Tryz.func67,rfl,by decide⟩⟩
 cases h
theorem ct41_ok (m:Nat) (hct:∀k,k<m→∀R,CallOK (R:=R) Tryz.prog (ct k)) {R:Type} {args:List AV} {objs:List Ob} {K:Res→Option R} {r:R} (h:ct41 m args objs K=some r):∃q:Res,K q=some r∧FX Tryz.prog 41 args objs q.1 q.2∧HasBody Tryz.prog 41:=by
 unfold ct41 at h
 split at h
 ·rename_i l hl
  obtain⟨x,hx,hk⟩:=Option.bind_eq_some_iff.1 h
  obtain⟨h1,h2⟩:=sel10_ok hl
  cases m with
  |zero=>cases hx
  |succ m=>exact⟨_,hk,(law36_valid_1_fx m (hct m (Nat.lt_succ_self m)) _ hx).conv h1 h2,⟨_,Tryz.func41,rfl,by decide⟩⟩
 cases h
theorem ct47_ok (m:Nat) (hct:∀k,k<m→∀R,CallOK (R:=R) Tryz.prog (ct k)) {R:Type} {args:List AV} {objs:List Ob} {K:Res→Option R} {r:R} (h:ct47 m args objs K=some r):∃q:Res,K q=some r∧FX Tryz.prog 47 args objs q.1 q.2∧HasBody Tryz.prog 47:=by
 unfold ct47 at h
 split at h
 ·rename_i l hl
  obtain⟨x,hx,hk⟩:=Option.bind_eq_some_iff.1 h
  obtain⟨h1,h2⟩:=sel11_ok hl
  cases m with
  |zero=>cases hx
  |succ m=>exact⟨_,hk,(reshape_unwind_fx m (hct m (Nat.lt_succ_self m)) _ _ _ _ hx).conv h1 h2,⟨_,Tryz.func47,rfl,by decide⟩⟩
 cases h
theorem ct48_ok (m:Nat) (hct:∀k,k<m→∀R,CallOK (R:=R) Tryz.prog (ct k)) {R:Type} {args:List AV} {objs:List Ob} {K:Res→Option R} {r:R} (h:ct48 m args objs K=some r):∃q:Res,K q=some r∧FX Tryz.prog 48 args objs q.1 q.2∧HasBody Tryz.prog 48:=by
 unfold ct48 at h
 split at h
 ·rename_i l hl
  obtain⟨x,hx,hk⟩:=Option.bind_eq_some_iff.1 h
  obtain⟨h1,h2⟩:=sel12_ok hl
  cases m with
  |zero=>cases hx
  |succ m=>exact⟨_,hk,(ref04_Get_fx m (hct m (Nat.lt_succ_self m)) _ _ hx).conv h1 h2,⟨_,Tryz.func48,rfl,by decide⟩⟩
 cases h
theorem ct49_ok (m:Nat) (hct:∀k,k<m→∀R,CallOK (R:=R) Tryz.prog (ct k)) {R:Type} {args:List AV} {objs:List Ob} {K:Res→Option R} {r:R} (h:ct49 m args objs K=some r):∃q:Res,K q=some r∧FX Tryz.prog 49 args objs q.1 q.2∧HasBody Tryz.prog 49:=by
 unfold ct49 at h
 split at h
 ·rename_i l hl
  obtain⟨x,hx,hk⟩:=Option.bind_eq_some_iff.1 h
  obtain⟨h1,h2⟩:=sel13_ok hl
  cases m with
  |zero=>cases hx
  |succ m=>exact⟨_,hk,(ref04_Put_fx m (hct m (Nat.lt_succ_self m)) _ _ _ hx).conv h1 h2,⟨_,Tryz.func49,rfl,by decide⟩⟩
 cases h
theorem ct51_ok (m:Nat) (hct:∀k,k<m→∀R,CallOK (R:=R) Tryz.prog (ct k)) {R:Type} {args:List AV} {objs:List Ob} {K:Res→Option R} {r:R} (h:ct51 m args objs K=some r):∃q:Res,K q=some r∧FX Tryz.prog 51 args objs q.1 q.2∧HasBody Tryz.prog 51:=by
 unfold ct51 at h
 split at h
 ·rename_i l hl
  obtain⟨x,hx,hk⟩:=Option.bind_eq_some_iff.1 h
  obtain⟨h1,h2⟩:=sel14_ok hl
  cases m with
  |zero=>cases hx
  |succ m=>exact⟨_,hk,(ref36_integer_fx m (hct m (Nat.lt_succ_self m)) _ hx).conv h1 h2,⟨_,Tryz.func51,rfl,by decide⟩⟩
 cases h
theorem ct50_ok (m:Nat) (hct:∀k,k<m→∀R,CallOK (R:=R) Tryz.prog (ct k)) {R:Type} {args:List AV} {objs:List Ob} {K:Res→Option R} {r:R} (h:ct50 m args objs K=some r):∃q:Res,K q=some r∧FX Tryz.prog 50 args objs q.1 q.2∧HasBody Tryz.prog 50:=by
 unfold ct50 at h
 split at h
 ·rename_i l hl
  obtain⟨x,hx,hk⟩:=Option.bind_eq_some_iff.1 h
  obtain⟨h1,h2⟩:=sel15_ok hl
  cases m with
  |zero=>cases hx
  |succ m=>exact⟨_,hk,(ref36_with_fx m (hct m (Nat.lt_succ_self m)) _ _ _ hx).conv h1 h2,⟨_,Tryz.func50,rfl,by decide⟩⟩
 cases h
theorem ct52_ok (m:Nat) (hct:∀k,k<m→∀R,CallOK (R:=R) Tryz.prog (ct k)) {R:Type} {args:List AV} {objs:List Ob} {K:Res→Option R} {r:R} (h:ct52 m args objs K=some r):∃q:Res,K q=some r∧FX Tryz.prog 52 args objs q.1 q.2∧HasBody Tryz.prog 52:=by
 unfold ct52 at h
 split at h
 ·rename_i l hl
  obtain⟨x,hx,hk⟩:=Option.bind_eq_some_iff.1 h
  obtain⟨h1,h2⟩:=sel12_ok hl
  cases m with
  |zero=>cases hx
  |succ m=>exact⟨_,hk,(ref04_Drop_fx m (hct m (Nat.lt_succ_self m)) _ _ hx).conv h1 h2,⟨_,Tryz.func52,rfl,by decide⟩⟩
 cases h
theorem ct53_ok (m:Nat) (hct:∀k,k<m→∀R,CallOK (R:=R) Tryz.prog (ct k)) {R:Type} {args:List AV} {objs:List Ob} {K:Res→Option R} {r:R} (h:ct53 m args objs K=some r):∃q:Res,K q=some r∧FX Tryz.prog 53 args objs q.1 q.2∧HasBody Tryz.prog 53:=by
 unfold ct53 at h
 split at h
 ·rename_i l hl
  obtain⟨x,hx,hk⟩:=Option.bind_eq_some_iff.1 h
  obtain⟨h1,h2⟩:=sel2_ok hl
  cases m with
  |zero=>cases hx
  |succ m=>exact⟨_,hk,(ref36_null_fx m (hct m (Nat.lt_succ_self m)) hx).conv h1 h2,⟨_,Tryz.func53,rfl,by decide⟩⟩
 cases h
theorem ct46_ok (m:Nat) (hct:∀k,k<m→∀R,CallOK (R:=R) Tryz.prog (ct k)) {R:Type} {args:List AV} {objs:List Ob} {K:Res→Option R} {r:R} (h:ct46 m args objs K=some r):∃q:Res,K q=some r∧FX Tryz.prog 46 args objs q.1 q.2∧HasBody Tryz.prog 46:=by
 unfold ct46 at h
 split at h
 ·rename_i l hl
  obtain⟨x,hx,hk⟩:=Option.bind_eq_some_iff.1 h
  obtain⟨h1,h2⟩:=sel18_ok hl
  cases m with
  |zero=>cases hx
  |succ m=>exact⟨_,hk,(law03_Same_fx m (hct m (Nat.lt_succ_self m)) _ _ hx).conv h1 h2,⟨_,Tryz.func46,rfl,by decide⟩⟩
 cases h
theorem ct42_ok (m:Nat) (hct:∀k,k<m→∀R,CallOK (R:=R) Tryz.prog (ct k)) {R:Type} {args:List AV} {objs:List Ob} {K:Res→Option R} {r:R} (h:ct42 m args objs K=some r):∃q:Res,K q=some r∧FX Tryz.prog 42 args objs q.1 q.2∧HasBody Tryz.prog 42:=by
 unfold ct42 at h
 split at h
 ·rename_i l hl
  obtain⟨x,hx,hk⟩:=Option.bind_eq_some_iff.1 h
  obtain⟨h1,h2⟩:=sel7_ok hl
  cases m with
  |zero=>cases hx
  |succ m=>exact⟨_,hk,(ref01_Name_fx m (hct m (Nat.lt_succ_self m)) _ hx).conv h1 h2,⟨_,Tryz.func42,rfl,by decide⟩⟩
 cases h
theorem ct24_ok (m:Nat) (hct:∀k,k<m→∀R,CallOK (R:=R) Tryz.prog (ct k)) {R:Type} {args:List AV} {objs:List Ob} {K:Res→Option R} {r:R} (h:ct24 m args objs K=some r):∃q:Res,K q=some r∧FX Tryz.prog 24 args objs q.1 q.2∧HasBody Tryz.prog 24:=by
 unfold ct24 at h
 split at h
 ·rename_i l hl
  obtain⟨x,hx,hk⟩:=Option.bind_eq_some_iff.1 h
  obtain⟨h1,h2⟩:=sel10_ok hl
  cases m with
  |zero=>cases hx
  |succ m=>exact⟨_,hk,(ref01_Valid_fx m (hct m (Nat.lt_succ_self m)) _ hx).conv h1 h2,⟨_,Tryz.func24,rfl,by decide⟩⟩
 cases h
theorem ct94_ok (m:Nat) (hct:∀k,k<m→∀R,CallOK (R:=R) Tryz.prog (ct k)) {R:Type} {args:List AV} {objs:List Ob} {K:Res→Option R} {r:R} (h:ct94 m args objs K=some r):∃q:Res,K q=some r∧FX Tryz.prog 94 args objs q.1 q.2∧HasBody Tryz.prog 94:=by
 unfold ct94 at h
 split at h
 ·rename_i l hl
  obtain⟨x,hx,hk⟩:=Option.bind_eq_some_iff.1 h
  obtain⟨h1,h2⟩:=sel12_ok hl
  cases m with
  |zero=>cases hx
  |succ m=>exact⟨_,hk,(path_Get_fx m (hct m (Nat.lt_succ_self m)) _ _ hx).conv h1 h2,⟨_,Tryz.func94,rfl,by decide⟩⟩
 cases h
theorem ct95_ok (m:Nat) (hct:∀k,k<m→∀R,CallOK (R:=R) Tryz.prog (ct k)) {R:Type} {args:List AV} {objs:List Ob} {K:Res→Option R} {r:R} (h:ct95 m args objs K=some r):∃q:Res,K q=some r∧FX Tryz.prog 95 args objs q.1 q.2∧HasBody Tryz.prog 95:=by
 unfold ct95 at h
 split at h
 ·rename_i l hl
  obtain⟨x,hx,hk⟩:=Option.bind_eq_some_iff.1 h
  obtain⟨h1,h2⟩:=sel13_ok hl
  exact⟨_,hk,(path_PutC_fx hx).conv h1 h2,⟨_,Tryz.func95,rfl,by decide⟩⟩
 cases h
theorem ct62_ok (m:Nat) (hct:∀k,k<m→∀R,CallOK (R:=R) Tryz.prog (ct k)) {R:Type} {args:List AV} {objs:List Ob} {K:Res→Option R} {r:R} (h:ct62 m args objs K=some r):∃q:Res,K q=some r∧FX Tryz.prog 62 args objs q.1 q.2∧HasBody Tryz.prog 62:=by
 unfold ct62 at h
 split at h
 ·rename_i l hl
  obtain⟨x,hx,hk⟩:=Option.bind_eq_some_iff.1 h
  obtain⟨h1,h2⟩:=sel14_ok hl
  cases m with
  |zero=>cases hx
  |succ m=>exact⟨_,hk,(reshape_integer_fx m (hct m (Nat.lt_succ_self m)) _ hx).conv h1 h2,⟨_,Tryz.func62,rfl,by decide⟩⟩
 cases h
theorem ct77_ok (m:Nat) (hct:∀k,k<m→∀R,CallOK (R:=R) Tryz.prog (ct k)) {R:Type} {args:List AV} {objs:List Ob} {K:Res→Option R} {r:R} (h:ct77 m args objs K=some r):∃q:Res,K q=some r∧FX Tryz.prog 77 args objs q.1 q.2∧HasBody Tryz.prog 77:=by
 unfold ct77 at h
 split at h
 ·rename_i l hl
  obtain⟨x,hx,hk⟩:=Option.bind_eq_some_iff.1 h
  obtain⟨h1,h2⟩:=sel15_ok hl
  cases m with
  |zero=>cases hx
  |succ m=>exact⟨_,hk,(reshape_named_fx m (hct m (Nat.lt_succ_self m)) _ _ _ hx).conv h1 h2,⟨_,Tryz.func77,rfl,by decide⟩⟩
 cases h
theorem ct72_ok (m:Nat) (hct:∀k,k<m→∀R,CallOK (R:=R) Tryz.prog (ct k)) {R:Type} {args:List AV} {objs:List Ob} {K:Res→Option R} {r:R} (h:ct72 m args objs K=some r):∃q:Res,K q=some r∧FX Tryz.prog 72 args objs q.1 q.2∧HasBody Tryz.prog 72:=by
 unfold ct72 at h
 split at h
 ·rename_i l hl
  obtain⟨x,hx,hk⟩:=Option.bind_eq_some_iff.1 h
  obtain⟨h1,h2⟩:=sel10_ok hl
  cases m with
  |zero=>cases hx
  |succ m=>exact⟨_,hk,(reshape_copyValue_fx m (hct m (Nat.lt_succ_self m)) _ hx).conv h1 h2,⟨_,Tryz.func72,rfl,by decide⟩⟩
 cases h
theorem ct96_ok (m:Nat) (hct:∀k,k<m→∀R,CallOK (R:=R) Tryz.prog (ct k)) {R:Type} {args:List AV} {objs:List Ob} {K:Res→Option R} {r:R} (h:ct96 m args objs K=some r):∃q:Res,K q=some r∧FX Tryz.prog 96 args objs q.1 q.2∧HasBody Tryz.prog 96:=by
 unfold ct96 at h
 split at h
 ·rename_i l hl
  obtain⟨x,hx,hk⟩:=Option.bind_eq_some_iff.1 h
  obtain⟨h1,h2⟩:=sel12_ok hl
  exact⟨_,hk,(path_DropC_fx hx).conv h1 h2,⟨_,Tryz.func96,rfl,by decide⟩⟩
 cases h
theorem ct31_ok (m:Nat) (hct:∀k,k<m→∀R,CallOK (R:=R) Tryz.prog (ct k)) {R:Type} {args:List AV} {objs:List Ob} {K:Res→Option R} {r:R} (h:ct31 m args objs K=some r):∃q:Res,K q=some r∧FX Tryz.prog 31 args objs q.1 q.2∧HasBody Tryz.prog 31:=by
 unfold ct31 at h
 split at h
 ·rename_i l hl
  obtain⟨x,hx,hk⟩:=Option.bind_eq_some_iff.1 h
  obtain⟨h1,h2⟩:=sel27_ok hl
  cases m with
  |zero=>cases hx
  |succ m=>exact⟨_,hk,(ref01_Get_fx m (hct m (Nat.lt_succ_self m)) _ _ hx).conv h1 h2,⟨_,Tryz.func31,rfl,by decide⟩⟩
 cases h
theorem ct97_ok (m:Nat) (hct:∀k,k<m→∀R,CallOK (R:=R) Tryz.prog (ct k)) {R:Type} {args:List AV} {objs:List Ob} {K:Res→Option R} {r:R} (h:ct97 m args objs K=some r):∃q:Res,K q=some r∧FX Tryz.prog 97 args objs q.1 q.2∧HasBody Tryz.prog 97:=by
 unfold ct97 at h
 split at h
 ·rename_i l hl
  obtain⟨x,hx,hk⟩:=Option.bind_eq_some_iff.1 h
  obtain⟨h1,h2⟩:=sel7_ok hl
  cases m with
  |zero=>cases hx
  |succ m=>exact⟨_,hk,(ref04_Number_fx m (hct m (Nat.lt_succ_self m)) _ hx).conv h1 h2,⟨_,Tryz.func97,rfl,by decide⟩⟩
 cases h
theorem ct98_ok (m:Nat) (hct:∀k,k<m→∀R,CallOK (R:=R) Tryz.prog (ct k)) {R:Type} {args:List AV} {objs:List Ob} {K:Res→Option R} {r:R} (h:ct98 m args objs K=some r):∃q:Res,K q=some r∧FX Tryz.prog 98 args objs q.1 q.2∧HasBody Tryz.prog 98:=by
 unfold ct98 at h
 split at h
 ·rename_i l hl
  obtain⟨x,hx,hk⟩:=Option.bind_eq_some_iff.1 h
  obtain⟨h1,h2⟩:=sel13_ok hl
  cases m with
  |zero=>cases hx
  |succ m=>exact⟨_,hk,(ref04_put_fx m (hct m (Nat.lt_succ_self m)) _ _ _ hx).conv h1 h2,⟨_,Tryz.func98,rfl,by decide⟩⟩
 cases h
theorem ct99_ok (m:Nat) (hct:∀k,k<m→∀R,CallOK (R:=R) Tryz.prog (ct k)) {R:Type} {args:List AV} {objs:List Ob} {K:Res→Option R} {r:R} (h:ct99 m args objs K=some r):∃q:Res,K q=some r∧FX Tryz.prog 99 args objs q.1 q.2∧HasBody Tryz.prog 99:=by
 unfold ct99 at h
 split at h
 ·rename_i l hl
  obtain⟨x,hx,hk⟩:=Option.bind_eq_some_iff.1 h
  obtain⟨h1,h2⟩:=sel15_ok hl
  cases m with
  |zero=>cases hx
  |succ m=>exact⟨_,hk,(ref01_Set_fx m (hct m (Nat.lt_succ_self m)) _ _ _ hx).conv h1 h2,⟨_,Tryz.func99,rfl,by decide⟩⟩
 cases h
theorem ct100_ok (m:Nat) (hct:∀k,k<m→∀R,CallOK (R:=R) Tryz.prog (ct k)) {R:Type} {args:List AV} {objs:List Ob} {K:Res→Option R} {r:R} (h:ct100 m args objs K=some r):∃q:Res,K q=some r∧FX Tryz.prog 100 args objs q.1 q.2∧HasBody Tryz.prog 100:=by
 unfold ct100 at h
 split at h
 ·rename_i l hl
  obtain⟨x,hx,hk⟩:=Option.bind_eq_some_iff.1 h
  obtain⟨h1,h2⟩:=sel27_ok hl
  cases m with
  |zero=>cases hx
  |succ m=>exact⟨_,hk,(ref01_Remove_fx m (hct m (Nat.lt_succ_self m)) _ _ hx).conv h1 h2,⟨_,Tryz.func100,rfl,by decide⟩⟩
 cases h
theorem ct101_ok (m:Nat) (hct:∀k,k<m→∀R,CallOK (R:=R) Tryz.prog (ct k)) {R:Type} {args:List AV} {objs:List Ob} {K:Res→Option R} {r:R} (h:ct101 m args objs K=some r):∃q:Res,K q=some r∧FX Tryz.prog 101 args objs q.1 q.2∧HasBody Tryz.prog 101:=by
 unfold ct101 at h
 split at h
 ·rename_i l hl
  obtain⟨x,hx,hk⟩:=Option.bind_eq_some_iff.1 h
  obtain⟨h1,h2⟩:=sel2_ok hl
  cases m with
  |zero=>cases hx
  |succ m=>exact⟨_,hk,(ref01_Null_fx m (hct m (Nat.lt_succ_self m)) hx).conv h1 h2,⟨_,Tryz.func101,rfl,by decide⟩⟩
 cases h
theorem ct68_ok (m:Nat) (hct:∀k,k<m→∀R,CallOK (R:=R) Tryz.prog (ct k)) {R:Type} {args:List AV} {objs:List Ob} {K:Res→Option R} {r:R} (h:ct68 m args objs K=some r):∃q:Res,K q=some r∧FX Tryz.prog 68 args objs q.1 q.2∧HasBody Tryz.prog 68:=by
 unfold ct68 at h
 split at h
 ·rename_i l hl
  obtain⟨x,hx,hk⟩:=Option.bind_eq_some_iff.1 h
  obtain⟨h1,h2⟩:=sel10_ok hl
  cases m with
  |zero=>cases hx
  |succ m=>exact⟨_,hk,(ref01_Depth_fx m (hct m (Nat.lt_succ_self m)) _ hx).conv h1 h2,⟨_,Tryz.func68,rfl,by decide⟩⟩
 cases h
theorem ct69_ok (m:Nat) (hct:∀k,k<m→∀R,CallOK (R:=R) Tryz.prog (ct k)) {R:Type} {args:List AV} {objs:List Ob} {K:Res→Option R} {r:R} (h:ct69 m args objs K=some r):∃q:Res,K q=some r∧FX Tryz.prog 69 args objs q.1 q.2∧HasBody Tryz.prog 69:=by
 unfold ct69 at h
 split at h
 ·rename_i l hl
  obtain⟨x,hx,hk⟩:=Option.bind_eq_some_iff.1 h
  obtain⟨h1,h2⟩:=sel10_ok hl
  cases m with
  |zero=>cases hx
  |succ m=>exact⟨_,hk,(ref01_Nodes_fx m (hct m (Nat.lt_succ_self m)) _ hx).conv h1 h2,⟨_,Tryz.func69,rfl,by decide⟩⟩
 cases h
theorem ct70_ok (m:Nat) (hct:∀k,k<m→∀R,CallOK (R:=R) Tryz.prog (ct k)) {R:Type} {args:List AV} {objs:List Ob} {K:Res→Option R} {r:R} (h:ct70 m args objs K=some r):∃q:Res,K q=some r∧FX Tryz.prog 70 args objs q.1 q.2∧HasBody Tryz.prog 70:=by
 unfold ct70 at h
 split at h
 ·rename_i l hl
  obtain⟨x,hx,hk⟩:=Option.bind_eq_some_iff.1 h
  obtain⟨h1,h2⟩:=sel35_ok hl
  cases m with
  |zero=>cases hx
  |succ m=>exact⟨_,hk,(ref01_formed_fx m (hct m (Nat.lt_succ_self m)) _ _ hx).conv h1 h2,⟨_,Tryz.func70,rfl,by decide⟩⟩
 cases h
theorem ct138_ok (m:Nat) (hct:∀k,k<m→∀R,CallOK (R:=R) Tryz.prog (ct k)) {R:Type} {args:List AV} {objs:List Ob} {K:Res→Option R} {r:R} (h:ct138 m args objs K=some r):∃q:Res,K q=some r∧FX Tryz.prog 138 args objs q.1 q.2∧HasBody Tryz.prog 138:=by
 unfold ct138 at h
 split at h
 ·rename_i l hl
  obtain⟨x,hx,hk⟩:=Option.bind_eq_some_iff.1 h
  obtain⟨h1,h2⟩:=sel36_ok hl
  cases m with
  |zero=>cases hx
  |succ m=>exact⟨_,hk,(path_field_fx m (hct m (Nat.lt_succ_self m)) _ _ hx).conv h1 h2,⟨_,Tryz.func138,rfl,by decide⟩⟩
 cases h
theorem ct139_ok (m:Nat) (hct:∀k,k<m→∀R,CallOK (R:=R) Tryz.prog (ct k)) {R:Type} {args:List AV} {objs:List Ob} {K:Res→Option R} {r:R} (h:ct139 m args objs K=some r):∃q:Res,K q=some r∧FX Tryz.prog 139 args objs q.1 q.2∧HasBody Tryz.prog 139:=by
 unfold ct139 at h
 split at h
 ·rename_i l hl
  obtain⟨x,hx,hk⟩:=Option.bind_eq_some_iff.1 h
  obtain⟨h1,h2⟩:=sel7_ok hl
  cases m with
  |zero=>cases hx
  |succ m=>exact⟨_,hk,(path_Number_fx m (hct m (Nat.lt_succ_self m)) _ hx).conv h1 h2,⟨_,Tryz.func139,rfl,by decide⟩⟩
 cases h
theorem ct140_ok (m:Nat) (hct:∀k,k<m→∀R,CallOK (R:=R) Tryz.prog (ct k)) {R:Type} {args:List AV} {objs:List Ob} {K:Res→Option R} {r:R} (h:ct140 m args objs K=some r):∃q:Res,K q=some r∧FX Tryz.prog 140 args objs q.1 q.2∧HasBody Tryz.prog 140:=by
 unfold ct140 at h
 split at h
 ·rename_i l hl
  obtain⟨x,hx,hk⟩:=Option.bind_eq_some_iff.1 h
  obtain⟨h1,h2⟩:=sel10_ok hl
  cases m with
  |zero=>cases hx
  |succ m=>exact⟨_,hk,(path_clone_fx m (hct m (Nat.lt_succ_self m)) _ hx).conv h1 h2,⟨_,Tryz.func140,rfl,by decide⟩⟩
 cases h
theorem ct123_ok (m:Nat) (hct:∀k,k<m→∀R,CallOK (R:=R) Tryz.prog (ct k)) {R:Type} {args:List AV} {objs:List Ob} {K:Res→Option R} {r:R} (h:ct123 m args objs K=some r):∃q:Res,K q=some r∧FX Tryz.prog 123 args objs q.1 q.2∧HasBody Tryz.prog 123:=by
 unfold ct123 at h
 split at h
 ·rename_i l hl
  obtain⟨x,hx,hk⟩:=Option.bind_eq_some_iff.1 h
  obtain⟨h1,h2⟩:=sel15_ok hl
  cases m with
  |zero=>cases hx
  |succ m=>exact⟨_,hk,(value_Set_fx m (hct m (Nat.lt_succ_self m)) _ _ _ hx).conv h1 h2,⟨_,Tryz.func123,rfl,by decide⟩⟩
 cases h
theorem ct82_ok (m:Nat) (hct:∀k,k<m→∀R,CallOK (R:=R) Tryz.prog (ct k)) {R:Type} {args:List AV} {objs:List Ob} {K:Res→Option R} {r:R} (h:ct82 m args objs K=some r):∃q:Res,K q=some r∧FX Tryz.prog 82 args objs q.1 q.2∧HasBody Tryz.prog 82:=by
 unfold ct82 at h
 split at h
 ·rename_i l hl
  obtain⟨x,hx,hk⟩:=Option.bind_eq_some_iff.1 h
  obtain⟨h1,h2⟩:=sel27_ok hl
  cases m with
  |zero=>cases hx
  |succ m=>exact⟨_,hk,(ref01_at_fx m (hct m (Nat.lt_succ_self m)) _ _ hx).conv h1 h2,⟨_,Tryz.func82,rfl,by decide⟩⟩
 cases h
theorem ct144_ok (m:Nat) (hct:∀k,k<m→∀R,CallOK (R:=R) Tryz.prog (ct k)) {R:Type} {args:List AV} {objs:List Ob} {K:Res→Option R} {r:R} (h:ct144 m args objs K=some r):∃q:Res,K q=some r∧FX Tryz.prog 144 args objs q.1 q.2∧HasBody Tryz.prog 144:=by
 unfold ct144 at h
 split at h
 ·rename_i l hl
  obtain⟨x,hx,hk⟩:=Option.bind_eq_some_iff.1 h
  obtain⟨h1,h2⟩:=sel41_ok hl
  cases m with
  |zero=>cases hx
  |succ m=>exact⟨_,hk,(ref04_fresh_fx m (hct m (Nat.lt_succ_self m)) _ _ hx).conv h1 h2,⟨_,Tryz.func144,rfl,by decide⟩⟩
 cases h
theorem ct112_ok (m:Nat) (hct:∀k,k<m→∀R,CallOK (R:=R) Tryz.prog (ct k)) {R:Type} {args:List AV} {objs:List Ob} {K:Res→Option R} {r:R} (h:ct112 m args objs K=some r):∃q:Res,K q=some r∧FX Tryz.prog 112 args objs q.1 q.2∧HasBody Tryz.prog 112:=by
 unfold ct112 at h
 split at h
 ·rename_i l hl
  obtain⟨x,hx,hk⟩:=Option.bind_eq_some_iff.1 h
  obtain⟨h1,h2⟩:=sel42_ok hl
  cases m with
  |zero=>cases hx
  |succ m=>exact⟨_,hk,(ref01_levels_fx m (hct m (Nat.lt_succ_self m)) _ _ hx).conv h1 h2,⟨_,Tryz.func112,rfl,by decide⟩⟩
 cases h
theorem ct113_ok (m:Nat) (hct:∀k,k<m→∀R,CallOK (R:=R) Tryz.prog (ct k)) {R:Type} {args:List AV} {objs:List Ob} {K:Res→Option R} {r:R} (h:ct113 m args objs K=some r):∃q:Res,K q=some r∧FX Tryz.prog 113 args objs q.1 q.2∧HasBody Tryz.prog 113:=by
 unfold ct113 at h
 split at h
 ·rename_i l hl
  obtain⟨x,hx,hk⟩:=Option.bind_eq_some_iff.1 h
  obtain⟨h1,h2⟩:=sel42_ok hl
  cases m with
  |zero=>cases hx
  |succ m=>exact⟨_,hk,(ref01_count_fx m (hct m (Nat.lt_succ_self m)) _ _ hx).conv h1 h2,⟨_,Tryz.func113,rfl,by decide⟩⟩
 cases h
theorem ct114_ok (m:Nat) (hct:∀k,k<m→∀R,CallOK (R:=R) Tryz.prog (ct k)) {R:Type} {args:List AV} {objs:List Ob} {K:Res→Option R} {r:R} (h:ct114 m args objs K=some r):∃q:Res,K q=some r∧FX Tryz.prog 114 args objs q.1 q.2∧HasBody Tryz.prog 114:=by
 unfold ct114 at h
 split at h
 ·rename_i l hl
  obtain⟨x,hx,hk⟩:=Option.bind_eq_some_iff.1 h
  obtain⟨h1,h2⟩:=sel7_ok hl
  cases m with
  |zero=>cases hx
  |succ m=>exact⟨_,hk,(ref01_UTF8_fx m (hct m (Nat.lt_succ_self m)) _ hx).conv h1 h2,⟨_,Tryz.func114,rfl,by decide⟩⟩
 cases h
theorem ct115_ok (m:Nat) (hct:∀k,k<m→∀R,CallOK (R:=R) Tryz.prog (ct k)) {R:Type} {args:List AV} {objs:List Ob} {K:Res→Option R} {r:R} (h:ct115 m args objs K=some r):∃q:Res,K q=some r∧FX Tryz.prog 115 args objs q.1 q.2∧HasBody Tryz.prog 115:=by
 unfold ct115 at h
 split at h
 ·rename_i l hl
  obtain⟨x,hx,hk⟩:=Option.bind_eq_some_iff.1 h
  obtain⟨h1,h2⟩:=sel35_ok hl
  cases m with
  |zero=>cases hx
  |succ m=>exact⟨_,hk,(ref01_fields_fx m (hct m (Nat.lt_succ_self m)) _ _ hx).conv h1 h2,⟨_,Tryz.func115,rfl,by decide⟩⟩
 cases h
theorem ct170_ok (m:Nat) (hct:∀k,k<m→∀R,CallOK (R:=R) Tryz.prog (ct k)) {R:Type} {args:List AV} {objs:List Ob} {K:Res→Option R} {r:R} (h:ct170 m args objs K=some r):∃q:Res,K q=some r∧FX Tryz.prog 170 args objs q.1 q.2∧HasBody Tryz.prog 170:=by
 unfold ct170 at h
 split at h
 ·rename_i l hl
  obtain⟨x,hx,hk⟩:=Option.bind_eq_some_iff.1 h
  obtain⟨h1,h2⟩:=sel10_ok hl
  cases m with
  |zero=>cases hx
  |succ m=>exact⟨_,hk,(value_clone_fx m (hct m (Nat.lt_succ_self m)) _ hx).conv h1 h2,⟨_,Tryz.func170,rfl,by decide⟩⟩
 cases h
theorem ct171_ok (m:Nat) (hct:∀k,k<m→∀R,CallOK (R:=R) Tryz.prog (ct k)) {R:Type} {args:List AV} {objs:List Ob} {K:Res→Option R} {r:R} (h:ct171 m args objs K=some r):∃q:Res,K q=some r∧FX Tryz.prog 171 args objs q.1 q.2∧HasBody Tryz.prog 171:=by
 unfold ct171 at h
 split at h
 ·rename_i l hl
  obtain⟨x,hx,hk⟩:=Option.bind_eq_some_iff.1 h
  obtain⟨h1,h2⟩:=sel27_ok hl
  cases m with
  |zero=>cases hx
  |succ m=>exact⟨_,hk,(value_find_fx m (hct m (Nat.lt_succ_self m)) _ _ hx).conv h1 h2,⟨_,Tryz.func171,rfl,by decide⟩⟩
 cases h
theorem ct160_ok (m:Nat) (hct:∀k,k<m→∀R,CallOK (R:=R) Tryz.prog (ct k)) {R:Type} {args:List AV} {objs:List Ob} {K:Res→Option R} {r:R} (h:ct160 m args objs K=some r):∃q:Res,K q=some r∧FX Tryz.prog 160 args objs q.1 q.2∧HasBody Tryz.prog 160:=by
 unfold ct160 at h
 split at h
 ·rename_i l hl
  obtain⟨x,hx,hk⟩:=Option.bind_eq_some_iff.1 h
  obtain⟨h1,h2⟩:=sel10_ok hl
  cases m with
  |zero=>cases hx
  |succ m=>exact⟨_,hk,(ref01_Parts_fx m (hct m (Nat.lt_succ_self m)) _ hx).conv h1 h2,⟨_,Tryz.func160,rfl,by decide⟩⟩
 cases h
theorem ct161_ok (m:Nat) (hct:∀k,k<m→∀R,CallOK (R:=R) Tryz.prog (ct k)) {R:Type} {args:List AV} {objs:List Ob} {K:Res→Option R} {r:R} (h:ct161 m args objs K=some r):∃q:Res,K q=some r∧FX Tryz.prog 161 args objs q.1 q.2∧HasBody Tryz.prog 161:=by
 unfold ct161 at h
 split at h
 ·rename_i l hl
  obtain⟨x,hx,hk⟩:=Option.bind_eq_some_iff.1 h
  obtain⟨h1,h2⟩:=sel49_ok hl
  cases m with
  |zero=>cases hx
  |succ m=>exact⟨_,hk,(ref01_tail_fx m (hct m (Nat.lt_succ_self m)) _ _ _ hx).conv h1 h2,⟨_,Tryz.func161,rfl,by decide⟩⟩
 cases h
theorem ct162_ok (m:Nat) (hct:∀k,k<m→∀R,CallOK (R:=R) Tryz.prog (ct k)) {R:Type} {args:List AV} {objs:List Ob} {K:Res→Option R} {r:R} (h:ct162 m args objs K=some r):∃q:Res,K q=some r∧FX Tryz.prog 162 args objs q.1 q.2∧HasBody Tryz.prog 162:=by
 unfold ct162 at h
 split at h
 ·rename_i l hl
  obtain⟨x,hx,hk⟩:=Option.bind_eq_some_iff.1 h
  obtain⟨h1,h2⟩:=sel7_ok hl
  cases m with
  |zero=>cases hx
  |succ m=>exact⟨_,hk,(ref01_wide_fx m (hct m (Nat.lt_succ_self m)) _ hx).conv h1 h2,⟨_,Tryz.func162,rfl,by decide⟩⟩
 cases h
set_option maxHeartbeats 4000000 in
theorem ct_ok:∀(m:Nat) (R:Type),CallOK (R:=R) Tryz.prog (ct m):=by
 intro m
 induction m using Nat.strongRecOn with
 |_ m ih=>
  intro R f args objs K r h
  unfold ct at h
  rcases bset_some h with⟨hb,h1⟩| ⟨_,h⟩
  · have e:=beq_eq hb
    subst e
    exact ct3_ok m ih h1
  rcases bset_some h with⟨hb,h1⟩| ⟨_,h⟩
  · have e:=beq_eq hb
    subst e
    exact ct10_ok m ih h1
  rcases bset_some h with⟨hb,h1⟩| ⟨_,h⟩
  · have e:=beq_eq hb
    subst e
    exact ct13_ok m ih h1
  rcases bset_some h with⟨hb,h1⟩| ⟨_,h⟩
  · have e:=beq_eq hb
    subst e
    exact ct15_ok m ih h1
  rcases bset_some h with⟨hb,h1⟩| ⟨_,h⟩
  · have e:=beq_eq hb
    subst e
    exact ct16_ok m ih h1
  rcases bset_some h with⟨hb,h1⟩| ⟨_,h⟩
  · have e:=beq_eq hb
    subst e
    exact ct14_ok m ih h1
  rcases bset_some h with⟨hb,h1⟩| ⟨_,h⟩
  · have e:=beq_eq hb
    subst e
    exact ct11_ok m ih h1
  rcases bset_some h with⟨hb,h1⟩| ⟨_,h⟩
  · have e:=beq_eq hb
    subst e
    exact ct12_ok m ih h1
  rcases bset_some h with⟨hb,h1⟩| ⟨_,h⟩
  · have e:=beq_eq hb
    subst e
    exact ct22_ok m ih h1
  rcases bset_some h with⟨hb,h1⟩| ⟨_,h⟩
  · have e:=beq_eq hb
    subst e
    exact ct67_ok m ih h1
  rcases bset_some h with⟨hb,h1⟩| ⟨_,h⟩
  · have e:=beq_eq hb
    subst e
    exact ct41_ok m ih h1
  rcases bset_some h with⟨hb,h1⟩| ⟨_,h⟩
  · have e:=beq_eq hb
    subst e
    exact ct47_ok m ih h1
  rcases bset_some h with⟨hb,h1⟩| ⟨_,h⟩
  · have e:=beq_eq hb
    subst e
    exact ct48_ok m ih h1
  rcases bset_some h with⟨hb,h1⟩| ⟨_,h⟩
  · have e:=beq_eq hb
    subst e
    exact ct49_ok m ih h1
  rcases bset_some h with⟨hb,h1⟩| ⟨_,h⟩
  · have e:=beq_eq hb
    subst e
    exact ct51_ok m ih h1
  rcases bset_some h with⟨hb,h1⟩| ⟨_,h⟩
  · have e:=beq_eq hb
    subst e
    exact ct50_ok m ih h1
  rcases bset_some h with⟨hb,h1⟩| ⟨_,h⟩
  · have e:=beq_eq hb
    subst e
    exact ct52_ok m ih h1
  rcases bset_some h with⟨hb,h1⟩| ⟨_,h⟩
  · have e:=beq_eq hb
    subst e
    exact ct53_ok m ih h1
  rcases bset_some h with⟨hb,h1⟩| ⟨_,h⟩
  · have e:=beq_eq hb
    subst e
    exact ct46_ok m ih h1
  rcases bset_some h with⟨hb,h1⟩| ⟨_,h⟩
  · have e:=beq_eq hb
    subst e
    exact ct42_ok m ih h1
  rcases bset_some h with⟨hb,h1⟩| ⟨_,h⟩
  · have e:=beq_eq hb
    subst e
    exact ct24_ok m ih h1
  rcases bset_some h with⟨hb,h1⟩| ⟨_,h⟩
  · have e:=beq_eq hb
    subst e
    exact ct94_ok m ih h1
  rcases bset_some h with⟨hb,h1⟩| ⟨_,h⟩
  · have e:=beq_eq hb
    subst e
    exact ct95_ok m ih h1
  rcases bset_some h with⟨hb,h1⟩| ⟨_,h⟩
  · have e:=beq_eq hb
    subst e
    exact ct62_ok m ih h1
  rcases bset_some h with⟨hb,h1⟩| ⟨_,h⟩
  · have e:=beq_eq hb
    subst e
    exact ct77_ok m ih h1
  rcases bset_some h with⟨hb,h1⟩| ⟨_,h⟩
  · have e:=beq_eq hb
    subst e
    exact ct72_ok m ih h1
  rcases bset_some h with⟨hb,h1⟩| ⟨_,h⟩
  · have e:=beq_eq hb
    subst e
    exact ct96_ok m ih h1
  rcases bset_some h with⟨hb,h1⟩| ⟨_,h⟩
  · have e:=beq_eq hb
    subst e
    exact ct31_ok m ih h1
  rcases bset_some h with⟨hb,h1⟩| ⟨_,h⟩
  · have e:=beq_eq hb
    subst e
    exact ct97_ok m ih h1
  rcases bset_some h with⟨hb,h1⟩| ⟨_,h⟩
  · have e:=beq_eq hb
    subst e
    exact ct98_ok m ih h1
  rcases bset_some h with⟨hb,h1⟩| ⟨_,h⟩
  · have e:=beq_eq hb
    subst e
    exact ct99_ok m ih h1
  rcases bset_some h with⟨hb,h1⟩| ⟨_,h⟩
  · have e:=beq_eq hb
    subst e
    exact ct100_ok m ih h1
  rcases bset_some h with⟨hb,h1⟩| ⟨_,h⟩
  · have e:=beq_eq hb
    subst e
    exact ct101_ok m ih h1
  rcases bset_some h with⟨hb,h1⟩| ⟨_,h⟩
  · have e:=beq_eq hb
    subst e
    exact ct68_ok m ih h1
  rcases bset_some h with⟨hb,h1⟩| ⟨_,h⟩
  · have e:=beq_eq hb
    subst e
    exact ct69_ok m ih h1
  rcases bset_some h with⟨hb,h1⟩| ⟨_,h⟩
  · have e:=beq_eq hb
    subst e
    exact ct70_ok m ih h1
  rcases bset_some h with⟨hb,h1⟩| ⟨_,h⟩
  · have e:=beq_eq hb
    subst e
    exact ct138_ok m ih h1
  rcases bset_some h with⟨hb,h1⟩| ⟨_,h⟩
  · have e:=beq_eq hb
    subst e
    exact ct139_ok m ih h1
  rcases bset_some h with⟨hb,h1⟩| ⟨_,h⟩
  · have e:=beq_eq hb
    subst e
    exact ct140_ok m ih h1
  rcases bset_some h with⟨hb,h1⟩| ⟨_,h⟩
  · have e:=beq_eq hb
    subst e
    exact ct123_ok m ih h1
  rcases bset_some h with⟨hb,h1⟩| ⟨_,h⟩
  · have e:=beq_eq hb
    subst e
    exact ct82_ok m ih h1
  rcases bset_some h with⟨hb,h1⟩| ⟨_,h⟩
  · have e:=beq_eq hb
    subst e
    exact ct144_ok m ih h1
  rcases bset_some h with⟨hb,h1⟩| ⟨_,h⟩
  · have e:=beq_eq hb
    subst e
    exact ct112_ok m ih h1
  rcases bset_some h with⟨hb,h1⟩| ⟨_,h⟩
  · have e:=beq_eq hb
    subst e
    exact ct113_ok m ih h1
  rcases bset_some h with⟨hb,h1⟩| ⟨_,h⟩
  · have e:=beq_eq hb
    subst e
    exact ct114_ok m ih h1
  rcases bset_some h with⟨hb,h1⟩| ⟨_,h⟩
  · have e:=beq_eq hb
    subst e
    exact ct115_ok m ih h1
  rcases bset_some h with⟨hb,h1⟩| ⟨_,h⟩
  · have e:=beq_eq hb
    subst e
    exact ct170_ok m ih h1
  rcases bset_some h with⟨hb,h1⟩| ⟨_,h⟩
  · have e:=beq_eq hb
    subst e
    exact ct171_ok m ih h1
  rcases bset_some h with⟨hb,h1⟩| ⟨_,h⟩
  · have e:=beq_eq hb
    subst e
    exact ct160_ok m ih h1
  rcases bset_some h with⟨hb,h1⟩| ⟨_,h⟩
  · have e:=beq_eq hb
    subst e
    exact ct161_ok m ih h1
  rcases bset_some h with⟨hb,h1⟩| ⟨_,h⟩
  · have e:=beq_eq hb
    subst e
    exact ct162_ok m ih h1
  cases h
end Go.Proofs.YtameompfdamfpaaGreatDoor
