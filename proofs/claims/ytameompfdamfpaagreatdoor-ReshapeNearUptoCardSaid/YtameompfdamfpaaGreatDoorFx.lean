/- Generated: the contracts. -/
import Derived.Test.YtameompfdamfpaaGreatDoorEq0
import Derived.Test.YtameompfdamfpaaGreatDoorEq1
set_option linter.unusedVariables false
set_option linter.unusedSimpArgs false
namespace Go.Proofs.YtameompfdamfpaaGreatDoor
open Go.Am
set_option maxRecDepth 100000
theorem mixed:Tryz.prog.follows .mixedOrders=true:=by kernel_rfl
theorem law03_SameList_fx (m:Nat) (hct:∀R,CallOK (R:=R) Tryz.prog (ct m)) (a0 a1:List Dt) {r:Bool} (h:law03_SameList (m+1) a0 a1=some r):FX Tryz.prog 14 [(.dat 23 (.lst a0)),(.dat 23 (.lst a1))] [] (.dat 4 (.bool r)) []:=
 FX_of (q:=((.dat 4 (.bool r)),[])) (E:=env) (m:=m+1) (dec:=d5) jn_ok (hct _) mixed Tryz.func14 rfl (Nat.le_of_ble_eq_true rfl) (fun b hb=>d5_sim hb) ((law03_SameList_eq m a0 a1).trans h)
theorem law03_Same_fx (m:Nat) (hct:∀R,CallOK (R:=R) Tryz.prog (ct m)) (a0 a1:Dt) {r:Bool} (h:law03_Same (m+1) a0 a1=some r):FX Tryz.prog 46 [(.dat 33 a0),(.dat 33 a1)] [] (.dat 4 (.bool r)) []:=
 FX_of (q:=((.dat 4 (.bool r)),[])) (E:=env) (m:=m+1) (dec:=d5) jn_ok (hct _) mixed Tryz.func46 rfl (Nat.le_of_ble_eq_true rfl) (fun b hb=>d5_sim hb) ((law03_Same_eq m a0 a1).trans h)
theorem reshape_Near_1_fx (m:Nat) (hct:∀R,CallOK (R:=R) Tryz.prog (ct m)) (a0 a1:Dt) {r:Int} (h:reshape_Near_1 (m+1) a0 a1=some r):FX Tryz.prog 76 [(.dat 116 a0),(.dat 116 a1)] [] (.dat 3 (.int r)) []:=
 FX_of (q:=((.dat 3 (.int r)),[])) (E:=env) (m:=m+1) (dec:=d15) jn_ok (hct _) mixed Tryz.func76 rfl (Nat.le_of_ble_eq_true rfl) (fun b hb=>d15_sim hb) ((reshape_Near_1_eq m a0 a1).trans h)
theorem i14_fx (m:Nat) (hct:∀R,CallOK (R:=R) Tryz.prog (ct m)) (a0 a1:Int) (a2:List Dt) {r:List Dt} (h:i14 (m+1) a0 a1 a2=some r):FX Tryz.prog 168 [(.row 0),(.dat 3 (.int a0)),(.dat 3 (.int a1)),(.fn 76 [])] [(.row 113 a2)] (.tup []) [(.row 113 r)]:=
 FX_of (q:=((.tup []),[(.row 113 r)])) (E:=env) (m:=m+1) (dec:=d14) jn_ok (hct _) mixed Tryz.func168 rfl (Nat.le_of_ble_eq_true rfl) (fun b hb=>d14_sim hb) ((i14_eq m a0 a1 a2).trans h)
theorem i18_fx (m:Nat) (hct:∀R,CallOK (R:=R) Tryz.prog (ct m)) (a0 a1 a2:Int) (a3:List Dt) {r:List Dt} (h:i18 (m+1) a0 a1 a2 a3=some r):FX Tryz.prog 252 [(.row 0),(.dat 3 (.int a0)),(.dat 3 (.int a1)),(.dat 3 (.int a2)),(.fn 76 [])] [(.row 113 a3)] (.tup []) [(.row 113 r)]:=
 FX_of (q:=((.tup []),[(.row 113 r)])) (E:=env) (m:=m+1) (dec:=d14) jn_ok (hct _) mixed Tryz.func252 rfl (Nat.le_of_ble_eq_true rfl) (fun b hb=>d14_sim hb) ((i18_eq m a0 a1 a2 a3).trans h)
theorem i17_fx (m:Nat) (hct:∀R,CallOK (R:=R) Tryz.prog (ct m)) (a0 a1 a2:Int) (a3:List Dt) {r:List Dt} (h:i17 (m+1) a0 a1 a2 a3=some r):FX Tryz.prog 220 [(.row 0),(.dat 3 (.int a0)),(.dat 3 (.int a1)),(.dat 3 (.int a2)),(.fn 76 [])] [(.row 113 a3)] (.tup []) [(.row 113 r)]:=
 FX_of (q:=((.tup []),[(.row 113 r)])) (E:=env) (m:=m+1) (dec:=d14) jn_ok (hct _) mixed Tryz.func220 rfl (Nat.le_of_ble_eq_true rfl) (fun b hb=>d14_sim hb) ((i17_eq m a0 a1 a2 a3).trans h)
theorem i16_fx (m:Nat) (hct:∀R,CallOK (R:=R) Tryz.prog (ct m)) (a0 a1 a2:Int) (a3:List Dt) {r:List Dt} (h:i16 (m+1) a0 a1 a2 a3=some r):FX Tryz.prog 169 [(.row 0),(.dat 3 (.int a0)),(.dat 3 (.int a1)),(.dat 3 (.int a2)),(.fn 76 [])] [(.row 113 a3)] (.tup []) [(.row 113 r)]:=
 FX_of (q:=((.tup []),[(.row 113 r)])) (E:=env) (m:=m+1) (dec:=d14) jn_ok (hct _) mixed Tryz.func169 rfl (Nat.le_of_ble_eq_true rfl) (fun b hb=>d14_sim hb) ((i16_eq m a0 a1 a2 a3).trans h)
theorem i13_fx (m:Nat) (hct:∀R,CallOK (R:=R) Tryz.prog (ct m)) (a0:Int) (a1:List Dt) {r:List Dt} (h:i13 (m+1) a0 a1=some r):FX Tryz.prog 122 [(.row 0),(.dat 3 (.int a0)),(.fn 76 [])] [(.row 113 a1)] (.tup []) [(.row 113 r)]:=
 FX_of (q:=((.tup []),[(.row 113 r)])) (E:=env) (m:=m+1) (dec:=d14) jn_ok (hct _) mixed Tryz.func122 rfl (Nat.le_of_ble_eq_true rfl) (fun b hb=>d14_sim hb) ((i13_eq m a0 a1).trans h)
theorem i12_fx (m:Nat) (hct:∀R,CallOK (R:=R) Tryz.prog (ct m)) (a0:List Dt) {r:List Dt} (h:i12 (m+1) a0=some r):FX Tryz.prog 75 [(.row 0),(.fn 76 [])] [(.row 113 a0)] (.tup []) [(.row 113 r)]:=
 FX_of (q:=((.tup []),[(.row 113 r)])) (E:=env) (m:=m+1) (dec:=d14) jn_ok (hct _) mixed Tryz.func75 rfl (Nat.le_of_ble_eq_true rfl) (fun b hb=>d14_sim hb) ((i12_eq m a0).trans h)
theorem reshape_copyValue_fx (m:Nat) (hct:∀R,CallOK (R:=R) Tryz.prog (ct m)) (a0:Dt) {r:Dt} (h:reshape_copyValue (m+1) a0=some r):FX Tryz.prog 72 [(.dat 33 a0)] [] (.dat 33 r) []:=
 FX_of (q:=((.dat 33 r),[])) (E:=env) (m:=m+1) (dec:=d19) jn_ok (hct _) mixed Tryz.func72 rfl (Nat.le_of_ble_eq_true rfl) (fun b hb=>d19_sim hb) ((reshape_copyValue_eq m a0).trans h)
theorem reshape_integer_fx (m:Nat) (hct:∀R,CallOK (R:=R) Tryz.prog (ct m)) (a0:Int) {r:Dt} (h:reshape_integer (m+1) a0=some r):FX Tryz.prog 62 [(.dat 3 (.int a0))] [] (.dat 33 r) []:=
 FX_of (q:=((.dat 33 r),[])) (E:=env) (m:=m+1) (dec:=d19) jn_ok (hct _) mixed Tryz.func62 rfl (Nat.le_of_ble_eq_true rfl) (fun b hb=>d19_sim hb) ((reshape_integer_eq m a0).trans h)
theorem ref36_integer_fx (m:Nat) (hct:∀R,CallOK (R:=R) Tryz.prog (ct m)) (a0:Int) {r:Dt} (h:ref36_integer (m+1) a0=some r):FX Tryz.prog 51 [(.dat 3 (.int a0))] [] (.dat 33 r) []:=
 FX_of (q:=((.dat 33 r),[])) (E:=env) (m:=m+1) (dec:=d19) jn_ok (hct _) mixed Tryz.func51 rfl (Nat.le_of_ble_eq_true rfl) (fun b hb=>d19_sim hb) ((ref36_integer_eq m a0).trans h)
theorem ref01_Name_fx (m:Nat) (hct:∀R,CallOK (R:=R) Tryz.prog (ct m)) (a0:ByteArray) {r:Bool} (h:ref01_Name (m+1) a0=some r):FX Tryz.prog 42 [(.dat 9 (.str a0))] [] (.dat 4 (.bool r)) []:=
 FX_of (q:=((.dat 4 (.bool r)),[])) (E:=env) (m:=m+1) (dec:=d5) jn_ok (hct _) mixed Tryz.func42 rfl (Nat.le_of_ble_eq_true rfl) (fun b hb=>d5_sim hb) ((ref01_Name_eq m a0).trans h)
theorem ref04_Valid_fx (m:Nat) (hct:∀R,CallOK (R:=R) Tryz.prog (ct m)) (a0:List Dt) {r:Bool} (h:ref04_Valid (m+1) a0=some r):FX Tryz.prog 11 [(.dat 22 (.lst a0))] [] (.dat 4 (.bool r)) []:=
 FX_of (q:=((.dat 4 (.bool r)),[])) (E:=env) (m:=m+1) (dec:=d5) jn_ok (hct _) mixed Tryz.func11 rfl (Nat.le_of_ble_eq_true rfl) (fun b hb=>d5_sim hb) ((ref04_Valid_eq m a0).trans h)
theorem law36_named_fx (m:Nat) (hct:∀R,CallOK (R:=R) Tryz.prog (ct m)) (a0:ByteArray) {r:Bool} (h:law36_named (m+1) a0=some r):FX Tryz.prog 12 [(.dat 9 (.str a0))] [] (.dat 4 (.bool r)) []:=
 FX_of (q:=((.dat 4 (.bool r)),[])) (E:=env) (m:=m+1) (dec:=d5) jn_ok (hct _) mixed Tryz.func12 rfl (Nat.le_of_ble_eq_true rfl) (fun b hb=>d5_sim hb) ((law36_named_eq m a0).trans h)
theorem geo_isCoordinate_fx (m:Nat) (hct:∀R,CallOK (R:=R) Tryz.prog (ct m)) (a0:Int) {r:Bool} (h:geo_isCoordinate (m+1) a0=some r):FX Tryz.prog 116 [(.dat 3 (.int a0))] [] (.dat 4 (.bool r)) []:=
 FX_of (q:=((.dat 4 (.bool r)),[])) (E:=env) (m:=m+1) (dec:=d5) jn_ok (hct _) mixed Tryz.func116 rfl (Nat.le_of_ble_eq_true rfl) (fun b hb=>d5_sim hb) ((geo_isCoordinate_eq m a0).trans h)
theorem geo_isPoint_fx (m:Nat) (hct:∀R,CallOK (R:=R) Tryz.prog (ct m)) (a0:Dt) {r:Bool} (h:geo_isPoint (m+1) a0=some r):FX Tryz.prog 117 [(.dat 90 a0)] [] (.dat 4 (.bool r)) []:=
 FX_of (q:=((.dat 4 (.bool r)),[])) (E:=env) (m:=m+1) (dec:=d5) jn_ok (hct _) mixed Tryz.func117 rfl (Nat.le_of_ble_eq_true rfl) (fun b hb=>d5_sim hb) ((geo_isPoint_eq m a0).trans h)
theorem geo_Valid_fx (m:Nat) (hct:∀R,CallOK (R:=R) Tryz.prog (ct m)) (a0:Dt) {r:Int} (h:geo_Valid (m+1) a0=some r):FX Tryz.prog 73 [(.dat 49 a0)] [] (.dat 37 (.int r)) []:=
 FX_of (q:=((.dat 37 (.int r)),[])) (E:=env) (m:=m+1) (dec:=d22) jn_ok (hct _) mixed Tryz.func73 rfl (Nat.le_of_ble_eq_true rfl) (fun b hb=>d22_sim hb) ((geo_Valid_eq m a0).trans h)
theorem geo_Distance_fx (m:Nat) (hct:∀R,CallOK (R:=R) Tryz.prog (ct m)) (a0 a1:Dt) {r:Int} (h:geo_Distance (m+1) a0 a1=some r):FX Tryz.prog 121 [(.dat 90 a0),(.dat 90 a1)] [] (.dat 3 (.int r)) []:=
 FX_of (q:=((.dat 3 (.int r)),[])) (E:=env) (m:=m+1) (dec:=d15) jn_ok (hct _) mixed Tryz.func121 rfl (Nat.le_of_ble_eq_true rfl) (fun b hb=>d15_sim hb) ((geo_Distance_eq m a0 a1).trans h)
theorem ref10_in_fx (m:Nat) (hct:∀R,CallOK (R:=R) Tryz.prog (ct m)) (a0:Int) {r:Bool} (h:ref10_in (m+1) a0=some r):FX Tryz.prog 125 [(.dat 3 (.int a0))] [] (.dat 4 (.bool r)) []:=
 FX_of (q:=((.dat 4 (.bool r)),[])) (E:=env) (m:=m+1) (dec:=d5) jn_ok (hct _) mixed Tryz.func125 rfl (Nat.le_of_ble_eq_true rfl) (fun b hb=>d5_sim hb) ((ref10_in_eq m a0).trans h)
theorem ref10_Is_fx (m:Nat) (hct:∀R,CallOK (R:=R) Tryz.prog (ct m)) (a0:Dt) {r:Bool} (h:ref10_Is (m+1) a0=some r):FX Tryz.prog 124 [(.dat 90 a0)] [] (.dat 4 (.bool r)) []:=
 FX_of (q:=((.dat 4 (.bool r)),[])) (E:=env) (m:=m+1) (dec:=d5) jn_ok (hct _) mixed Tryz.func124 rfl (Nat.le_of_ble_eq_true rfl) (fun b hb=>d5_sim hb) ((ref10_Is_eq m a0).trans h)
theorem ref10_Valid_fx (m:Nat) (hct:∀R,CallOK (R:=R) Tryz.prog (ct m)) (a0:Dt) {r:Int} (h:ref10_Valid (m+1) a0=some r):FX Tryz.prog 78 [(.dat 49 a0)] [] (.dat 37 (.int r)) []:=
 FX_of (q:=((.dat 37 (.int r)),[])) (E:=env) (m:=m+1) (dec:=d22) jn_ok (hct _) mixed Tryz.func78 rfl (Nat.le_of_ble_eq_true rfl) (fun b hb=>d22_sim hb) ((ref10_Valid_eq m a0).trans h)
theorem ref10_Distance_fx (m:Nat) (hct:∀R,CallOK (R:=R) Tryz.prog (ct m)) (a0 a1:Dt) {r:Int} (h:ref10_Distance (m+1) a0 a1=some r):FX Tryz.prog 129 [(.dat 90 a0),(.dat 90 a1)] [] (.dat 3 (.int r)) []:=
 FX_of (q:=((.dat 3 (.int r)),[])) (E:=env) (m:=m+1) (dec:=d15) jn_ok (hct _) mixed Tryz.func129 rfl (Nat.le_of_ble_eq_true rfl) (fun b hb=>d15_sim hb) ((ref10_Distance_eq m a0 a1).trans h)
theorem path_clone_fx (m:Nat) (hct:∀R,CallOK (R:=R) Tryz.prog (ct m)) (a0:Dt) {r:Int×Int×ByteArray×List Dt×List Dt} (h:path_clone (m+1) a0=some r):FX Tryz.prog 140 [(.dat 33 a0)] [] (.agg 33 [(.dat 3 (.int r.1)),(.dat 3 (.int r.2.1)),(.dat 9 (.str r.2.2.1)),(.row 0),(.row 1)]) [(.row 23 r.2.2.2.1),(.row 31 r.2.2.2.2)]:=
 FX_of (q:=((.agg 33 [(.dat 3 (.int r.1)),(.dat 3 (.int r.2.1)),(.dat 9 (.str r.2.2.1)),(.row 0),(.row 1)]),[(.row 23 r.2.2.2.1),(.row 31 r.2.2.2.2)])) (E:=env) (m:=m+1) (dec:=d48) jn_ok (hct _) mixed Tryz.func140 rfl (Nat.le_of_ble_eq_true rfl) (fun b hb=>d48_sim hb) ((path_clone_eq m a0).trans h)
theorem geo_bounds_fx (m:Nat) (hct:∀R,CallOK (R:=R) Tryz.prog (ct m)) (a0:Dt) {r:Dt×Dt} (h:geo_bounds (m+1) a0=some r):FX Tryz.prog 165 [(.dat 49 a0)] [] (.tup [(.dat 90 r.1),(.dat 90 r.2)]) []:=
 FX_of (q:=((.tup [(.dat 90 r.1),(.dat 90 r.2)]),[])) (E:=env) (m:=m+1) (dec:=d50) jn_ok (hct _) mixed Tryz.func165 rfl (Nat.le_of_ble_eq_true rfl) (fun b hb=>d50_sim hb) ((geo_bounds_eq m a0).trans h)
theorem value_clone_fx (m:Nat) (hct:∀R,CallOK (R:=R) Tryz.prog (ct m)) (a0:Dt) {r:Int×Int×ByteArray×List Dt×List Dt} (h:value_clone (m+1) a0=some r):FX Tryz.prog 170 [(.dat 33 a0)] [] (.agg 33 [(.dat 3 (.int r.1)),(.dat 3 (.int r.2.1)),(.dat 9 (.str r.2.2.1)),(.row 0),(.row 1)]) [(.row 23 r.2.2.2.1),(.row 31 r.2.2.2.2)]:=
 FX_of (q:=((.agg 33 [(.dat 3 (.int r.1)),(.dat 3 (.int r.2.1)),(.dat 9 (.str r.2.2.1)),(.row 0),(.row 1)]),[(.row 23 r.2.2.2.1),(.row 31 r.2.2.2.2)])) (E:=env) (m:=m+1) (dec:=d48) jn_ok (hct _) mixed Tryz.func170 rfl (Nat.le_of_ble_eq_true rfl) (fun b hb=>d48_sim hb) ((value_clone_eq m a0).trans h)
theorem value_find_fx (m:Nat) (hct:∀R,CallOK (R:=R) Tryz.prog (ct m)) (a0:Dt) (a1:ByteArray) {r:Int} (h:value_find (m+1) a0 a1=some r):FX Tryz.prog 171 [(.dat 33 a0),(.dat 9 (.str a1))] [] (.dat 3 (.int r)) []:=
 FX_of (q:=((.dat 3 (.int r)),[])) (E:=env) (m:=m+1) (dec:=d15) jn_ok (hct _) mixed Tryz.func171 rfl (Nat.le_of_ble_eq_true rfl) (fun b hb=>d15_sim hb) ((value_find_eq m a0 a1).trans h)
theorem value_Set_fx (m:Nat) (hct:∀R,CallOK (R:=R) Tryz.prog (ct m)) (a0:Dt) (a1:ByteArray) (a2:Dt) {r:Dt} (h:value_Set (m+1) a0 a1 a2=some r):FX Tryz.prog 123 [(.dat 33 a0),(.dat 9 (.str a1)),(.dat 33 a2)] [] (.dat 33 r) []:=
 FX_of (q:=((.dat 33 r),[])) (E:=env) (m:=m+1) (dec:=d19) jn_ok (hct _) mixed Tryz.func123 rfl (Nat.le_of_ble_eq_true rfl) (fun b hb=>d19_sim hb) ((value_Set_eq m a0 a1 a2).trans h)
theorem reshape_named_fx (m:Nat) (hct:∀R,CallOK (R:=R) Tryz.prog (ct m)) (a0:Dt) (a1:ByteArray) (a2:Dt) {r:Dt} (h:reshape_named (m+1) a0 a1 a2=some r):FX Tryz.prog 77 [(.dat 33 a0),(.dat 9 (.str a1)),(.dat 33 a2)] [] (.dat 33 r) []:=
 FX_of (q:=((.dat 33 r),[])) (E:=env) (m:=m+1) (dec:=d19) jn_ok (hct _) mixed Tryz.func77 rfl (Nat.le_of_ble_eq_true rfl) (fun b hb=>d19_sim hb) ((reshape_named_eq m a0 a1 a2).trans h)
theorem value_Get_fx (m:Nat) (hct:∀R,CallOK (R:=R) Tryz.prog (ct m)) (a0:Dt) (a1:ByteArray) {r:Dt×Bool} (h:value_Get (m+1) a0 a1=some r):FX Tryz.prog 164 [(.dat 33 a0),(.dat 9 (.str a1))] [] (.tup [(.dat 33 r.1),(.dat 4 (.bool r.2))]) []:=
 FX_of (q:=((.tup [(.dat 33 r.1),(.dat 4 (.bool r.2))]),[])) (E:=env) (m:=m+1) (dec:=d49) jn_ok (hct _) mixed Tryz.func164 rfl (Nat.le_of_ble_eq_true rfl) (fun b hb=>d49_sim hb) ((value_Get_eq m a0 a1).trans h)
theorem geo_Point_fx (m:Nat) (hct:∀R,CallOK (R:=R) Tryz.prog (ct m)) (a0:Dt) {r:Dt×Int} (h:geo_Point (m+1) a0=some r):FX Tryz.prog 119 [(.dat 33 a0)] [] (.tup [(.dat 90 r.1),(.dat 37 (.int r.2))]) []:=
 FX_of (q:=((.tup [(.dat 90 r.1),(.dat 37 (.int r.2))]),[])) (E:=env) (m:=m+1) (dec:=d31) jn_ok (hct _) mixed Tryz.func119 rfl (Nat.le_of_ble_eq_true rfl) (fun b hb=>d31_sim hb) ((geo_Point_eq m a0).trans h)
theorem ref10_between_fx (m:Nat) (hct:∀R,CallOK (R:=R) Tryz.prog (ct m)) (a0 a1 a2:Int) {r:Bool} (h:ref10_between (m+1) a0 a1 a2=some r):FX Tryz.prog 173 [(.dat 3 (.int a0)),(.dat 3 (.int a1)),(.dat 3 (.int a2))] [] (.dat 4 (.bool r)) []:=
 FX_of (q:=((.dat 4 (.bool r)),[])) (E:=env) (m:=m+1) (dec:=d5) jn_ok (hct _) mixed Tryz.func173 rfl (Nat.le_of_ble_eq_true rfl) (fun b hb=>d5_sim hb) ((ref10_between_eq m a0 a1 a2).trans h)
theorem ref01_at_fx (m:Nat) (hct:∀R,CallOK (R:=R) Tryz.prog (ct m)) (a0:Dt) (a1:ByteArray) {r:Int} (h:ref01_at (m+1) a0 a1=some r):FX Tryz.prog 82 [(.dat 33 a0),(.dat 9 (.str a1))] [] (.dat 3 (.int r)) []:=
 FX_of (q:=((.dat 3 (.int r)),[])) (E:=env) (m:=m+1) (dec:=d15) jn_ok (hct _) mixed Tryz.func82 rfl (Nat.le_of_ble_eq_true rfl) (fun b hb=>d15_sim hb) ((ref01_at_eq m a0 a1).trans h)
theorem ref01_Set_fx (m:Nat) (hct:∀R,CallOK (R:=R) Tryz.prog (ct m)) (a0:Dt) (a1:ByteArray) (a2:Dt) {r:Dt} (h:ref01_Set (m+1) a0 a1 a2=some r):FX Tryz.prog 99 [(.dat 33 a0),(.dat 9 (.str a1)),(.dat 33 a2)] [] (.dat 33 r) []:=
 FX_of (q:=((.dat 33 r),[])) (E:=env) (m:=m+1) (dec:=d19) jn_ok (hct _) mixed Tryz.func99 rfl (Nat.le_of_ble_eq_true rfl) (fun b hb=>d19_sim hb) ((ref01_Set_eq m a0 a1 a2).trans h)
theorem ref36_with_fx (m:Nat) (hct:∀R,CallOK (R:=R) Tryz.prog (ct m)) (a0:Dt) (a1:ByteArray) (a2:Dt) {r:Dt} (h:ref36_with (m+1) a0 a1 a2=some r):FX Tryz.prog 50 [(.dat 33 a0),(.dat 9 (.str a1)),(.dat 33 a2)] [] (.dat 33 r) []:=
 FX_of (q:=((.dat 33 r),[])) (E:=env) (m:=m+1) (dec:=d19) jn_ok (hct _) mixed Tryz.func50 rfl (Nat.le_of_ble_eq_true rfl) (fun b hb=>d19_sim hb) ((ref36_with_eq m a0 a1 a2).trans h)
theorem ref01_Get_fx (m:Nat) (hct:∀R,CallOK (R:=R) Tryz.prog (ct m)) (a0:Dt) (a1:ByteArray) {r:Dt×Bool} (h:ref01_Get (m+1) a0 a1=some r):FX Tryz.prog 31 [(.dat 33 a0),(.dat 9 (.str a1))] [] (.tup [(.dat 33 r.1),(.dat 4 (.bool r.2))]) []:=
 FX_of (q:=((.tup [(.dat 33 r.1),(.dat 4 (.bool r.2))]),[])) (E:=env) (m:=m+1) (dec:=d49) jn_ok (hct _) mixed Tryz.func31 rfl (Nat.le_of_ble_eq_true rfl) (fun b hb=>d49_sim hb) ((ref01_Get_eq m a0 a1).trans h)
theorem ref10_Point_fx (m:Nat) (hct:∀R,CallOK (R:=R) Tryz.prog (ct m)) (a0:Dt) {r:Dt×Int} (h:ref10_Point (m+1) a0=some r):FX Tryz.prog 127 [(.dat 33 a0)] [] (.tup [(.dat 90 r.1),(.dat 37 (.int r.2))]) []:=
 FX_of (q:=((.tup [(.dat 90 r.1),(.dat 37 (.int r.2))]),[])) (E:=env) (m:=m+1) (dec:=d31) jn_ok (hct _) mixed Tryz.func127 rfl (Nat.le_of_ble_eq_true rfl) (fun b hb=>d31_sim hb) ((ref10_Point_eq m a0).trans h)
theorem path_field_fx (m:Nat) (hct:∀R,CallOK (R:=R) Tryz.prog (ct m)) (a0:List Dt) (a1:ByteArray) {r:Int} (h:path_field (m+1) a0 a1=some r):FX Tryz.prog 138 [(.dat 31 (.lst a0)),(.dat 9 (.str a1))] [] (.dat 3 (.int r)) []:=
 FX_of (q:=((.dat 3 (.int r)),[])) (E:=env) (m:=m+1) (dec:=d15) jn_ok (hct _) mixed Tryz.func138 rfl (Nat.le_of_ble_eq_true rfl) (fun b hb=>d15_sim hb) ((path_field_eq m a0 a1).trans h)
theorem path_Number_fx (m:Nat) (hct:∀R,CallOK (R:=R) Tryz.prog (ct m)) (a0:ByteArray) {r:Int×Bool} (h:path_Number (m+1) a0=some r):FX Tryz.prog 139 [(.dat 9 (.str a0))] [] (.tup [(.dat 3 (.int r.1)),(.dat 4 (.bool r.2))]) []:=
 FX_of (q:=((.tup [(.dat 3 (.int r.1)),(.dat 4 (.bool r.2))]),[])) (E:=env) (m:=m+1) (dec:=d66) jn_ok (hct _) mixed Tryz.func139 rfl (Nat.le_of_ble_eq_true rfl) (fun b hb=>d66_sim hb) ((path_Number_eq m a0).trans h)
theorem i64_fx (m:Nat) (hct:∀R,CallOK (R:=R) Tryz.prog (ct m)) (a0:Dt) (a1 a2:List Dt) {r:List Dt} (h:i64 (m+1) a0 a1 a2=some r):FX Tryz.prog 218 [(.row 0),(.dat 33 a0),(.dat 22 (.lst a1))] [(.row 23 a2)] (.row 1) [.gone,(.row 23 r)]:=
 FX_of (q:=((.row 1),[.gone,(.row 23 r)])) (E:=env) (m:=m+1) (dec:=d64) jn_ok (hct _) mixed Tryz.func218 rfl (Nat.le_of_ble_eq_true rfl) (fun b hb=>d64_sim hb) ((i64_eq m a0 a1 a2).trans h)
theorem path_Reach_fx (m:Nat) (hct:∀R,CallOK (R:=R) Tryz.prog (ct m)) (a0:Dt) (a1:List Dt) {r:List Dt} (h:path_Reach (m+1) a0 a1=some r):FX Tryz.prog 163 [(.dat 33 a0),(.dat 22 (.lst a1))] [] (.dat 23 (.lst r)) []:=
 FX_of (q:=((.dat 23 (.lst r)),[])) (E:=env) (m:=m+1) (dec:=d47) jn_ok (hct _) mixed Tryz.func163 rfl (Nat.le_of_ble_eq_true rfl) (fun b hb=>d47_sim hb) ((path_Reach_eq m a0 a1).trans h)
theorem path_Leaves_fx (m:Nat) (hct:∀R,CallOK (R:=R) Tryz.prog (ct m)) (a0:Dt) (a1:List Dt) {r:List Dt} (h:path_Leaves (m+1) a0 a1=some r):FX Tryz.prog 118 [(.dat 33 a0),(.dat 22 (.lst a1))] [] (.dat 23 (.lst r)) []:=
 FX_of (q:=((.dat 23 (.lst r)),[])) (E:=env) (m:=m+1) (dec:=d47) jn_ok (hct _) mixed Tryz.func118 rfl (Nat.le_of_ble_eq_true rfl) (fun b hb=>d47_sim hb) ((path_Leaves_eq m a0 a1).trans h)
theorem geo_turn_fx (m:Nat) (hct:∀R,CallOK (R:=R) Tryz.prog (ct m)) (a0 a1 a2:Dt) {r:Int} (h:geo_turn (m+1) a0 a1 a2=some r):FX Tryz.prog 219 [(.dat 90 a0),(.dat 90 a1),(.dat 90 a2)] [] (.dat 3 (.int r)) []:=
 FX_of (q:=((.dat 3 (.int r)),[])) (E:=env) (m:=m+1) (dec:=d15) jn_ok (hct _) mixed Tryz.func219 rfl (Nat.le_of_ble_eq_true rfl) (fun b hb=>d15_sim hb) ((geo_turn_eq m a0 a1 a2).trans h)
theorem geo_onEdge_fx (m:Nat) (hct:∀R,CallOK (R:=R) Tryz.prog (ct m)) (a0 a1 a2:Dt) {r:Bool} (h:geo_onEdge (m+1) a0 a1 a2=some r):FX Tryz.prog 166 [(.dat 90 a0),(.dat 90 a1),(.dat 90 a2)] [] (.dat 4 (.bool r)) []:=
 FX_of (q:=((.dat 4 (.bool r)),[])) (E:=env) (m:=m+1) (dec:=d5) jn_ok (hct _) mixed Tryz.func166 rfl (Nat.le_of_ble_eq_true rfl) (fun b hb=>d5_sim hb) ((geo_onEdge_eq m a0 a1 a2).trans h)
theorem geo_crosses_fx (m:Nat) (hct:∀R,CallOK (R:=R) Tryz.prog (ct m)) (a0 a1 a2:Dt) {r:Bool} (h:geo_crosses (m+1) a0 a1 a2=some r):FX Tryz.prog 167 [(.dat 90 a0),(.dat 90 a1),(.dat 90 a2)] [] (.dat 4 (.bool r)) []:=
 FX_of (q:=((.dat 4 (.bool r)),[])) (E:=env) (m:=m+1) (dec:=d5) jn_ok (hct _) mixed Tryz.func167 rfl (Nat.le_of_ble_eq_true rfl) (fun b hb=>d5_sim hb) ((geo_crosses_eq m a0 a1 a2).trans h)
theorem geo_Inside_fx (m:Nat) (hct:∀R,CallOK (R:=R) Tryz.prog (ct m)) (a0 a1:Dt) {r:Bool} (h:geo_Inside (m+1) a0 a1=some r):FX Tryz.prog 120 [(.dat 49 a0),(.dat 90 a1)] [] (.dat 4 (.bool r)) []:=
 FX_of (q:=((.dat 4 (.bool r)),[])) (E:=env) (m:=m+1) (dec:=d5) jn_ok (hct _) mixed Tryz.func120 rfl (Nat.le_of_ble_eq_true rfl) (fun b hb=>d5_sim hb) ((geo_Inside_eq m a0 a1).trans h)
theorem reshape_nearest_fx (m:Nat) (hct:∀R,CallOK (R:=R) Tryz.prog (ct m)) (a0:Dt) (a1:List Dt) (a2:Dt) {r:Int×Bool} (h:reshape_nearest (m+1) a0 a1 a2=some r):FX Tryz.prog 74 [(.dat 49 a0),(.dat 22 (.lst a1)),(.dat 33 a2)] [] (.tup [(.dat 3 (.int r.1)),(.dat 4 (.bool r.2))]) []:=
 FX_of (q:=((.tup [(.dat 3 (.int r.1)),(.dat 4 (.bool r.2))]),[])) (E:=env) (m:=m+1) (dec:=d66) jn_ok (hct _) mixed Tryz.func74 rfl (Nat.le_of_ble_eq_true rfl) (fun b hb=>d66_sim hb) ((reshape_nearest_eq m a0 a1 a2).trans h)
theorem reshape_Near_fx (m:Nat) (hct:∀R,CallOK (R:=R) Tryz.prog (ct m)) (a0:Dt) (a1:List Dt) (a2:ByteArray) (a3:List Dt) {r:List Dt} (h:reshape_Near (m+1) a0 a1 a2 a3=some r):FX Tryz.prog 27 [(.dat 49 a0),(.dat 22 (.lst a1)),(.dat 9 (.str a2)),(.dat 23 (.lst a3))] [] (.dat 23 (.lst r)) []:=
 FX_of (q:=((.dat 23 (.lst r)),[])) (E:=env) (m:=m+1) (dec:=d47) jn_ok (hct _) mixed Tryz.func27 rfl (Nat.le_of_ble_eq_true rfl) (fun b hb=>d47_sim hb) ((reshape_Near_eq m a0 a1 a2 a3).trans h)
theorem ref10_cross_fx (m:Nat) (hct:∀R,CallOK (R:=R) Tryz.prog (ct m)) (a0 a1 a2:Dt) {r:Int} (h:ref10_cross (m+1) a0 a1 a2=some r):FX Tryz.prog 222 [(.dat 90 a0),(.dat 90 a1),(.dat 90 a2)] [] (.dat 3 (.int r)) []:=
 FX_of (q:=((.dat 3 (.int r)),[])) (E:=env) (m:=m+1) (dec:=d15) jn_ok (hct _) mixed Tryz.func222 rfl (Nat.le_of_ble_eq_true rfl) (fun b hb=>d15_sim hb) ((ref10_cross_eq m a0 a1 a2).trans h)
theorem ref10_polygon_fx (m:Nat) (hct:∀R,CallOK (R:=R) Tryz.prog (ct m)) (a0:List Dt) (a1:Dt) {r:Bool} (h:ref10_polygon (m+1) a0 a1=some r):FX Tryz.prog 174 [(.dat 47 (.lst a0)),(.dat 90 a1)] [] (.dat 4 (.bool r)) []:=
 FX_of (q:=((.dat 4 (.bool r)),[])) (E:=env) (m:=m+1) (dec:=d5) jn_ok (hct _) mixed Tryz.func174 rfl (Nat.le_of_ble_eq_true rfl) (fun b hb=>d5_sim hb) ((ref10_polygon_eq m a0 a1).trans h)
theorem ref10_Inside_fx (m:Nat) (hct:∀R,CallOK (R:=R) Tryz.prog (ct m)) (a0 a1:Dt) {r:Bool} (h:ref10_Inside (m+1) a0 a1=some r):FX Tryz.prog 128 [(.dat 49 a0),(.dat 90 a1)] [] (.dat 4 (.bool r)) []:=
 FX_of (q:=((.dat 4 (.bool r)),[])) (E:=env) (m:=m+1) (dec:=d5) jn_ok (hct _) mixed Tryz.func128 rfl (Nat.le_of_ble_eq_true rfl) (fun b hb=>d5_sim hb) ((ref10_Inside_eq m a0 a1).trans h)
theorem ref01_Parts_fx (m:Nat) (hct:∀R,CallOK (R:=R) Tryz.prog (ct m)) (a0:Dt) {r:List Dt} (h:ref01_Parts (m+1) a0=some r):FX Tryz.prog 160 [(.dat 33 a0)] [] (.dat 23 (.lst r)) []:=
 FX_of (q:=((.dat 23 (.lst r)),[])) (E:=env) (m:=m+1) (dec:=d47) jn_ok (hct _) mixed Tryz.func160 rfl (Nat.le_of_ble_eq_true rfl) (fun b hb=>d47_sim hb) ((ref01_Parts_eq m a0).trans h)
theorem ref01_levels_fx (m:Nat) (hct:∀R,CallOK (R:=R) Tryz.prog (ct m)) (a0:Dt) (a1:Int) {r:Int} (h:ref01_levels (m+1) a0 a1=some r):FX Tryz.prog 112 [(.dat 33 a0),(.dat 3 (.int a1))] [] (.dat 3 (.int r)) []:=
 FX_of (q:=((.dat 3 (.int r)),[])) (E:=env) (m:=m+1) (dec:=d15) jn_ok (hct _) mixed Tryz.func112 rfl (Nat.le_of_ble_eq_true rfl) (fun b hb=>d15_sim hb) ((ref01_levels_eq m a0 a1).trans h)
theorem ref01_Depth_fx (m:Nat) (hct:∀R,CallOK (R:=R) Tryz.prog (ct m)) (a0:Dt) {r:Int} (h:ref01_Depth (m+1) a0=some r):FX Tryz.prog 68 [(.dat 33 a0)] [] (.dat 3 (.int r)) []:=
 FX_of (q:=((.dat 3 (.int r)),[])) (E:=env) (m:=m+1) (dec:=d15) jn_ok (hct _) mixed Tryz.func68 rfl (Nat.le_of_ble_eq_true rfl) (fun b hb=>d15_sim hb) ((ref01_Depth_eq m a0).trans h)
theorem ref01_count_fx (m:Nat) (hct:∀R,CallOK (R:=R) Tryz.prog (ct m)) (a0:Dt) (a1:Int) {r:Int} (h:ref01_count (m+1) a0 a1=some r):FX Tryz.prog 113 [(.dat 33 a0),(.dat 3 (.int a1))] [] (.dat 3 (.int r)) []:=
 FX_of (q:=((.dat 3 (.int r)),[])) (E:=env) (m:=m+1) (dec:=d15) jn_ok (hct _) mixed Tryz.func113 rfl (Nat.le_of_ble_eq_true rfl) (fun b hb=>d15_sim hb) ((ref01_count_eq m a0 a1).trans h)
theorem ref01_Nodes_fx (m:Nat) (hct:∀R,CallOK (R:=R) Tryz.prog (ct m)) (a0:Dt) {r:Int} (h:ref01_Nodes (m+1) a0=some r):FX Tryz.prog 69 [(.dat 33 a0)] [] (.dat 3 (.int r)) []:=
 FX_of (q:=((.dat 3 (.int r)),[])) (E:=env) (m:=m+1) (dec:=d15) jn_ok (hct _) mixed Tryz.func69 rfl (Nat.le_of_ble_eq_true rfl) (fun b hb=>d15_sim hb) ((ref01_Nodes_eq m a0).trans h)
theorem ref01_tail_fx (m:Nat) (hct:∀R,CallOK (R:=R) Tryz.prog (ct m)) (a0:ByteArray) (a1 a2:Int) {r:Bool} (h:ref01_tail (m+1) a0 a1 a2=some r):FX Tryz.prog 161 [(.dat 9 (.str a0)),(.dat 3 (.int a1)),(.dat 3 (.int a2))] [] (.dat 4 (.bool r)) []:=
 FX_of (q:=((.dat 4 (.bool r)),[])) (E:=env) (m:=m+1) (dec:=d5) jn_ok (hct _) mixed Tryz.func161 rfl (Nat.le_of_ble_eq_true rfl) (fun b hb=>d5_sim hb) ((ref01_tail_eq m a0 a1 a2).trans h)
theorem ref01_UTF8_fx (m:Nat) (hct:∀R,CallOK (R:=R) Tryz.prog (ct m)) (a0:ByteArray) {r:Bool} (h:ref01_UTF8 (m+1) a0=some r):FX Tryz.prog 114 [(.dat 9 (.str a0))] [] (.dat 4 (.bool r)) []:=
 FX_of (q:=((.dat 4 (.bool r)),[])) (E:=env) (m:=m+1) (dec:=d5) jn_ok (hct _) mixed Tryz.func114 rfl (Nat.le_of_ble_eq_true rfl) (fun b hb=>d5_sim hb) ((ref01_UTF8_eq m a0).trans h)
theorem ref01_wide_fx (m:Nat) (hct:∀R,CallOK (R:=R) Tryz.prog (ct m)) (a0:ByteArray) {r:Bool} (h:ref01_wide (m+1) a0=some r):FX Tryz.prog 162 [(.dat 9 (.str a0))] [] (.dat 4 (.bool r)) []:=
 FX_of (q:=((.dat 4 (.bool r)),[])) (E:=env) (m:=m+1) (dec:=d5) jn_ok (hct _) mixed Tryz.func162 rfl (Nat.le_of_ble_eq_true rfl) (fun b hb=>d5_sim hb) ((ref01_wide_eq m a0).trans h)
theorem ref01_formed_fx (m:Nat) (hct:∀R,CallOK (R:=R) Tryz.prog (ct m)) (a0:Dt) (a1:Bool) {r:Bool} (h:ref01_formed (m+1) a0 a1=some r):FX Tryz.prog 70 [(.dat 33 a0),(.dat 4 (.bool a1))] [] (.dat 4 (.bool r)) []:=
 FX_of (q:=((.dat 4 (.bool r)),[])) (E:=env) (m:=m+1) (dec:=d5) jn_ok (hct _) mixed Tryz.func70 rfl (Nat.le_of_ble_eq_true rfl) (fun b hb=>d5_sim hb) ((ref01_formed_eq m a0 a1).trans h)
theorem ref01_fields_fx (m:Nat) (hct:∀R,CallOK (R:=R) Tryz.prog (ct m)) (a0:Dt) (a1:Bool) {r:Bool} (h:ref01_fields (m+1) a0 a1=some r):FX Tryz.prog 115 [(.dat 33 a0),(.dat 4 (.bool a1))] [] (.dat 4 (.bool r)) []:=
 FX_of (q:=((.dat 4 (.bool r)),[])) (E:=env) (m:=m+1) (dec:=d5) jn_ok (hct _) mixed Tryz.func115 rfl (Nat.le_of_ble_eq_true rfl) (fun b hb=>d5_sim hb) ((ref01_fields_eq m a0 a1).trans h)
theorem ref01_Valid_fx (m:Nat) (hct:∀R,CallOK (R:=R) Tryz.prog (ct m)) (a0:Dt) {r:Bool} (h:ref01_Valid (m+1) a0=some r):FX Tryz.prog 24 [(.dat 33 a0)] [] (.dat 4 (.bool r)) []:=
 FX_of (q:=((.dat 4 (.bool r)),[])) (E:=env) (m:=m+1) (dec:=d5) jn_ok (hct _) mixed Tryz.func24 rfl (Nat.le_of_ble_eq_true rfl) (fun b hb=>d5_sim hb) ((ref01_Valid_eq m a0).trans h)
theorem law36_valid_1_fx (m:Nat) (hct:∀R,CallOK (R:=R) Tryz.prog (ct m)) (a0:Dt) {r:Bool} (h:law36_valid_1 (m+1) a0=some r):FX Tryz.prog 41 [(.dat 33 a0)] [] (.dat 4 (.bool r)) []:=
 FX_of (q:=((.dat 4 (.bool r)),[])) (E:=env) (m:=m+1) (dec:=d5) jn_ok (hct _) mixed Tryz.func41 rfl (Nat.le_of_ble_eq_true rfl) (fun b hb=>d5_sim hb) ((law36_valid_1_eq m a0).trans h)
theorem i9_fx (m:Nat) (hct:∀R,CallOK (R:=R) Tryz.prog (ct m)) (a0:List Dt) {r:Int} (h:i9 (m+1) a0=some r):FX Tryz.prog 67 [(.dat 23 (.lst a0)),(.fn 41 [])] [] (.dat 3 (.int r)) []:=
 FX_of (q:=((.dat 3 (.int r)),[])) (E:=env) (m:=m+1) (dec:=d15) jn_ok (hct _) mixed Tryz.func67 rfl (Nat.le_of_ble_eq_true rfl) (fun b hb=>d15_sim hb) ((i9_eq m a0).trans h)
theorem i8_fx (m:Nat) (hct:∀R,CallOK (R:=R) Tryz.prog (ct m)) (a0:List Dt) {r:Bool} (h:i8 (m+1) a0=some r):FX Tryz.prog 22 [(.dat 23 (.lst a0)),(.fn 41 [])] [] (.dat 4 (.bool r)) []:=
 FX_of (q:=((.dat 4 (.bool r)),[])) (E:=env) (m:=m+1) (dec:=d5) jn_ok (hct _) mixed Tryz.func22 rfl (Nat.le_of_ble_eq_true rfl) (fun b hb=>d5_sim hb) ((i8_eq m a0).trans h)
theorem law36_valid_fx (m:Nat) (hct:∀R,CallOK (R:=R) Tryz.prog (ct m)) (a0:List Dt) {r:Bool} (h:law36_valid (m+1) a0=some r):FX Tryz.prog 10 [(.dat 23 (.lst a0))] [] (.dat 4 (.bool r)) []:=
 FX_of (q:=((.dat 4 (.bool r)),[])) (E:=env) (m:=m+1) (dec:=d5) jn_ok (hct _) mixed Tryz.func10 rfl (Nat.le_of_ble_eq_true rfl) (fun b hb=>d5_sim hb) ((law36_valid_eq m a0).trans h)
theorem ref04_Number_fx (m:Nat) (hct:∀R,CallOK (R:=R) Tryz.prog (ct m)) (a0:ByteArray) {r:Int×Bool} (h:ref04_Number (m+1) a0=some r):FX Tryz.prog 97 [(.dat 9 (.str a0))] [] (.tup [(.dat 3 (.int r.1)),(.dat 4 (.bool r.2))]) []:=
 FX_of (q:=((.tup [(.dat 3 (.int r.1)),(.dat 4 (.bool r.2))]),[])) (E:=env) (m:=m+1) (dec:=d66) jn_ok (hct _) mixed Tryz.func97 rfl (Nat.le_of_ble_eq_true rfl) (fun b hb=>d66_sim hb) ((ref04_Number_eq m a0).trans h)
theorem ref04_Pass_fx (m:Nat) (hct:∀R,CallOK (R:=R) Tryz.prog (ct m)) (a0:Dt) (a1:List Dt) {r:List Dt} (h:ref04_Pass (m+1) a0 a1=some r):FX Tryz.prog 221 [(.dat 33 a0),(.dat 22 (.lst a1))] [] (.dat 23 (.lst r)) []:=
 FX_of (q:=((.dat 23 (.lst r)),[])) (E:=env) (m:=m+1) (dec:=d47) jn_ok (hct _) mixed Tryz.func221 rfl (Nat.le_of_ble_eq_true rfl) (fun b hb=>d47_sim hb) ((ref04_Pass_eq m a0 a1).trans h)
theorem ref04_Reach_fx (m:Nat) (hct:∀R,CallOK (R:=R) Tryz.prog (ct m)) (a0:Dt) (a1:List Dt) {r:List Dt} (h:ref04_Reach (m+1) a0 a1=some r):FX Tryz.prog 172 [(.dat 33 a0),(.dat 22 (.lst a1))] [] (.dat 23 (.lst r)) []:=
 FX_of (q:=((.dat 23 (.lst r)),[])) (E:=env) (m:=m+1) (dec:=d47) jn_ok (hct _) mixed Tryz.func172 rfl (Nat.le_of_ble_eq_true rfl) (fun b hb=>d47_sim hb) ((ref04_Reach_eq m a0 a1).trans h)
theorem ref04_Leaves_fx (m:Nat) (hct:∀R,CallOK (R:=R) Tryz.prog (ct m)) (a0:Dt) (a1:List Dt) {r:List Dt} (h:ref04_Leaves (m+1) a0 a1=some r):FX Tryz.prog 126 [(.dat 33 a0),(.dat 22 (.lst a1))] [] (.dat 23 (.lst r)) []:=
 FX_of (q:=((.dat 23 (.lst r)),[])) (E:=env) (m:=m+1) (dec:=d47) jn_ok (hct _) mixed Tryz.func126 rfl (Nat.le_of_ble_eq_true rfl) (fun b hb=>d47_sim hb) ((ref04_Leaves_eq m a0 a1).trans h)
theorem ref36_Distance_fx (m:Nat) (hct:∀R,CallOK (R:=R) Tryz.prog (ct m)) (a0:Dt) (a1:List Dt) (a2:Dt) {r:Int×Bool} (h:ref36_Distance (m+1) a0 a1 a2=some r):FX Tryz.prog 79 [(.dat 49 a0),(.dat 22 (.lst a1)),(.dat 33 a2)] [] (.tup [(.dat 3 (.int r.1)),(.dat 4 (.bool r.2))]) []:=
 FX_of (q:=((.tup [(.dat 3 (.int r.1)),(.dat 4 (.bool r.2))]),[])) (E:=env) (m:=m+1) (dec:=d66) jn_ok (hct _) mixed Tryz.func79 rfl (Nat.le_of_ble_eq_true rfl) (fun b hb=>d66_sim hb) ((ref36_Distance_eq m a0 a1 a2).trans h)
theorem ref36_Near_fx (m:Nat) (hct:∀R,CallOK (R:=R) Tryz.prog (ct m)) (a0:Dt) (a1:List Dt) (a2:ByteArray) (a3:List Dt) {r:List Dt} (h:ref36_Near (m+1) a0 a1 a2 a3=some r):FX Tryz.prog 28 [(.dat 49 a0),(.dat 22 (.lst a1)),(.dat 9 (.str a2)),(.dat 23 (.lst a3))] [] (.dat 23 (.lst r)) []:=
 FX_of (q:=((.dat 23 (.lst r)),[])) (E:=env) (m:=m+1) (dec:=d47) jn_ok (hct _) mixed Tryz.func28 rfl (Nat.le_of_ble_eq_true rfl) (fun b hb=>d47_sim hb) ((ref36_Near_eq m a0 a1 a2 a3).trans h)
theorem law36_ReshapeNear_fx (m:Nat) (hct:∀R,CallOK (R:=R) Tryz.prog (ct m)) (a0:Dt) (a1:List Dt) (a2:ByteArray) (a3:List Dt) {r:Bool} (h:law36_ReshapeNear (m+1) a0 a1 a2 a3=some r):FX Tryz.prog 6 [(.dat 49 a0),(.dat 22 (.lst a1)),(.dat 9 (.str a2)),(.dat 23 (.lst a3))] [] (.dat 4 (.bool r)) []:=
 FX_of (q:=((.dat 4 (.bool r)),[])) (E:=env) (m:=m+1) (dec:=d5) jn_ok (hct _) mixed Tryz.func6 rfl (Nat.le_of_ble_eq_true rfl) (fun b hb=>d5_sim hb) ((law36_ReshapeNear_eq m a0 a1 a2 a3).trans h)
theorem ct6_ok (m:Nat) (hct:∀k,k<m→∀R,CallOK (R:=R) Tryz.prog (ct k)) {R:Type} {args:List AV} {objs:List Ob} {K:Res→Option R} {r:R} (h:ct6 m args objs K=some r):∃q:Res,K q=some r∧FX Tryz.prog 6 args objs q.1 q.2∧HasBody Tryz.prog 6:=by
 unfold ct6 at h
 split at h
 ·rename_i l hl
  obtain⟨x,hx,hk⟩:=Option.bind_eq_some_iff.1 h
  obtain⟨h1,h2⟩:=sel0_ok hl
  cases m with
  |zero=>cases hx
  |succ m=>exact⟨_,hk,(law36_ReshapeNear_fx m (hct m (Nat.lt_succ_self m)) _ _ _ _ hx).conv h1 h2,⟨_,Tryz.func6,rfl,by decide⟩⟩
 cases h
theorem ct10_ok (m:Nat) (hct:∀k,k<m→∀R,CallOK (R:=R) Tryz.prog (ct k)) {R:Type} {args:List AV} {objs:List Ob} {K:Res→Option R} {r:R} (h:ct10 m args objs K=some r):∃q:Res,K q=some r∧FX Tryz.prog 10 args objs q.1 q.2∧HasBody Tryz.prog 10:=by
 unfold ct10 at h
 split at h
 ·rename_i l hl
  obtain⟨x,hx,hk⟩:=Option.bind_eq_some_iff.1 h
  obtain⟨h1,h2⟩:=sel1_ok hl
  cases m with
  |zero=>cases hx
  |succ m=>exact⟨_,hk,(law36_valid_fx m (hct m (Nat.lt_succ_self m)) _ hx).conv h1 h2,⟨_,Tryz.func10,rfl,by decide⟩⟩
 cases h
theorem ct13_ok (m:Nat) (hct:∀k,k<m→∀R,CallOK (R:=R) Tryz.prog (ct k)) {R:Type} {args:List AV} {objs:List Ob} {K:Res→Option R} {r:R} (h:ct13 m args objs K=some r):∃q:Res,K q=some r∧FX Tryz.prog 13 args objs q.1 q.2∧HasBody Tryz.prog 13:=by
 unfold ct13 at h
 split at h
 ·rename_i l hl
  obtain⟨x,hx,hk⟩:=Option.bind_eq_some_iff.1 h
  obtain⟨h1,h2⟩:=sel2_ok hl
  exact⟨_,hk,(awakeC_fx hx).conv h1 h2,⟨_,Tryz.func13,rfl,by decide⟩⟩
 cases h
theorem ct27_ok (m:Nat) (hct:∀k,k<m→∀R,CallOK (R:=R) Tryz.prog (ct k)) {R:Type} {args:List AV} {objs:List Ob} {K:Res→Option R} {r:R} (h:ct27 m args objs K=some r):∃q:Res,K q=some r∧FX Tryz.prog 27 args objs q.1 q.2∧HasBody Tryz.prog 27:=by
 unfold ct27 at h
 split at h
 ·rename_i l hl
  obtain⟨x,hx,hk⟩:=Option.bind_eq_some_iff.1 h
  obtain⟨h1,h2⟩:=sel0_ok hl
  cases m with
  |zero=>cases hx
  |succ m=>exact⟨_,hk,(reshape_Near_fx m (hct m (Nat.lt_succ_self m)) _ _ _ _ hx).conv h1 h2,⟨_,Tryz.func27,rfl,by decide⟩⟩
 cases h
theorem ct28_ok (m:Nat) (hct:∀k,k<m→∀R,CallOK (R:=R) Tryz.prog (ct k)) {R:Type} {args:List AV} {objs:List Ob} {K:Res→Option R} {r:R} (h:ct28 m args objs K=some r):∃q:Res,K q=some r∧FX Tryz.prog 28 args objs q.1 q.2∧HasBody Tryz.prog 28:=by
 unfold ct28 at h
 split at h
 ·rename_i l hl
  obtain⟨x,hx,hk⟩:=Option.bind_eq_some_iff.1 h
  obtain⟨h1,h2⟩:=sel0_ok hl
  cases m with
  |zero=>cases hx
  |succ m=>exact⟨_,hk,(ref36_Near_fx m (hct m (Nat.lt_succ_self m)) _ _ _ _ hx).conv h1 h2,⟨_,Tryz.func28,rfl,by decide⟩⟩
 cases h
theorem ct14_ok (m:Nat) (hct:∀k,k<m→∀R,CallOK (R:=R) Tryz.prog (ct k)) {R:Type} {args:List AV} {objs:List Ob} {K:Res→Option R} {r:R} (h:ct14 m args objs K=some r):∃q:Res,K q=some r∧FX Tryz.prog 14 args objs q.1 q.2∧HasBody Tryz.prog 14:=by
 unfold ct14 at h
 split at h
 ·rename_i l hl
  obtain⟨x,hx,hk⟩:=Option.bind_eq_some_iff.1 h
  obtain⟨h1,h2⟩:=sel5_ok hl
  cases m with
  |zero=>cases hx
  |succ m=>exact⟨_,hk,(law03_SameList_fx m (hct m (Nat.lt_succ_self m)) _ _ hx).conv h1 h2,⟨_,Tryz.func14,rfl,by decide⟩⟩
 cases h
theorem ct11_ok (m:Nat) (hct:∀k,k<m→∀R,CallOK (R:=R) Tryz.prog (ct k)) {R:Type} {args:List AV} {objs:List Ob} {K:Res→Option R} {r:R} (h:ct11 m args objs K=some r):∃q:Res,K q=some r∧FX Tryz.prog 11 args objs q.1 q.2∧HasBody Tryz.prog 11:=by
 unfold ct11 at h
 split at h
 ·rename_i l hl
  obtain⟨x,hx,hk⟩:=Option.bind_eq_some_iff.1 h
  obtain⟨h1,h2⟩:=sel6_ok hl
  cases m with
  |zero=>cases hx
  |succ m=>exact⟨_,hk,(ref04_Valid_fx m (hct m (Nat.lt_succ_self m)) _ hx).conv h1 h2,⟨_,Tryz.func11,rfl,by decide⟩⟩
 cases h
theorem ct12_ok (m:Nat) (hct:∀k,k<m→∀R,CallOK (R:=R) Tryz.prog (ct k)) {R:Type} {args:List AV} {objs:List Ob} {K:Res→Option R} {r:R} (h:ct12 m args objs K=some r):∃q:Res,K q=some r∧FX Tryz.prog 12 args objs q.1 q.2∧HasBody Tryz.prog 12:=by
 unfold ct12 at h
 split at h
 ·rename_i l hl
  obtain⟨x,hx,hk⟩:=Option.bind_eq_some_iff.1 h
  obtain⟨h1,h2⟩:=sel7_ok hl
  cases m with
  |zero=>cases hx
  |succ m=>exact⟨_,hk,(law36_named_fx m (hct m (Nat.lt_succ_self m)) _ hx).conv h1 h2,⟨_,Tryz.func12,rfl,by decide⟩⟩
 cases h
theorem ct22_ok (m:Nat) (hct:∀k,k<m→∀R,CallOK (R:=R) Tryz.prog (ct k)) {R:Type} {args:List AV} {objs:List Ob} {K:Res→Option R} {r:R} (h:ct22 m args objs K=some r):∃q:Res,K q=some r∧FX Tryz.prog 22 args objs q.1 q.2∧HasBody Tryz.prog 22:=by
 unfold ct22 at h
 split at h
 ·rename_i l hl
  obtain⟨x,hx,hk⟩:=Option.bind_eq_some_iff.1 h
  obtain⟨h1,h2⟩:=sel8_ok hl
  cases m with
  |zero=>cases hx
  |succ m=>exact⟨_,hk,(i8_fx m (hct m (Nat.lt_succ_self m)) _ hx).conv h1 h2,⟨_,Tryz.func22,rfl,by decide⟩⟩
 cases h
theorem ct67_ok (m:Nat) (hct:∀k,k<m→∀R,CallOK (R:=R) Tryz.prog (ct k)) {R:Type} {args:List AV} {objs:List Ob} {K:Res→Option R} {r:R} (h:ct67 m args objs K=some r):∃q:Res,K q=some r∧FX Tryz.prog 67 args objs q.1 q.2∧HasBody Tryz.prog 67:=by
 unfold ct67 at h
 split at h
 ·rename_i l hl
  obtain⟨x,hx,hk⟩:=Option.bind_eq_some_iff.1 h
  obtain⟨h1,h2⟩:=sel8_ok hl
  cases m with
  |zero=>cases hx
  |succ m=>exact⟨_,hk,(i9_fx m (hct m (Nat.lt_succ_self m)) _ hx).conv h1 h2,⟨_,Tryz.func67,rfl,by decide⟩⟩
 cases h
theorem ct41_ok (m:Nat) (hct:∀k,k<m→∀R,CallOK (R:=R) Tryz.prog (ct k)) {R:Type} {args:List AV} {objs:List Ob} {K:Res→Option R} {r:R} (h:ct41 m args objs K=some r):∃q:Res,K q=some r∧FX Tryz.prog 41 args objs q.1 q.2∧HasBody Tryz.prog 41:=by
 unfold ct41 at h
 split at h
 ·rename_i l hl
  obtain⟨x,hx,hk⟩:=Option.bind_eq_some_iff.1 h
  obtain⟨h1,h2⟩:=sel10_ok hl
  cases m with
  |zero=>cases hx
  |succ m=>exact⟨_,hk,(law36_valid_1_fx m (hct m (Nat.lt_succ_self m)) _ hx).conv h1 h2,⟨_,Tryz.func41,rfl,by decide⟩⟩
 cases h
theorem ct74_ok (m:Nat) (hct:∀k,k<m→∀R,CallOK (R:=R) Tryz.prog (ct k)) {R:Type} {args:List AV} {objs:List Ob} {K:Res→Option R} {r:R} (h:ct74 m args objs K=some r):∃q:Res,K q=some r∧FX Tryz.prog 74 args objs q.1 q.2∧HasBody Tryz.prog 74:=by
 unfold ct74 at h
 split at h
 ·rename_i l hl
  obtain⟨x,hx,hk⟩:=Option.bind_eq_some_iff.1 h
  obtain⟨h1,h2⟩:=sel11_ok hl
  cases m with
  |zero=>cases hx
  |succ m=>exact⟨_,hk,(reshape_nearest_fx m (hct m (Nat.lt_succ_self m)) _ _ _ hx).conv h1 h2,⟨_,Tryz.func74,rfl,by decide⟩⟩
 cases h
theorem ct75_ok (m:Nat) (hct:∀k,k<m→∀R,CallOK (R:=R) Tryz.prog (ct k)) {R:Type} {args:List AV} {objs:List Ob} {K:Res→Option R} {r:R} (h:ct75 m args objs K=some r):∃q:Res,K q=some r∧FX Tryz.prog 75 args objs q.1 q.2∧HasBody Tryz.prog 75:=by
 unfold ct75 at h
 split at h
 ·rename_i l hl
  obtain⟨x,hx,hk⟩:=Option.bind_eq_some_iff.1 h
  obtain⟨h1,h2⟩:=sel12_ok hl
  cases m with
  |zero=>cases hx
  |succ m=>exact⟨_,hk,(i12_fx m (hct m (Nat.lt_succ_self m)) _ hx).conv h1 h2,⟨_,Tryz.func75,rfl,by decide⟩⟩
 cases h
theorem ct122_ok (m:Nat) (hct:∀k,k<m→∀R,CallOK (R:=R) Tryz.prog (ct k)) {R:Type} {args:List AV} {objs:List Ob} {K:Res→Option R} {r:R} (h:ct122 m args objs K=some r):∃q:Res,K q=some r∧FX Tryz.prog 122 args objs q.1 q.2∧HasBody Tryz.prog 122:=by
 unfold ct122 at h
 split at h
 ·rename_i l hl
  obtain⟨x,hx,hk⟩:=Option.bind_eq_some_iff.1 h
  obtain⟨h1,h2⟩:=sel13_ok hl
  cases m with
  |zero=>cases hx
  |succ m=>exact⟨_,hk,(i13_fx m (hct m (Nat.lt_succ_self m)) _ _ hx).conv h1 h2,⟨_,Tryz.func122,rfl,by decide⟩⟩
 cases h
theorem ct168_ok (m:Nat) (hct:∀k,k<m→∀R,CallOK (R:=R) Tryz.prog (ct k)) {R:Type} {args:List AV} {objs:List Ob} {K:Res→Option R} {r:R} (h:ct168 m args objs K=some r):∃q:Res,K q=some r∧FX Tryz.prog 168 args objs q.1 q.2∧HasBody Tryz.prog 168:=by
 unfold ct168 at h
 split at h
 ·rename_i l hl
  obtain⟨x,hx,hk⟩:=Option.bind_eq_some_iff.1 h
  obtain⟨h1,h2⟩:=sel14_ok hl
  cases m with
  |zero=>cases hx
  |succ m=>exact⟨_,hk,(i14_fx m (hct m (Nat.lt_succ_self m)) _ _ _ hx).conv h1 h2,⟨_,Tryz.func168,rfl,by decide⟩⟩
 cases h
theorem ct76_ok (m:Nat) (hct:∀k,k<m→∀R,CallOK (R:=R) Tryz.prog (ct k)) {R:Type} {args:List AV} {objs:List Ob} {K:Res→Option R} {r:R} (h:ct76 m args objs K=some r):∃q:Res,K q=some r∧FX Tryz.prog 76 args objs q.1 q.2∧HasBody Tryz.prog 76:=by
 unfold ct76 at h
 split at h
 ·rename_i l hl
  obtain⟨x,hx,hk⟩:=Option.bind_eq_some_iff.1 h
  obtain⟨h1,h2⟩:=sel15_ok hl
  cases m with
  |zero=>cases hx
  |succ m=>exact⟨_,hk,(reshape_Near_1_fx m (hct m (Nat.lt_succ_self m)) _ _ hx).conv h1 h2,⟨_,Tryz.func76,rfl,by decide⟩⟩
 cases h
theorem ct169_ok (m:Nat) (hct:∀k,k<m→∀R,CallOK (R:=R) Tryz.prog (ct k)) {R:Type} {args:List AV} {objs:List Ob} {K:Res→Option R} {r:R} (h:ct169 m args objs K=some r):∃q:Res,K q=some r∧FX Tryz.prog 169 args objs q.1 q.2∧HasBody Tryz.prog 169:=by
 unfold ct169 at h
 split at h
 ·rename_i l hl
  obtain⟨x,hx,hk⟩:=Option.bind_eq_some_iff.1 h
  obtain⟨h1,h2⟩:=sel16_ok hl
  cases m with
  |zero=>cases hx
  |succ m=>exact⟨_,hk,(i16_fx m (hct m (Nat.lt_succ_self m)) _ _ _ _ hx).conv h1 h2,⟨_,Tryz.func169,rfl,by decide⟩⟩
 cases h
theorem ct220_ok (m:Nat) (hct:∀k,k<m→∀R,CallOK (R:=R) Tryz.prog (ct k)) {R:Type} {args:List AV} {objs:List Ob} {K:Res→Option R} {r:R} (h:ct220 m args objs K=some r):∃q:Res,K q=some r∧FX Tryz.prog 220 args objs q.1 q.2∧HasBody Tryz.prog 220:=by
 unfold ct220 at h
 split at h
 ·rename_i l hl
  obtain⟨x,hx,hk⟩:=Option.bind_eq_some_iff.1 h
  obtain⟨h1,h2⟩:=sel16_ok hl
  cases m with
  |zero=>cases hx
  |succ m=>exact⟨_,hk,(i17_fx m (hct m (Nat.lt_succ_self m)) _ _ _ _ hx).conv h1 h2,⟨_,Tryz.func220,rfl,by decide⟩⟩
 cases h
theorem ct252_ok (m:Nat) (hct:∀k,k<m→∀R,CallOK (R:=R) Tryz.prog (ct k)) {R:Type} {args:List AV} {objs:List Ob} {K:Res→Option R} {r:R} (h:ct252 m args objs K=some r):∃q:Res,K q=some r∧FX Tryz.prog 252 args objs q.1 q.2∧HasBody Tryz.prog 252:=by
 unfold ct252 at h
 split at h
 ·rename_i l hl
  obtain⟨x,hx,hk⟩:=Option.bind_eq_some_iff.1 h
  obtain⟨h1,h2⟩:=sel16_ok hl
  cases m with
  |zero=>cases hx
  |succ m=>exact⟨_,hk,(i18_fx m (hct m (Nat.lt_succ_self m)) _ _ _ _ hx).conv h1 h2,⟨_,Tryz.func252,rfl,by decide⟩⟩
 cases h
theorem ct72_ok (m:Nat) (hct:∀k,k<m→∀R,CallOK (R:=R) Tryz.prog (ct k)) {R:Type} {args:List AV} {objs:List Ob} {K:Res→Option R} {r:R} (h:ct72 m args objs K=some r):∃q:Res,K q=some r∧FX Tryz.prog 72 args objs q.1 q.2∧HasBody Tryz.prog 72:=by
 unfold ct72 at h
 split at h
 ·rename_i l hl
  obtain⟨x,hx,hk⟩:=Option.bind_eq_some_iff.1 h
  obtain⟨h1,h2⟩:=sel10_ok hl
  cases m with
  |zero=>cases hx
  |succ m=>exact⟨_,hk,(reshape_copyValue_fx m (hct m (Nat.lt_succ_self m)) _ hx).conv h1 h2,⟨_,Tryz.func72,rfl,by decide⟩⟩
 cases h
theorem ct62_ok (m:Nat) (hct:∀k,k<m→∀R,CallOK (R:=R) Tryz.prog (ct k)) {R:Type} {args:List AV} {objs:List Ob} {K:Res→Option R} {r:R} (h:ct62 m args objs K=some r):∃q:Res,K q=some r∧FX Tryz.prog 62 args objs q.1 q.2∧HasBody Tryz.prog 62:=by
 unfold ct62 at h
 split at h
 ·rename_i l hl
  obtain⟨x,hx,hk⟩:=Option.bind_eq_some_iff.1 h
  obtain⟨h1,h2⟩:=sel20_ok hl
  cases m with
  |zero=>cases hx
  |succ m=>exact⟨_,hk,(reshape_integer_fx m (hct m (Nat.lt_succ_self m)) _ hx).conv h1 h2,⟨_,Tryz.func62,rfl,by decide⟩⟩
 cases h
theorem ct77_ok (m:Nat) (hct:∀k,k<m→∀R,CallOK (R:=R) Tryz.prog (ct k)) {R:Type} {args:List AV} {objs:List Ob} {K:Res→Option R} {r:R} (h:ct77 m args objs K=some r):∃q:Res,K q=some r∧FX Tryz.prog 77 args objs q.1 q.2∧HasBody Tryz.prog 77:=by
 unfold ct77 at h
 split at h
 ·rename_i l hl
  obtain⟨x,hx,hk⟩:=Option.bind_eq_some_iff.1 h
  obtain⟨h1,h2⟩:=sel21_ok hl
  cases m with
  |zero=>cases hx
  |succ m=>exact⟨_,hk,(reshape_named_fx m (hct m (Nat.lt_succ_self m)) _ _ _ hx).conv h1 h2,⟨_,Tryz.func77,rfl,by decide⟩⟩
 cases h
theorem ct73_ok (m:Nat) (hct:∀k,k<m→∀R,CallOK (R:=R) Tryz.prog (ct k)) {R:Type} {args:List AV} {objs:List Ob} {K:Res→Option R} {r:R} (h:ct73 m args objs K=some r):∃q:Res,K q=some r∧FX Tryz.prog 73 args objs q.1 q.2∧HasBody Tryz.prog 73:=by
 unfold ct73 at h
 split at h
 ·rename_i l hl
  obtain⟨x,hx,hk⟩:=Option.bind_eq_some_iff.1 h
  obtain⟨h1,h2⟩:=sel22_ok hl
  cases m with
  |zero=>cases hx
  |succ m=>exact⟨_,hk,(geo_Valid_fx m (hct m (Nat.lt_succ_self m)) _ hx).conv h1 h2,⟨_,Tryz.func73,rfl,by decide⟩⟩
 cases h
theorem ct79_ok (m:Nat) (hct:∀k,k<m→∀R,CallOK (R:=R) Tryz.prog (ct k)) {R:Type} {args:List AV} {objs:List Ob} {K:Res→Option R} {r:R} (h:ct79 m args objs K=some r):∃q:Res,K q=some r∧FX Tryz.prog 79 args objs q.1 q.2∧HasBody Tryz.prog 79:=by
 unfold ct79 at h
 split at h
 ·rename_i l hl
  obtain⟨x,hx,hk⟩:=Option.bind_eq_some_iff.1 h
  obtain⟨h1,h2⟩:=sel11_ok hl
  cases m with
  |zero=>cases hx
  |succ m=>exact⟨_,hk,(ref36_Distance_fx m (hct m (Nat.lt_succ_self m)) _ _ _ hx).conv h1 h2,⟨_,Tryz.func79,rfl,by decide⟩⟩
 cases h
theorem ct51_ok (m:Nat) (hct:∀k,k<m→∀R,CallOK (R:=R) Tryz.prog (ct k)) {R:Type} {args:List AV} {objs:List Ob} {K:Res→Option R} {r:R} (h:ct51 m args objs K=some r):∃q:Res,K q=some r∧FX Tryz.prog 51 args objs q.1 q.2∧HasBody Tryz.prog 51:=by
 unfold ct51 at h
 split at h
 ·rename_i l hl
  obtain⟨x,hx,hk⟩:=Option.bind_eq_some_iff.1 h
  obtain⟨h1,h2⟩:=sel20_ok hl
  cases m with
  |zero=>cases hx
  |succ m=>exact⟨_,hk,(ref36_integer_fx m (hct m (Nat.lt_succ_self m)) _ hx).conv h1 h2,⟨_,Tryz.func51,rfl,by decide⟩⟩
 cases h
theorem ct50_ok (m:Nat) (hct:∀k,k<m→∀R,CallOK (R:=R) Tryz.prog (ct k)) {R:Type} {args:List AV} {objs:List Ob} {K:Res→Option R} {r:R} (h:ct50 m args objs K=some r):∃q:Res,K q=some r∧FX Tryz.prog 50 args objs q.1 q.2∧HasBody Tryz.prog 50:=by
 unfold ct50 at h
 split at h
 ·rename_i l hl
  obtain⟨x,hx,hk⟩:=Option.bind_eq_some_iff.1 h
  obtain⟨h1,h2⟩:=sel21_ok hl
  cases m with
  |zero=>cases hx
  |succ m=>exact⟨_,hk,(ref36_with_fx m (hct m (Nat.lt_succ_self m)) _ _ _ hx).conv h1 h2,⟨_,Tryz.func50,rfl,by decide⟩⟩
 cases h
theorem ct78_ok (m:Nat) (hct:∀k,k<m→∀R,CallOK (R:=R) Tryz.prog (ct k)) {R:Type} {args:List AV} {objs:List Ob} {K:Res→Option R} {r:R} (h:ct78 m args objs K=some r):∃q:Res,K q=some r∧FX Tryz.prog 78 args objs q.1 q.2∧HasBody Tryz.prog 78:=by
 unfold ct78 at h
 split at h
 ·rename_i l hl
  obtain⟨x,hx,hk⟩:=Option.bind_eq_some_iff.1 h
  obtain⟨h1,h2⟩:=sel22_ok hl
  cases m with
  |zero=>cases hx
  |succ m=>exact⟨_,hk,(ref10_Valid_fx m (hct m (Nat.lt_succ_self m)) _ hx).conv h1 h2,⟨_,Tryz.func78,rfl,by decide⟩⟩
 cases h
theorem ct46_ok (m:Nat) (hct:∀k,k<m→∀R,CallOK (R:=R) Tryz.prog (ct k)) {R:Type} {args:List AV} {objs:List Ob} {K:Res→Option R} {r:R} (h:ct46 m args objs K=some r):∃q:Res,K q=some r∧FX Tryz.prog 46 args objs q.1 q.2∧HasBody Tryz.prog 46:=by
 unfold ct46 at h
 split at h
 ·rename_i l hl
  obtain⟨x,hx,hk⟩:=Option.bind_eq_some_iff.1 h
  obtain⟨h1,h2⟩:=sel27_ok hl
  cases m with
  |zero=>cases hx
  |succ m=>exact⟨_,hk,(law03_Same_fx m (hct m (Nat.lt_succ_self m)) _ _ hx).conv h1 h2,⟨_,Tryz.func46,rfl,by decide⟩⟩
 cases h
theorem ct42_ok (m:Nat) (hct:∀k,k<m→∀R,CallOK (R:=R) Tryz.prog (ct k)) {R:Type} {args:List AV} {objs:List Ob} {K:Res→Option R} {r:R} (h:ct42 m args objs K=some r):∃q:Res,K q=some r∧FX Tryz.prog 42 args objs q.1 q.2∧HasBody Tryz.prog 42:=by
 unfold ct42 at h
 split at h
 ·rename_i l hl
  obtain⟨x,hx,hk⟩:=Option.bind_eq_some_iff.1 h
  obtain⟨h1,h2⟩:=sel7_ok hl
  cases m with
  |zero=>cases hx
  |succ m=>exact⟨_,hk,(ref01_Name_fx m (hct m (Nat.lt_succ_self m)) _ hx).conv h1 h2,⟨_,Tryz.func42,rfl,by decide⟩⟩
 cases h
theorem ct24_ok (m:Nat) (hct:∀k,k<m→∀R,CallOK (R:=R) Tryz.prog (ct k)) {R:Type} {args:List AV} {objs:List Ob} {K:Res→Option R} {r:R} (h:ct24 m args objs K=some r):∃q:Res,K q=some r∧FX Tryz.prog 24 args objs q.1 q.2∧HasBody Tryz.prog 24:=by
 unfold ct24 at h
 split at h
 ·rename_i l hl
  obtain⟨x,hx,hk⟩:=Option.bind_eq_some_iff.1 h
  obtain⟨h1,h2⟩:=sel10_ok hl
  cases m with
  |zero=>cases hx
  |succ m=>exact⟨_,hk,(ref01_Valid_fx m (hct m (Nat.lt_succ_self m)) _ hx).conv h1 h2,⟨_,Tryz.func24,rfl,by decide⟩⟩
 cases h
theorem ct118_ok (m:Nat) (hct:∀k,k<m→∀R,CallOK (R:=R) Tryz.prog (ct k)) {R:Type} {args:List AV} {objs:List Ob} {K:Res→Option R} {r:R} (h:ct118 m args objs K=some r):∃q:Res,K q=some r∧FX Tryz.prog 118 args objs q.1 q.2∧HasBody Tryz.prog 118:=by
 unfold ct118 at h
 split at h
 ·rename_i l hl
  obtain⟨x,hx,hk⟩:=Option.bind_eq_some_iff.1 h
  obtain⟨h1,h2⟩:=sel30_ok hl
  cases m with
  |zero=>cases hx
  |succ m=>exact⟨_,hk,(path_Leaves_fx m (hct m (Nat.lt_succ_self m)) _ _ hx).conv h1 h2,⟨_,Tryz.func118,rfl,by decide⟩⟩
 cases h
theorem ct119_ok (m:Nat) (hct:∀k,k<m→∀R,CallOK (R:=R) Tryz.prog (ct k)) {R:Type} {args:List AV} {objs:List Ob} {K:Res→Option R} {r:R} (h:ct119 m args objs K=some r):∃q:Res,K q=some r∧FX Tryz.prog 119 args objs q.1 q.2∧HasBody Tryz.prog 119:=by
 unfold ct119 at h
 split at h
 ·rename_i l hl
  obtain⟨x,hx,hk⟩:=Option.bind_eq_some_iff.1 h
  obtain⟨h1,h2⟩:=sel10_ok hl
  cases m with
  |zero=>cases hx
  |succ m=>exact⟨_,hk,(geo_Point_fx m (hct m (Nat.lt_succ_self m)) _ hx).conv h1 h2,⟨_,Tryz.func119,rfl,by decide⟩⟩
 cases h
theorem ct120_ok (m:Nat) (hct:∀k,k<m→∀R,CallOK (R:=R) Tryz.prog (ct k)) {R:Type} {args:List AV} {objs:List Ob} {K:Res→Option R} {r:R} (h:ct120 m args objs K=some r):∃q:Res,K q=some r∧FX Tryz.prog 120 args objs q.1 q.2∧HasBody Tryz.prog 120:=by
 unfold ct120 at h
 split at h
 ·rename_i l hl
  obtain⟨x,hx,hk⟩:=Option.bind_eq_some_iff.1 h
  obtain⟨h1,h2⟩:=sel32_ok hl
  cases m with
  |zero=>cases hx
  |succ m=>exact⟨_,hk,(geo_Inside_fx m (hct m (Nat.lt_succ_self m)) _ _ hx).conv h1 h2,⟨_,Tryz.func120,rfl,by decide⟩⟩
 cases h
theorem ct121_ok (m:Nat) (hct:∀k,k<m→∀R,CallOK (R:=R) Tryz.prog (ct k)) {R:Type} {args:List AV} {objs:List Ob} {K:Res→Option R} {r:R} (h:ct121 m args objs K=some r):∃q:Res,K q=some r∧FX Tryz.prog 121 args objs q.1 q.2∧HasBody Tryz.prog 121:=by
 unfold ct121 at h
 split at h
 ·rename_i l hl
  obtain⟨x,hx,hk⟩:=Option.bind_eq_some_iff.1 h
  obtain⟨h1,h2⟩:=sel33_ok hl
  cases m with
  |zero=>cases hx
  |succ m=>exact⟨_,hk,(geo_Distance_fx m (hct m (Nat.lt_succ_self m)) _ _ hx).conv h1 h2,⟨_,Tryz.func121,rfl,by decide⟩⟩
 cases h
theorem ct123_ok (m:Nat) (hct:∀k,k<m→∀R,CallOK (R:=R) Tryz.prog (ct k)) {R:Type} {args:List AV} {objs:List Ob} {K:Res→Option R} {r:R} (h:ct123 m args objs K=some r):∃q:Res,K q=some r∧FX Tryz.prog 123 args objs q.1 q.2∧HasBody Tryz.prog 123:=by
 unfold ct123 at h
 split at h
 ·rename_i l hl
  obtain⟨x,hx,hk⟩:=Option.bind_eq_some_iff.1 h
  obtain⟨h1,h2⟩:=sel21_ok hl
  cases m with
  |zero=>cases hx
  |succ m=>exact⟨_,hk,(value_Set_fx m (hct m (Nat.lt_succ_self m)) _ _ _ hx).conv h1 h2,⟨_,Tryz.func123,rfl,by decide⟩⟩
 cases h
theorem ct117_ok (m:Nat) (hct:∀k,k<m→∀R,CallOK (R:=R) Tryz.prog (ct k)) {R:Type} {args:List AV} {objs:List Ob} {K:Res→Option R} {r:R} (h:ct117 m args objs K=some r):∃q:Res,K q=some r∧FX Tryz.prog 117 args objs q.1 q.2∧HasBody Tryz.prog 117:=by
 unfold ct117 at h
 split at h
 ·rename_i l hl
  obtain⟨x,hx,hk⟩:=Option.bind_eq_some_iff.1 h
  obtain⟨h1,h2⟩:=sel35_ok hl
  cases m with
  |zero=>cases hx
  |succ m=>exact⟨_,hk,(geo_isPoint_fx m (hct m (Nat.lt_succ_self m)) _ hx).conv h1 h2,⟨_,Tryz.func117,rfl,by decide⟩⟩
 cases h
theorem ct116_ok (m:Nat) (hct:∀k,k<m→∀R,CallOK (R:=R) Tryz.prog (ct k)) {R:Type} {args:List AV} {objs:List Ob} {K:Res→Option R} {r:R} (h:ct116 m args objs K=some r):∃q:Res,K q=some r∧FX Tryz.prog 116 args objs q.1 q.2∧HasBody Tryz.prog 116:=by
 unfold ct116 at h
 split at h
 ·rename_i l hl
  obtain⟨x,hx,hk⟩:=Option.bind_eq_some_iff.1 h
  obtain⟨h1,h2⟩:=sel20_ok hl
  cases m with
  |zero=>cases hx
  |succ m=>exact⟨_,hk,(geo_isCoordinate_fx m (hct m (Nat.lt_succ_self m)) _ hx).conv h1 h2,⟨_,Tryz.func116,rfl,by decide⟩⟩
 cases h
theorem ct126_ok (m:Nat) (hct:∀k,k<m→∀R,CallOK (R:=R) Tryz.prog (ct k)) {R:Type} {args:List AV} {objs:List Ob} {K:Res→Option R} {r:R} (h:ct126 m args objs K=some r):∃q:Res,K q=some r∧FX Tryz.prog 126 args objs q.1 q.2∧HasBody Tryz.prog 126:=by
 unfold ct126 at h
 split at h
 ·rename_i l hl
  obtain⟨x,hx,hk⟩:=Option.bind_eq_some_iff.1 h
  obtain⟨h1,h2⟩:=sel30_ok hl
  cases m with
  |zero=>cases hx
  |succ m=>exact⟨_,hk,(ref04_Leaves_fx m (hct m (Nat.lt_succ_self m)) _ _ hx).conv h1 h2,⟨_,Tryz.func126,rfl,by decide⟩⟩
 cases h
theorem ct127_ok (m:Nat) (hct:∀k,k<m→∀R,CallOK (R:=R) Tryz.prog (ct k)) {R:Type} {args:List AV} {objs:List Ob} {K:Res→Option R} {r:R} (h:ct127 m args objs K=some r):∃q:Res,K q=some r∧FX Tryz.prog 127 args objs q.1 q.2∧HasBody Tryz.prog 127:=by
 unfold ct127 at h
 split at h
 ·rename_i l hl
  obtain⟨x,hx,hk⟩:=Option.bind_eq_some_iff.1 h
  obtain⟨h1,h2⟩:=sel10_ok hl
  cases m with
  |zero=>cases hx
  |succ m=>exact⟨_,hk,(ref10_Point_fx m (hct m (Nat.lt_succ_self m)) _ hx).conv h1 h2,⟨_,Tryz.func127,rfl,by decide⟩⟩
 cases h
theorem ct128_ok (m:Nat) (hct:∀k,k<m→∀R,CallOK (R:=R) Tryz.prog (ct k)) {R:Type} {args:List AV} {objs:List Ob} {K:Res→Option R} {r:R} (h:ct128 m args objs K=some r):∃q:Res,K q=some r∧FX Tryz.prog 128 args objs q.1 q.2∧HasBody Tryz.prog 128:=by
 unfold ct128 at h
 split at h
 ·rename_i l hl
  obtain⟨x,hx,hk⟩:=Option.bind_eq_some_iff.1 h
  obtain⟨h1,h2⟩:=sel32_ok hl
  cases m with
  |zero=>cases hx
  |succ m=>exact⟨_,hk,(ref10_Inside_fx m (hct m (Nat.lt_succ_self m)) _ _ hx).conv h1 h2,⟨_,Tryz.func128,rfl,by decide⟩⟩
 cases h
theorem ct129_ok (m:Nat) (hct:∀k,k<m→∀R,CallOK (R:=R) Tryz.prog (ct k)) {R:Type} {args:List AV} {objs:List Ob} {K:Res→Option R} {r:R} (h:ct129 m args objs K=some r):∃q:Res,K q=some r∧FX Tryz.prog 129 args objs q.1 q.2∧HasBody Tryz.prog 129:=by
 unfold ct129 at h
 split at h
 ·rename_i l hl
  obtain⟨x,hx,hk⟩:=Option.bind_eq_some_iff.1 h
  obtain⟨h1,h2⟩:=sel33_ok hl
  cases m with
  |zero=>cases hx
  |succ m=>exact⟨_,hk,(ref10_Distance_fx m (hct m (Nat.lt_succ_self m)) _ _ hx).conv h1 h2,⟨_,Tryz.func129,rfl,by decide⟩⟩
 cases h
theorem ct99_ok (m:Nat) (hct:∀k,k<m→∀R,CallOK (R:=R) Tryz.prog (ct k)) {R:Type} {args:List AV} {objs:List Ob} {K:Res→Option R} {r:R} (h:ct99 m args objs K=some r):∃q:Res,K q=some r∧FX Tryz.prog 99 args objs q.1 q.2∧HasBody Tryz.prog 99:=by
 unfold ct99 at h
 split at h
 ·rename_i l hl
  obtain⟨x,hx,hk⟩:=Option.bind_eq_some_iff.1 h
  obtain⟨h1,h2⟩:=sel21_ok hl
  cases m with
  |zero=>cases hx
  |succ m=>exact⟨_,hk,(ref01_Set_fx m (hct m (Nat.lt_succ_self m)) _ _ _ hx).conv h1 h2,⟨_,Tryz.func99,rfl,by decide⟩⟩
 cases h
theorem ct124_ok (m:Nat) (hct:∀k,k<m→∀R,CallOK (R:=R) Tryz.prog (ct k)) {R:Type} {args:List AV} {objs:List Ob} {K:Res→Option R} {r:R} (h:ct124 m args objs K=some r):∃q:Res,K q=some r∧FX Tryz.prog 124 args objs q.1 q.2∧HasBody Tryz.prog 124:=by
 unfold ct124 at h
 split at h
 ·rename_i l hl
  obtain⟨x,hx,hk⟩:=Option.bind_eq_some_iff.1 h
  obtain⟨h1,h2⟩:=sel35_ok hl
  cases m with
  |zero=>cases hx
  |succ m=>exact⟨_,hk,(ref10_Is_fx m (hct m (Nat.lt_succ_self m)) _ hx).conv h1 h2,⟨_,Tryz.func124,rfl,by decide⟩⟩
 cases h
theorem ct125_ok (m:Nat) (hct:∀k,k<m→∀R,CallOK (R:=R) Tryz.prog (ct k)) {R:Type} {args:List AV} {objs:List Ob} {K:Res→Option R} {r:R} (h:ct125 m args objs K=some r):∃q:Res,K q=some r∧FX Tryz.prog 125 args objs q.1 q.2∧HasBody Tryz.prog 125:=by
 unfold ct125 at h
 split at h
 ·rename_i l hl
  obtain⟨x,hx,hk⟩:=Option.bind_eq_some_iff.1 h
  obtain⟨h1,h2⟩:=sel20_ok hl
  cases m with
  |zero=>cases hx
  |succ m=>exact⟨_,hk,(ref10_in_fx m (hct m (Nat.lt_succ_self m)) _ hx).conv h1 h2,⟨_,Tryz.func125,rfl,by decide⟩⟩
 cases h
theorem ct68_ok (m:Nat) (hct:∀k,k<m→∀R,CallOK (R:=R) Tryz.prog (ct k)) {R:Type} {args:List AV} {objs:List Ob} {K:Res→Option R} {r:R} (h:ct68 m args objs K=some r):∃q:Res,K q=some r∧FX Tryz.prog 68 args objs q.1 q.2∧HasBody Tryz.prog 68:=by
 unfold ct68 at h
 split at h
 ·rename_i l hl
  obtain⟨x,hx,hk⟩:=Option.bind_eq_some_iff.1 h
  obtain⟨h1,h2⟩:=sel10_ok hl
  cases m with
  |zero=>cases hx
  |succ m=>exact⟨_,hk,(ref01_Depth_fx m (hct m (Nat.lt_succ_self m)) _ hx).conv h1 h2,⟨_,Tryz.func68,rfl,by decide⟩⟩
 cases h
theorem ct69_ok (m:Nat) (hct:∀k,k<m→∀R,CallOK (R:=R) Tryz.prog (ct k)) {R:Type} {args:List AV} {objs:List Ob} {K:Res→Option R} {r:R} (h:ct69 m args objs K=some r):∃q:Res,K q=some r∧FX Tryz.prog 69 args objs q.1 q.2∧HasBody Tryz.prog 69:=by
 unfold ct69 at h
 split at h
 ·rename_i l hl
  obtain⟨x,hx,hk⟩:=Option.bind_eq_some_iff.1 h
  obtain⟨h1,h2⟩:=sel10_ok hl
  cases m with
  |zero=>cases hx
  |succ m=>exact⟨_,hk,(ref01_Nodes_fx m (hct m (Nat.lt_succ_self m)) _ hx).conv h1 h2,⟨_,Tryz.func69,rfl,by decide⟩⟩
 cases h
theorem ct70_ok (m:Nat) (hct:∀k,k<m→∀R,CallOK (R:=R) Tryz.prog (ct k)) {R:Type} {args:List AV} {objs:List Ob} {K:Res→Option R} {r:R} (h:ct70 m args objs K=some r):∃q:Res,K q=some r∧FX Tryz.prog 70 args objs q.1 q.2∧HasBody Tryz.prog 70:=by
 unfold ct70 at h
 split at h
 ·rename_i l hl
  obtain⟨x,hx,hk⟩:=Option.bind_eq_some_iff.1 h
  obtain⟨h1,h2⟩:=sel46_ok hl
  cases m with
  |zero=>cases hx
  |succ m=>exact⟨_,hk,(ref01_formed_fx m (hct m (Nat.lt_succ_self m)) _ _ hx).conv h1 h2,⟨_,Tryz.func70,rfl,by decide⟩⟩
 cases h
theorem ct163_ok (m:Nat) (hct:∀k,k<m→∀R,CallOK (R:=R) Tryz.prog (ct k)) {R:Type} {args:List AV} {objs:List Ob} {K:Res→Option R} {r:R} (h:ct163 m args objs K=some r):∃q:Res,K q=some r∧FX Tryz.prog 163 args objs q.1 q.2∧HasBody Tryz.prog 163:=by
 unfold ct163 at h
 split at h
 ·rename_i l hl
  obtain⟨x,hx,hk⟩:=Option.bind_eq_some_iff.1 h
  obtain⟨h1,h2⟩:=sel30_ok hl
  cases m with
  |zero=>cases hx
  |succ m=>exact⟨_,hk,(path_Reach_fx m (hct m (Nat.lt_succ_self m)) _ _ hx).conv h1 h2,⟨_,Tryz.func163,rfl,by decide⟩⟩
 cases h
theorem ct140_ok (m:Nat) (hct:∀k,k<m→∀R,CallOK (R:=R) Tryz.prog (ct k)) {R:Type} {args:List AV} {objs:List Ob} {K:Res→Option R} {r:R} (h:ct140 m args objs K=some r):∃q:Res,K q=some r∧FX Tryz.prog 140 args objs q.1 q.2∧HasBody Tryz.prog 140:=by
 unfold ct140 at h
 split at h
 ·rename_i l hl
  obtain⟨x,hx,hk⟩:=Option.bind_eq_some_iff.1 h
  obtain⟨h1,h2⟩:=sel10_ok hl
  cases m with
  |zero=>cases hx
  |succ m=>exact⟨_,hk,(path_clone_fx m (hct m (Nat.lt_succ_self m)) _ hx).conv h1 h2,⟨_,Tryz.func140,rfl,by decide⟩⟩
 cases h
theorem ct164_ok (m:Nat) (hct:∀k,k<m→∀R,CallOK (R:=R) Tryz.prog (ct k)) {R:Type} {args:List AV} {objs:List Ob} {K:Res→Option R} {r:R} (h:ct164 m args objs K=some r):∃q:Res,K q=some r∧FX Tryz.prog 164 args objs q.1 q.2∧HasBody Tryz.prog 164:=by
 unfold ct164 at h
 split at h
 ·rename_i l hl
  obtain⟨x,hx,hk⟩:=Option.bind_eq_some_iff.1 h
  obtain⟨h1,h2⟩:=sel49_ok hl
  cases m with
  |zero=>cases hx
  |succ m=>exact⟨_,hk,(value_Get_fx m (hct m (Nat.lt_succ_self m)) _ _ hx).conv h1 h2,⟨_,Tryz.func164,rfl,by decide⟩⟩
 cases h
theorem ct165_ok (m:Nat) (hct:∀k,k<m→∀R,CallOK (R:=R) Tryz.prog (ct k)) {R:Type} {args:List AV} {objs:List Ob} {K:Res→Option R} {r:R} (h:ct165 m args objs K=some r):∃q:Res,K q=some r∧FX Tryz.prog 165 args objs q.1 q.2∧HasBody Tryz.prog 165:=by
 unfold ct165 at h
 split at h
 ·rename_i l hl
  obtain⟨x,hx,hk⟩:=Option.bind_eq_some_iff.1 h
  obtain⟨h1,h2⟩:=sel22_ok hl
  cases m with
  |zero=>cases hx
  |succ m=>exact⟨_,hk,(geo_bounds_fx m (hct m (Nat.lt_succ_self m)) _ hx).conv h1 h2,⟨_,Tryz.func165,rfl,by decide⟩⟩
 cases h
theorem ct166_ok (m:Nat) (hct:∀k,k<m→∀R,CallOK (R:=R) Tryz.prog (ct k)) {R:Type} {args:List AV} {objs:List Ob} {K:Res→Option R} {r:R} (h:ct166 m args objs K=some r):∃q:Res,K q=some r∧FX Tryz.prog 166 args objs q.1 q.2∧HasBody Tryz.prog 166:=by
 unfold ct166 at h
 split at h
 ·rename_i l hl
  obtain⟨x,hx,hk⟩:=Option.bind_eq_some_iff.1 h
  obtain⟨h1,h2⟩:=sel51_ok hl
  cases m with
  |zero=>cases hx
  |succ m=>exact⟨_,hk,(geo_onEdge_fx m (hct m (Nat.lt_succ_self m)) _ _ _ hx).conv h1 h2,⟨_,Tryz.func166,rfl,by decide⟩⟩
 cases h
theorem ct167_ok (m:Nat) (hct:∀k,k<m→∀R,CallOK (R:=R) Tryz.prog (ct k)) {R:Type} {args:List AV} {objs:List Ob} {K:Res→Option R} {r:R} (h:ct167 m args objs K=some r):∃q:Res,K q=some r∧FX Tryz.prog 167 args objs q.1 q.2∧HasBody Tryz.prog 167:=by
 unfold ct167 at h
 split at h
 ·rename_i l hl
  obtain⟨x,hx,hk⟩:=Option.bind_eq_some_iff.1 h
  obtain⟨h1,h2⟩:=sel51_ok hl
  cases m with
  |zero=>cases hx
  |succ m=>exact⟨_,hk,(geo_crosses_fx m (hct m (Nat.lt_succ_self m)) _ _ _ hx).conv h1 h2,⟨_,Tryz.func167,rfl,by decide⟩⟩
 cases h
theorem ct170_ok (m:Nat) (hct:∀k,k<m→∀R,CallOK (R:=R) Tryz.prog (ct k)) {R:Type} {args:List AV} {objs:List Ob} {K:Res→Option R} {r:R} (h:ct170 m args objs K=some r):∃q:Res,K q=some r∧FX Tryz.prog 170 args objs q.1 q.2∧HasBody Tryz.prog 170:=by
 unfold ct170 at h
 split at h
 ·rename_i l hl
  obtain⟨x,hx,hk⟩:=Option.bind_eq_some_iff.1 h
  obtain⟨h1,h2⟩:=sel10_ok hl
  cases m with
  |zero=>cases hx
  |succ m=>exact⟨_,hk,(value_clone_fx m (hct m (Nat.lt_succ_self m)) _ hx).conv h1 h2,⟨_,Tryz.func170,rfl,by decide⟩⟩
 cases h
theorem ct171_ok (m:Nat) (hct:∀k,k<m→∀R,CallOK (R:=R) Tryz.prog (ct k)) {R:Type} {args:List AV} {objs:List Ob} {K:Res→Option R} {r:R} (h:ct171 m args objs K=some r):∃q:Res,K q=some r∧FX Tryz.prog 171 args objs q.1 q.2∧HasBody Tryz.prog 171:=by
 unfold ct171 at h
 split at h
 ·rename_i l hl
  obtain⟨x,hx,hk⟩:=Option.bind_eq_some_iff.1 h
  obtain⟨h1,h2⟩:=sel49_ok hl
  cases m with
  |zero=>cases hx
  |succ m=>exact⟨_,hk,(value_find_fx m (hct m (Nat.lt_succ_self m)) _ _ hx).conv h1 h2,⟨_,Tryz.func171,rfl,by decide⟩⟩
 cases h
theorem ct172_ok (m:Nat) (hct:∀k,k<m→∀R,CallOK (R:=R) Tryz.prog (ct k)) {R:Type} {args:List AV} {objs:List Ob} {K:Res→Option R} {r:R} (h:ct172 m args objs K=some r):∃q:Res,K q=some r∧FX Tryz.prog 172 args objs q.1 q.2∧HasBody Tryz.prog 172:=by
 unfold ct172 at h
 split at h
 ·rename_i l hl
  obtain⟨x,hx,hk⟩:=Option.bind_eq_some_iff.1 h
  obtain⟨h1,h2⟩:=sel30_ok hl
  cases m with
  |zero=>cases hx
  |succ m=>exact⟨_,hk,(ref04_Reach_fx m (hct m (Nat.lt_succ_self m)) _ _ hx).conv h1 h2,⟨_,Tryz.func172,rfl,by decide⟩⟩
 cases h
theorem ct31_ok (m:Nat) (hct:∀k,k<m→∀R,CallOK (R:=R) Tryz.prog (ct k)) {R:Type} {args:List AV} {objs:List Ob} {K:Res→Option R} {r:R} (h:ct31 m args objs K=some r):∃q:Res,K q=some r∧FX Tryz.prog 31 args objs q.1 q.2∧HasBody Tryz.prog 31:=by
 unfold ct31 at h
 split at h
 ·rename_i l hl
  obtain⟨x,hx,hk⟩:=Option.bind_eq_some_iff.1 h
  obtain⟨h1,h2⟩:=sel49_ok hl
  cases m with
  |zero=>cases hx
  |succ m=>exact⟨_,hk,(ref01_Get_fx m (hct m (Nat.lt_succ_self m)) _ _ hx).conv h1 h2,⟨_,Tryz.func31,rfl,by decide⟩⟩
 cases h
theorem ct173_ok (m:Nat) (hct:∀k,k<m→∀R,CallOK (R:=R) Tryz.prog (ct k)) {R:Type} {args:List AV} {objs:List Ob} {K:Res→Option R} {r:R} (h:ct173 m args objs K=some r):∃q:Res,K q=some r∧FX Tryz.prog 173 args objs q.1 q.2∧HasBody Tryz.prog 173:=by
 unfold ct173 at h
 split at h
 ·rename_i l hl
  obtain⟨x,hx,hk⟩:=Option.bind_eq_some_iff.1 h
  obtain⟨h1,h2⟩:=sel57_ok hl
  cases m with
  |zero=>cases hx
  |succ m=>exact⟨_,hk,(ref10_between_fx m (hct m (Nat.lt_succ_self m)) _ _ _ hx).conv h1 h2,⟨_,Tryz.func173,rfl,by decide⟩⟩
 cases h
theorem ct174_ok (m:Nat) (hct:∀k,k<m→∀R,CallOK (R:=R) Tryz.prog (ct k)) {R:Type} {args:List AV} {objs:List Ob} {K:Res→Option R} {r:R} (h:ct174 m args objs K=some r):∃q:Res,K q=some r∧FX Tryz.prog 174 args objs q.1 q.2∧HasBody Tryz.prog 174:=by
 unfold ct174 at h
 split at h
 ·rename_i l hl
  obtain⟨x,hx,hk⟩:=Option.bind_eq_some_iff.1 h
  obtain⟨h1,h2⟩:=sel58_ok hl
  cases m with
  |zero=>cases hx
  |succ m=>exact⟨_,hk,(ref10_polygon_fx m (hct m (Nat.lt_succ_self m)) _ _ hx).conv h1 h2,⟨_,Tryz.func174,rfl,by decide⟩⟩
 cases h
theorem ct82_ok (m:Nat) (hct:∀k,k<m→∀R,CallOK (R:=R) Tryz.prog (ct k)) {R:Type} {args:List AV} {objs:List Ob} {K:Res→Option R} {r:R} (h:ct82 m args objs K=some r):∃q:Res,K q=some r∧FX Tryz.prog 82 args objs q.1 q.2∧HasBody Tryz.prog 82:=by
 unfold ct82 at h
 split at h
 ·rename_i l hl
  obtain⟨x,hx,hk⟩:=Option.bind_eq_some_iff.1 h
  obtain⟨h1,h2⟩:=sel49_ok hl
  cases m with
  |zero=>cases hx
  |succ m=>exact⟨_,hk,(ref01_at_fx m (hct m (Nat.lt_succ_self m)) _ _ hx).conv h1 h2,⟨_,Tryz.func82,rfl,by decide⟩⟩
 cases h
theorem ct112_ok (m:Nat) (hct:∀k,k<m→∀R,CallOK (R:=R) Tryz.prog (ct k)) {R:Type} {args:List AV} {objs:List Ob} {K:Res→Option R} {r:R} (h:ct112 m args objs K=some r):∃q:Res,K q=some r∧FX Tryz.prog 112 args objs q.1 q.2∧HasBody Tryz.prog 112:=by
 unfold ct112 at h
 split at h
 ·rename_i l hl
  obtain⟨x,hx,hk⟩:=Option.bind_eq_some_iff.1 h
  obtain⟨h1,h2⟩:=sel60_ok hl
  cases m with
  |zero=>cases hx
  |succ m=>exact⟨_,hk,(ref01_levels_fx m (hct m (Nat.lt_succ_self m)) _ _ hx).conv h1 h2,⟨_,Tryz.func112,rfl,by decide⟩⟩
 cases h
theorem ct113_ok (m:Nat) (hct:∀k,k<m→∀R,CallOK (R:=R) Tryz.prog (ct k)) {R:Type} {args:List AV} {objs:List Ob} {K:Res→Option R} {r:R} (h:ct113 m args objs K=some r):∃q:Res,K q=some r∧FX Tryz.prog 113 args objs q.1 q.2∧HasBody Tryz.prog 113:=by
 unfold ct113 at h
 split at h
 ·rename_i l hl
  obtain⟨x,hx,hk⟩:=Option.bind_eq_some_iff.1 h
  obtain⟨h1,h2⟩:=sel60_ok hl
  cases m with
  |zero=>cases hx
  |succ m=>exact⟨_,hk,(ref01_count_fx m (hct m (Nat.lt_succ_self m)) _ _ hx).conv h1 h2,⟨_,Tryz.func113,rfl,by decide⟩⟩
 cases h
theorem ct114_ok (m:Nat) (hct:∀k,k<m→∀R,CallOK (R:=R) Tryz.prog (ct k)) {R:Type} {args:List AV} {objs:List Ob} {K:Res→Option R} {r:R} (h:ct114 m args objs K=some r):∃q:Res,K q=some r∧FX Tryz.prog 114 args objs q.1 q.2∧HasBody Tryz.prog 114:=by
 unfold ct114 at h
 split at h
 ·rename_i l hl
  obtain⟨x,hx,hk⟩:=Option.bind_eq_some_iff.1 h
  obtain⟨h1,h2⟩:=sel7_ok hl
  cases m with
  |zero=>cases hx
  |succ m=>exact⟨_,hk,(ref01_UTF8_fx m (hct m (Nat.lt_succ_self m)) _ hx).conv h1 h2,⟨_,Tryz.func114,rfl,by decide⟩⟩
 cases h
theorem ct115_ok (m:Nat) (hct:∀k,k<m→∀R,CallOK (R:=R) Tryz.prog (ct k)) {R:Type} {args:List AV} {objs:List Ob} {K:Res→Option R} {r:R} (h:ct115 m args objs K=some r):∃q:Res,K q=some r∧FX Tryz.prog 115 args objs q.1 q.2∧HasBody Tryz.prog 115:=by
 unfold ct115 at h
 split at h
 ·rename_i l hl
  obtain⟨x,hx,hk⟩:=Option.bind_eq_some_iff.1 h
  obtain⟨h1,h2⟩:=sel46_ok hl
  cases m with
  |zero=>cases hx
  |succ m=>exact⟨_,hk,(ref01_fields_fx m (hct m (Nat.lt_succ_self m)) _ _ hx).conv h1 h2,⟨_,Tryz.func115,rfl,by decide⟩⟩
 cases h
theorem ct218_ok (m:Nat) (hct:∀k,k<m→∀R,CallOK (R:=R) Tryz.prog (ct k)) {R:Type} {args:List AV} {objs:List Ob} {K:Res→Option R} {r:R} (h:ct218 m args objs K=some r):∃q:Res,K q=some r∧FX Tryz.prog 218 args objs q.1 q.2∧HasBody Tryz.prog 218:=by
 unfold ct218 at h
 split at h
 ·rename_i l hl
  obtain⟨x,hx,hk⟩:=Option.bind_eq_some_iff.1 h
  obtain⟨h1,h2⟩:=sel64_ok hl
  cases m with
  |zero=>cases hx
  |succ m=>exact⟨_,hk,(i64_fx m (hct m (Nat.lt_succ_self m)) _ _ _ hx).conv h1 h2,⟨_,Tryz.func218,rfl,by decide⟩⟩
 cases h
theorem ct138_ok (m:Nat) (hct:∀k,k<m→∀R,CallOK (R:=R) Tryz.prog (ct k)) {R:Type} {args:List AV} {objs:List Ob} {K:Res→Option R} {r:R} (h:ct138 m args objs K=some r):∃q:Res,K q=some r∧FX Tryz.prog 138 args objs q.1 q.2∧HasBody Tryz.prog 138:=by
 unfold ct138 at h
 split at h
 ·rename_i l hl
  obtain⟨x,hx,hk⟩:=Option.bind_eq_some_iff.1 h
  obtain⟨h1,h2⟩:=sel65_ok hl
  cases m with
  |zero=>cases hx
  |succ m=>exact⟨_,hk,(path_field_fx m (hct m (Nat.lt_succ_self m)) _ _ hx).conv h1 h2,⟨_,Tryz.func138,rfl,by decide⟩⟩
 cases h
theorem ct139_ok (m:Nat) (hct:∀k,k<m→∀R,CallOK (R:=R) Tryz.prog (ct k)) {R:Type} {args:List AV} {objs:List Ob} {K:Res→Option R} {r:R} (h:ct139 m args objs K=some r):∃q:Res,K q=some r∧FX Tryz.prog 139 args objs q.1 q.2∧HasBody Tryz.prog 139:=by
 unfold ct139 at h
 split at h
 ·rename_i l hl
  obtain⟨x,hx,hk⟩:=Option.bind_eq_some_iff.1 h
  obtain⟨h1,h2⟩:=sel7_ok hl
  cases m with
  |zero=>cases hx
  |succ m=>exact⟨_,hk,(path_Number_fx m (hct m (Nat.lt_succ_self m)) _ hx).conv h1 h2,⟨_,Tryz.func139,rfl,by decide⟩⟩
 cases h
theorem ct219_ok (m:Nat) (hct:∀k,k<m→∀R,CallOK (R:=R) Tryz.prog (ct k)) {R:Type} {args:List AV} {objs:List Ob} {K:Res→Option R} {r:R} (h:ct219 m args objs K=some r):∃q:Res,K q=some r∧FX Tryz.prog 219 args objs q.1 q.2∧HasBody Tryz.prog 219:=by
 unfold ct219 at h
 split at h
 ·rename_i l hl
  obtain⟨x,hx,hk⟩:=Option.bind_eq_some_iff.1 h
  obtain⟨h1,h2⟩:=sel51_ok hl
  cases m with
  |zero=>cases hx
  |succ m=>exact⟨_,hk,(geo_turn_fx m (hct m (Nat.lt_succ_self m)) _ _ _ hx).conv h1 h2,⟨_,Tryz.func219,rfl,by decide⟩⟩
 cases h
theorem ct221_ok (m:Nat) (hct:∀k,k<m→∀R,CallOK (R:=R) Tryz.prog (ct k)) {R:Type} {args:List AV} {objs:List Ob} {K:Res→Option R} {r:R} (h:ct221 m args objs K=some r):∃q:Res,K q=some r∧FX Tryz.prog 221 args objs q.1 q.2∧HasBody Tryz.prog 221:=by
 unfold ct221 at h
 split at h
 ·rename_i l hl
  obtain⟨x,hx,hk⟩:=Option.bind_eq_some_iff.1 h
  obtain⟨h1,h2⟩:=sel30_ok hl
  cases m with
  |zero=>cases hx
  |succ m=>exact⟨_,hk,(ref04_Pass_fx m (hct m (Nat.lt_succ_self m)) _ _ hx).conv h1 h2,⟨_,Tryz.func221,rfl,by decide⟩⟩
 cases h
theorem ct222_ok (m:Nat) (hct:∀k,k<m→∀R,CallOK (R:=R) Tryz.prog (ct k)) {R:Type} {args:List AV} {objs:List Ob} {K:Res→Option R} {r:R} (h:ct222 m args objs K=some r):∃q:Res,K q=some r∧FX Tryz.prog 222 args objs q.1 q.2∧HasBody Tryz.prog 222:=by
 unfold ct222 at h
 split at h
 ·rename_i l hl
  obtain⟨x,hx,hk⟩:=Option.bind_eq_some_iff.1 h
  obtain⟨h1,h2⟩:=sel51_ok hl
  cases m with
  |zero=>cases hx
  |succ m=>exact⟨_,hk,(ref10_cross_fx m (hct m (Nat.lt_succ_self m)) _ _ _ hx).conv h1 h2,⟨_,Tryz.func222,rfl,by decide⟩⟩
 cases h
theorem ct160_ok (m:Nat) (hct:∀k,k<m→∀R,CallOK (R:=R) Tryz.prog (ct k)) {R:Type} {args:List AV} {objs:List Ob} {K:Res→Option R} {r:R} (h:ct160 m args objs K=some r):∃q:Res,K q=some r∧FX Tryz.prog 160 args objs q.1 q.2∧HasBody Tryz.prog 160:=by
 unfold ct160 at h
 split at h
 ·rename_i l hl
  obtain⟨x,hx,hk⟩:=Option.bind_eq_some_iff.1 h
  obtain⟨h1,h2⟩:=sel10_ok hl
  cases m with
  |zero=>cases hx
  |succ m=>exact⟨_,hk,(ref01_Parts_fx m (hct m (Nat.lt_succ_self m)) _ hx).conv h1 h2,⟨_,Tryz.func160,rfl,by decide⟩⟩
 cases h
theorem ct161_ok (m:Nat) (hct:∀k,k<m→∀R,CallOK (R:=R) Tryz.prog (ct k)) {R:Type} {args:List AV} {objs:List Ob} {K:Res→Option R} {r:R} (h:ct161 m args objs K=some r):∃q:Res,K q=some r∧FX Tryz.prog 161 args objs q.1 q.2∧HasBody Tryz.prog 161:=by
 unfold ct161 at h
 split at h
 ·rename_i l hl
  obtain⟨x,hx,hk⟩:=Option.bind_eq_some_iff.1 h
  obtain⟨h1,h2⟩:=sel71_ok hl
  cases m with
  |zero=>cases hx
  |succ m=>exact⟨_,hk,(ref01_tail_fx m (hct m (Nat.lt_succ_self m)) _ _ _ hx).conv h1 h2,⟨_,Tryz.func161,rfl,by decide⟩⟩
 cases h
theorem ct162_ok (m:Nat) (hct:∀k,k<m→∀R,CallOK (R:=R) Tryz.prog (ct k)) {R:Type} {args:List AV} {objs:List Ob} {K:Res→Option R} {r:R} (h:ct162 m args objs K=some r):∃q:Res,K q=some r∧FX Tryz.prog 162 args objs q.1 q.2∧HasBody Tryz.prog 162:=by
 unfold ct162 at h
 split at h
 ·rename_i l hl
  obtain⟨x,hx,hk⟩:=Option.bind_eq_some_iff.1 h
  obtain⟨h1,h2⟩:=sel7_ok hl
  cases m with
  |zero=>cases hx
  |succ m=>exact⟨_,hk,(ref01_wide_fx m (hct m (Nat.lt_succ_self m)) _ hx).conv h1 h2,⟨_,Tryz.func162,rfl,by decide⟩⟩
 cases h
theorem ct97_ok (m:Nat) (hct:∀k,k<m→∀R,CallOK (R:=R) Tryz.prog (ct k)) {R:Type} {args:List AV} {objs:List Ob} {K:Res→Option R} {r:R} (h:ct97 m args objs K=some r):∃q:Res,K q=some r∧FX Tryz.prog 97 args objs q.1 q.2∧HasBody Tryz.prog 97:=by
 unfold ct97 at h
 split at h
 ·rename_i l hl
  obtain⟨x,hx,hk⟩:=Option.bind_eq_some_iff.1 h
  obtain⟨h1,h2⟩:=sel7_ok hl
  cases m with
  |zero=>cases hx
  |succ m=>exact⟨_,hk,(ref04_Number_fx m (hct m (Nat.lt_succ_self m)) _ hx).conv h1 h2,⟨_,Tryz.func97,rfl,by decide⟩⟩
 cases h
set_option maxHeartbeats 4000000 in
theorem ct_ok:∀(m:Nat) (R:Type),CallOK (R:=R) Tryz.prog (ct m):=by
 intro m
 induction m using Nat.strongRecOn with
 |_ m ih=>
  intro R f args objs K r h
  unfold ct at h
  rcases bset_some h with⟨hb,h1⟩| ⟨_,h⟩
  · have e:=beq_eq hb
    subst e
    exact ct6_ok m ih h1
  rcases bset_some h with⟨hb,h1⟩| ⟨_,h⟩
  · have e:=beq_eq hb
    subst e
    exact ct10_ok m ih h1
  rcases bset_some h with⟨hb,h1⟩| ⟨_,h⟩
  · have e:=beq_eq hb
    subst e
    exact ct13_ok m ih h1
  rcases bset_some h with⟨hb,h1⟩| ⟨_,h⟩
  · have e:=beq_eq hb
    subst e
    exact ct27_ok m ih h1
  rcases bset_some h with⟨hb,h1⟩| ⟨_,h⟩
  · have e:=beq_eq hb
    subst e
    exact ct28_ok m ih h1
  rcases bset_some h with⟨hb,h1⟩| ⟨_,h⟩
  · have e:=beq_eq hb
    subst e
    exact ct14_ok m ih h1
  rcases bset_some h with⟨hb,h1⟩| ⟨_,h⟩
  · have e:=beq_eq hb
    subst e
    exact ct11_ok m ih h1
  rcases bset_some h with⟨hb,h1⟩| ⟨_,h⟩
  · have e:=beq_eq hb
    subst e
    exact ct12_ok m ih h1
  rcases bset_some h with⟨hb,h1⟩| ⟨_,h⟩
  · have e:=beq_eq hb
    subst e
    exact ct22_ok m ih h1
  rcases bset_some h with⟨hb,h1⟩| ⟨_,h⟩
  · have e:=beq_eq hb
    subst e
    exact ct67_ok m ih h1
  rcases bset_some h with⟨hb,h1⟩| ⟨_,h⟩
  · have e:=beq_eq hb
    subst e
    exact ct41_ok m ih h1
  rcases bset_some h with⟨hb,h1⟩| ⟨_,h⟩
  · have e:=beq_eq hb
    subst e
    exact ct74_ok m ih h1
  rcases bset_some h with⟨hb,h1⟩| ⟨_,h⟩
  · have e:=beq_eq hb
    subst e
    exact ct75_ok m ih h1
  rcases bset_some h with⟨hb,h1⟩| ⟨_,h⟩
  · have e:=beq_eq hb
    subst e
    exact ct122_ok m ih h1
  rcases bset_some h with⟨hb,h1⟩| ⟨_,h⟩
  · have e:=beq_eq hb
    subst e
    exact ct168_ok m ih h1
  rcases bset_some h with⟨hb,h1⟩| ⟨_,h⟩
  · have e:=beq_eq hb
    subst e
    exact ct76_ok m ih h1
  rcases bset_some h with⟨hb,h1⟩| ⟨_,h⟩
  · have e:=beq_eq hb
    subst e
    exact ct169_ok m ih h1
  rcases bset_some h with⟨hb,h1⟩| ⟨_,h⟩
  · have e:=beq_eq hb
    subst e
    exact ct220_ok m ih h1
  rcases bset_some h with⟨hb,h1⟩| ⟨_,h⟩
  · have e:=beq_eq hb
    subst e
    exact ct252_ok m ih h1
  rcases bset_some h with⟨hb,h1⟩| ⟨_,h⟩
  · have e:=beq_eq hb
    subst e
    exact ct72_ok m ih h1
  rcases bset_some h with⟨hb,h1⟩| ⟨_,h⟩
  · have e:=beq_eq hb
    subst e
    exact ct62_ok m ih h1
  rcases bset_some h with⟨hb,h1⟩| ⟨_,h⟩
  · have e:=beq_eq hb
    subst e
    exact ct77_ok m ih h1
  rcases bset_some h with⟨hb,h1⟩| ⟨_,h⟩
  · have e:=beq_eq hb
    subst e
    exact ct73_ok m ih h1
  rcases bset_some h with⟨hb,h1⟩| ⟨_,h⟩
  · have e:=beq_eq hb
    subst e
    exact ct79_ok m ih h1
  rcases bset_some h with⟨hb,h1⟩| ⟨_,h⟩
  · have e:=beq_eq hb
    subst e
    exact ct51_ok m ih h1
  rcases bset_some h with⟨hb,h1⟩| ⟨_,h⟩
  · have e:=beq_eq hb
    subst e
    exact ct50_ok m ih h1
  rcases bset_some h with⟨hb,h1⟩| ⟨_,h⟩
  · have e:=beq_eq hb
    subst e
    exact ct78_ok m ih h1
  rcases bset_some h with⟨hb,h1⟩| ⟨_,h⟩
  · have e:=beq_eq hb
    subst e
    exact ct46_ok m ih h1
  rcases bset_some h with⟨hb,h1⟩| ⟨_,h⟩
  · have e:=beq_eq hb
    subst e
    exact ct42_ok m ih h1
  rcases bset_some h with⟨hb,h1⟩| ⟨_,h⟩
  · have e:=beq_eq hb
    subst e
    exact ct24_ok m ih h1
  rcases bset_some h with⟨hb,h1⟩| ⟨_,h⟩
  · have e:=beq_eq hb
    subst e
    exact ct118_ok m ih h1
  rcases bset_some h with⟨hb,h1⟩| ⟨_,h⟩
  · have e:=beq_eq hb
    subst e
    exact ct119_ok m ih h1
  rcases bset_some h with⟨hb,h1⟩| ⟨_,h⟩
  · have e:=beq_eq hb
    subst e
    exact ct120_ok m ih h1
  rcases bset_some h with⟨hb,h1⟩| ⟨_,h⟩
  · have e:=beq_eq hb
    subst e
    exact ct121_ok m ih h1
  rcases bset_some h with⟨hb,h1⟩| ⟨_,h⟩
  · have e:=beq_eq hb
    subst e
    exact ct123_ok m ih h1
  rcases bset_some h with⟨hb,h1⟩| ⟨_,h⟩
  · have e:=beq_eq hb
    subst e
    exact ct117_ok m ih h1
  rcases bset_some h with⟨hb,h1⟩| ⟨_,h⟩
  · have e:=beq_eq hb
    subst e
    exact ct116_ok m ih h1
  rcases bset_some h with⟨hb,h1⟩| ⟨_,h⟩
  · have e:=beq_eq hb
    subst e
    exact ct126_ok m ih h1
  rcases bset_some h with⟨hb,h1⟩| ⟨_,h⟩
  · have e:=beq_eq hb
    subst e
    exact ct127_ok m ih h1
  rcases bset_some h with⟨hb,h1⟩| ⟨_,h⟩
  · have e:=beq_eq hb
    subst e
    exact ct128_ok m ih h1
  rcases bset_some h with⟨hb,h1⟩| ⟨_,h⟩
  · have e:=beq_eq hb
    subst e
    exact ct129_ok m ih h1
  rcases bset_some h with⟨hb,h1⟩| ⟨_,h⟩
  · have e:=beq_eq hb
    subst e
    exact ct99_ok m ih h1
  rcases bset_some h with⟨hb,h1⟩| ⟨_,h⟩
  · have e:=beq_eq hb
    subst e
    exact ct124_ok m ih h1
  rcases bset_some h with⟨hb,h1⟩| ⟨_,h⟩
  · have e:=beq_eq hb
    subst e
    exact ct125_ok m ih h1
  rcases bset_some h with⟨hb,h1⟩| ⟨_,h⟩
  · have e:=beq_eq hb
    subst e
    exact ct68_ok m ih h1
  rcases bset_some h with⟨hb,h1⟩| ⟨_,h⟩
  · have e:=beq_eq hb
    subst e
    exact ct69_ok m ih h1
  rcases bset_some h with⟨hb,h1⟩| ⟨_,h⟩
  · have e:=beq_eq hb
    subst e
    exact ct70_ok m ih h1
  rcases bset_some h with⟨hb,h1⟩| ⟨_,h⟩
  · have e:=beq_eq hb
    subst e
    exact ct163_ok m ih h1
  rcases bset_some h with⟨hb,h1⟩| ⟨_,h⟩
  · have e:=beq_eq hb
    subst e
    exact ct140_ok m ih h1
  rcases bset_some h with⟨hb,h1⟩| ⟨_,h⟩
  · have e:=beq_eq hb
    subst e
    exact ct164_ok m ih h1
  rcases bset_some h with⟨hb,h1⟩| ⟨_,h⟩
  · have e:=beq_eq hb
    subst e
    exact ct165_ok m ih h1
  rcases bset_some h with⟨hb,h1⟩| ⟨_,h⟩
  · have e:=beq_eq hb
    subst e
    exact ct166_ok m ih h1
  rcases bset_some h with⟨hb,h1⟩| ⟨_,h⟩
  · have e:=beq_eq hb
    subst e
    exact ct167_ok m ih h1
  rcases bset_some h with⟨hb,h1⟩| ⟨_,h⟩
  · have e:=beq_eq hb
    subst e
    exact ct170_ok m ih h1
  rcases bset_some h with⟨hb,h1⟩| ⟨_,h⟩
  · have e:=beq_eq hb
    subst e
    exact ct171_ok m ih h1
  rcases bset_some h with⟨hb,h1⟩| ⟨_,h⟩
  · have e:=beq_eq hb
    subst e
    exact ct172_ok m ih h1
  rcases bset_some h with⟨hb,h1⟩| ⟨_,h⟩
  · have e:=beq_eq hb
    subst e
    exact ct31_ok m ih h1
  rcases bset_some h with⟨hb,h1⟩| ⟨_,h⟩
  · have e:=beq_eq hb
    subst e
    exact ct173_ok m ih h1
  rcases bset_some h with⟨hb,h1⟩| ⟨_,h⟩
  · have e:=beq_eq hb
    subst e
    exact ct174_ok m ih h1
  rcases bset_some h with⟨hb,h1⟩| ⟨_,h⟩
  · have e:=beq_eq hb
    subst e
    exact ct82_ok m ih h1
  rcases bset_some h with⟨hb,h1⟩| ⟨_,h⟩
  · have e:=beq_eq hb
    subst e
    exact ct112_ok m ih h1
  rcases bset_some h with⟨hb,h1⟩| ⟨_,h⟩
  · have e:=beq_eq hb
    subst e
    exact ct113_ok m ih h1
  rcases bset_some h with⟨hb,h1⟩| ⟨_,h⟩
  · have e:=beq_eq hb
    subst e
    exact ct114_ok m ih h1
  rcases bset_some h with⟨hb,h1⟩| ⟨_,h⟩
  · have e:=beq_eq hb
    subst e
    exact ct115_ok m ih h1
  rcases bset_some h with⟨hb,h1⟩| ⟨_,h⟩
  · have e:=beq_eq hb
    subst e
    exact ct218_ok m ih h1
  rcases bset_some h with⟨hb,h1⟩| ⟨_,h⟩
  · have e:=beq_eq hb
    subst e
    exact ct138_ok m ih h1
  rcases bset_some h with⟨hb,h1⟩| ⟨_,h⟩
  · have e:=beq_eq hb
    subst e
    exact ct139_ok m ih h1
  rcases bset_some h with⟨hb,h1⟩| ⟨_,h⟩
  · have e:=beq_eq hb
    subst e
    exact ct219_ok m ih h1
  rcases bset_some h with⟨hb,h1⟩| ⟨_,h⟩
  · have e:=beq_eq hb
    subst e
    exact ct221_ok m ih h1
  rcases bset_some h with⟨hb,h1⟩| ⟨_,h⟩
  · have e:=beq_eq hb
    subst e
    exact ct222_ok m ih h1
  rcases bset_some h with⟨hb,h1⟩| ⟨_,h⟩
  · have e:=beq_eq hb
    subst e
    exact ct160_ok m ih h1
  rcases bset_some h with⟨hb,h1⟩| ⟨_,h⟩
  · have e:=beq_eq hb
    subst e
    exact ct161_ok m ih h1
  rcases bset_some h with⟨hb,h1⟩| ⟨_,h⟩
  · have e:=beq_eq hb
    subst e
    exact ct162_ok m ih h1
  rcases bset_some h with⟨hb,h1⟩| ⟨_,h⟩
  · have e:=beq_eq hb
    subst e
    exact ct97_ok m ih h1
  cases h
end Go.Proofs.YtameompfdamfpaaGreatDoor
