/- Generated: the contracts. -/
import Derived.Test.YtmjnmiahblaanaaDoorEq0
set_option linter.unusedVariables false
set_option linter.unusedSimpArgs false
namespace Go.Proofs.YtmjnmiahblaanaaDoor
open Go.Am
set_option maxRecDepth 100000
theorem mixed:Tryd.prog.follows .mixedOrders=true:=by kernel_rfl
theorem ref01_Same_fx (m:Nat) (hct:∀R,CallOK (R:=R) Tryd.prog (ct m)) (a0 a1:Dt) {r:Bool} (h:ref01_Same (m+1) a0 a1=some r):FX Tryd.prog 24 [(.dat 36 a0),(.dat 36 a1)] [] (.dat 4 (.bool r)) []:=
 FX_of (q:=((.dat 4 (.bool r)),[])) (E:=env) (m:=m+1) (dec:=d7) jn_ok (hct _) mixed Tryd.func24 rfl (Nat.le_of_ble_eq_true rfl) (fun b hb=>d7_sim hb) ((ref01_Same_eq m a0 a1).trans h)
theorem ref01_SameList_fx (m:Nat) (hct:∀R,CallOK (R:=R) Tryd.prog (ct m)) (a0 a1:List Dt) {r:Bool} (h:ref01_SameList (m+1) a0 a1=some r):FX Tryd.prog 29 [(.dat 33 (.lst a0)),(.dat 33 (.lst a1))] [] (.dat 4 (.bool r)) []:=
 FX_of (q:=((.dat 4 (.bool r)),[])) (E:=env) (m:=m+1) (dec:=d7) jn_ok (hct _) mixed Tryd.func29 rfl (Nat.le_of_ble_eq_true rfl) (fun b hb=>d7_sim hb) ((ref01_SameList_eq m a0 a1).trans h)
theorem path_field_fx (m:Nat) (hct:∀R,CallOK (R:=R) Tryd.prog (ct m)) (a0:List Dt) (a1:ByteArray) {r:Int} (h:path_field (m+1) a0 a1=some r):FX Tryd.prog 51 [(.dat 34 (.lst a0)),(.dat 9 (.str a1))] [] (.dat 3 (.int r)) []:=
 FX_of (q:=((.dat 3 (.int r)),[])) (E:=env) (m:=m+1) (dec:=d19) jn_ok (hct _) mixed Tryd.func51 rfl (Nat.le_of_ble_eq_true rfl) (fun b hb=>d19_sim hb) ((path_field_eq m a0 a1).trans h)
theorem path_Number_fx (m:Nat) (hct:∀R,CallOK (R:=R) Tryd.prog (ct m)) (a0:ByteArray) {r:Int×Bool} (h:path_Number (m+1) a0=some r):FX Tryd.prog 20 [(.dat 9 (.str a0))] [] (.tup [(.dat 3 (.int r.1)),(.dat 4 (.bool r.2))]) []:=
 FX_of (q:=((.tup [(.dat 3 (.int r.1)),(.dat 4 (.bool r.2))]),[])) (E:=env) (m:=m+1) (dec:=d20) jn_ok (hct _) mixed Tryd.func20 rfl (Nat.le_of_ble_eq_true rfl) (fun b hb=>d20_sim hb) ((path_Number_eq m a0).trans h)
theorem path_clone_fx (m:Nat) (hct:∀R,CallOK (R:=R) Tryd.prog (ct m)) (a0:Dt) {r:Dt} (h:path_clone (m+1) a0=some r):FX Tryd.prog 52 [(.dat 36 a0)] [] (.dat 36 r) []:=
 FX_of (q:=((.dat 36 r),[])) (E:=env) (m:=m+1) (dec:=d21) jn_ok (hct _) mixed Tryd.func52 rfl (Nat.le_of_ble_eq_true rfl) (fun b hb=>d21_sim hb) ((path_clone_eq m a0).trans h)
theorem path_Get_fx (m:Nat) (hct:∀R,CallOK (R:=R) Tryd.prog (ct m)) (a0:Dt) (a1:List Dt) {r:Dt} (h:path_Get (m+1) a0 a1=some r):FX Tryd.prog 23 [(.dat 36 a0),(.dat 23 (.lst a1))] [] (.dat 36 r) []:=
 FX_of (q:=((.dat 36 r),[])) (E:=env) (m:=m+1) (dec:=d21) jn_ok (hct _) mixed Tryd.func23 rfl (Nat.le_of_ble_eq_true rfl) (fun b hb=>d21_sim hb) ((path_Get_eq m a0 a1).trans h)
theorem ref04_Number_fx (m:Nat) (hct:∀R,CallOK (R:=R) Tryd.prog (ct m)) (a0:ByteArray) {r:Int×Bool} (h:ref04_Number (m+1) a0=some r):FX Tryd.prog 21 [(.dat 9 (.str a0))] [] (.tup [(.dat 3 (.int r.1)),(.dat 4 (.bool r.2))]) []:=
 FX_of (q:=((.tup [(.dat 3 (.int r.1)),(.dat 4 (.bool r.2))]),[])) (E:=env) (m:=m+1) (dec:=d20) jn_ok (hct _) mixed Tryd.func21 rfl (Nat.le_of_ble_eq_true rfl) (fun b hb=>d20_sim hb) ((ref04_Number_eq m a0).trans h)
theorem ref01_Parts_fx (m:Nat) (hct:∀R,CallOK (R:=R) Tryd.prog (ct m)) (a0:Dt) {r:List Dt} (h:ref01_Parts (m+1) a0=some r):FX Tryd.prog 58 [(.dat 36 a0)] [] (.dat 33 (.lst r)) []:=
 FX_of (q:=((.dat 33 (.lst r)),[])) (E:=env) (m:=m+1) (dec:=d24) jn_ok (hct _) mixed Tryd.func58 rfl (Nat.le_of_ble_eq_true rfl) (fun b hb=>d24_sim hb) ((ref01_Parts_eq m a0).trans h)
theorem law04_lists_fx (m:Nat) (hct:∀R,CallOK (R:=R) Tryd.prog (ct m)) (a0:Dt) {r:Bool} (h:law04_lists (m+1) a0=some r):FX Tryd.prog 28 [(.dat 36 a0)] [] (.dat 4 (.bool r)) []:=
 FX_of (q:=((.dat 4 (.bool r)),[])) (E:=env) (m:=m+1) (dec:=d7) jn_ok (hct _) mixed Tryd.func28 rfl (Nat.le_of_ble_eq_true rfl) (fun b hb=>d7_sim hb) ((law04_lists_eq m a0).trans h)
theorem i25_fx (m:Nat) (hct:∀R,CallOK (R:=R) Tryd.prog (ct m)) (a0:Dt) (a1 a2:List Dt) {r:List Dt} (h:i25 (m+1) a0 a1 a2=some r):FX Tryd.prog 59 [(.row 0),(.dat 36 a0),(.dat 23 (.lst a1))] [(.row 33 a2)] (.row 1) [.gone,(.row 33 r)]:=
 FX_of (q:=((.row 1),[.gone,(.row 33 r)])) (E:=env) (m:=m+1) (dec:=d25) jn_ok (hct _) mixed Tryd.func59 rfl (Nat.le_of_ble_eq_true rfl) (fun b hb=>d25_sim hb) ((i25_eq m a0 a1 a2).trans h)
theorem path_Reach_fx (m:Nat) (hct:∀R,CallOK (R:=R) Tryd.prog (ct m)) (a0:Dt) (a1:List Dt) {r:List Dt} (h:path_Reach (m+1) a0 a1=some r):FX Tryd.prog 30 [(.dat 36 a0),(.dat 23 (.lst a1))] [] (.dat 33 (.lst r)) []:=
 FX_of (q:=((.dat 33 (.lst r)),[])) (E:=env) (m:=m+1) (dec:=d24) jn_ok (hct _) mixed Tryd.func30 rfl (Nat.le_of_ble_eq_true rfl) (fun b hb=>d24_sim hb) ((path_Reach_eq m a0 a1).trans h)
theorem ref01_Null_fx (m:Nat) (hct:∀R,CallOK (R:=R) Tryd.prog (ct m)) {r:Dt} (h:ref01_Null (m+1)=some r):FX Tryd.prog 57 [] [] (.dat 36 r) []:=
 FX_of (q:=((.dat 36 r),[])) (E:=env) (m:=m+1) (dec:=d21) jn_ok (hct _) mixed Tryd.func57 rfl (Nat.le_of_ble_eq_true rfl) (fun b hb=>d21_sim hb) ((ref01_Null_eq m).trans h)
theorem slices_Equal_fx (m:Nat) (hct:∀R,CallOK (R:=R) Tryd.prog (ct m)) (a0 a1:List Dt) {r:Bool} (h:slices_Equal (m+1) a0 a1=some r):FX Tryd.prog 63 [(.dat 23 (.lst a0)),(.dat 23 (.lst a1))] [] (.dat 4 (.bool r)) []:=
 FX_of (q:=((.dat 4 (.bool r)),[])) (E:=env) (m:=m+1) (dec:=d7) jn_ok (hct _) mixed Tryd.func63 rfl (Nat.le_of_ble_eq_true rfl) (fun b hb=>d7_sim hb) ((slices_Equal_eq m a0 a1).trans h)
theorem path_Overlap_fx (m:Nat) (hct:∀R,CallOK (R:=R) Tryd.prog (ct m)) (a0 a1:List Dt) {r:Bool} (h:path_Overlap (m+1) a0 a1=some r):FX Tryd.prog 34 [(.dat 23 (.lst a0)),(.dat 23 (.lst a1))] [] (.dat 4 (.bool r)) []:=
 FX_of (q:=((.dat 4 (.bool r)),[])) (E:=env) (m:=m+1) (dec:=d7) jn_ok (hct _) mixed Tryd.func34 rfl (Nat.le_of_ble_eq_true rfl) (fun b hb=>d7_sim hb) ((path_Overlap_eq m a0 a1).trans h)
theorem ref01_levels_fx (m:Nat) (hct:∀R,CallOK (R:=R) Tryd.prog (ct m)) (a0:Dt) (a1:Int) {r:Int} (h:ref01_levels (m+1) a0 a1=some r):FX Tryd.prog 70 [(.dat 36 a0),(.dat 3 (.int a1))] [] (.dat 3 (.int r)) []:=
 FX_of (q:=((.dat 3 (.int r)),[])) (E:=env) (m:=m+1) (dec:=d19) jn_ok (hct _) mixed Tryd.func70 rfl (Nat.le_of_ble_eq_true rfl) (fun b hb=>d19_sim hb) ((ref01_levels_eq m a0 a1).trans h)
theorem ref01_Depth_fx (m:Nat) (hct:∀R,CallOK (R:=R) Tryd.prog (ct m)) (a0:Dt) {r:Int} (h:ref01_Depth (m+1) a0=some r):FX Tryd.prog 49 [(.dat 36 a0)] [] (.dat 3 (.int r)) []:=
 FX_of (q:=((.dat 3 (.int r)),[])) (E:=env) (m:=m+1) (dec:=d19) jn_ok (hct _) mixed Tryd.func49 rfl (Nat.le_of_ble_eq_true rfl) (fun b hb=>d19_sim hb) ((ref01_Depth_eq m a0).trans h)
theorem ref01_count_fx (m:Nat) (hct:∀R,CallOK (R:=R) Tryd.prog (ct m)) (a0:Dt) (a1:Int) {r:Int} (h:ref01_count (m+1) a0 a1=some r):FX Tryd.prog 71 [(.dat 36 a0),(.dat 3 (.int a1))] [] (.dat 3 (.int r)) []:=
 FX_of (q:=((.dat 3 (.int r)),[])) (E:=env) (m:=m+1) (dec:=d19) jn_ok (hct _) mixed Tryd.func71 rfl (Nat.le_of_ble_eq_true rfl) (fun b hb=>d19_sim hb) ((ref01_count_eq m a0 a1).trans h)
theorem ref01_Nodes_fx (m:Nat) (hct:∀R,CallOK (R:=R) Tryd.prog (ct m)) (a0:Dt) {r:Int} (h:ref01_Nodes (m+1) a0=some r):FX Tryd.prog 50 [(.dat 36 a0)] [] (.dat 3 (.int r)) []:=
 FX_of (q:=((.dat 3 (.int r)),[])) (E:=env) (m:=m+1) (dec:=d19) jn_ok (hct _) mixed Tryd.func50 rfl (Nat.le_of_ble_eq_true rfl) (fun b hb=>d19_sim hb) ((ref01_Nodes_eq m a0).trans h)
theorem law04_small_fx (m:Nat) (hct:∀R,CallOK (R:=R) Tryd.prog (ct m)) (a0:Dt) (a1:List Dt) {r:Bool} (h:law04_small (m+1) a0 a1=some r):FX Tryd.prog 22 [(.dat 36 a0),(.dat 23 (.lst a1))] [] (.dat 4 (.bool r)) []:=
 FX_of (q:=((.dat 4 (.bool r)),[])) (E:=env) (m:=m+1) (dec:=d7) jn_ok (hct _) mixed Tryd.func22 rfl (Nat.le_of_ble_eq_true rfl) (fun b hb=>d7_sim hb) ((law04_small_eq m a0 a1).trans h)
theorem ref01_at_fx (m:Nat) (hct:∀R,CallOK (R:=R) Tryd.prog (ct m)) (a0:Dt) (a1:ByteArray) {r:Int} (h:ref01_at (m+1) a0 a1=some r):FX Tryd.prog 72 [(.dat 36 a0),(.dat 9 (.str a1))] [] (.dat 3 (.int r)) []:=
 FX_of (q:=((.dat 3 (.int r)),[])) (E:=env) (m:=m+1) (dec:=d19) jn_ok (hct _) mixed Tryd.func72 rfl (Nat.le_of_ble_eq_true rfl) (fun b hb=>d19_sim hb) ((ref01_at_eq m a0 a1).trans h)
theorem ref01_Get_fx (m:Nat) (hct:∀R,CallOK (R:=R) Tryd.prog (ct m)) (a0:Dt) (a1:ByteArray) {r:Dt×Bool} (h:ref01_Get (m+1) a0 a1=some r):FX Tryd.prog 53 [(.dat 36 a0),(.dat 9 (.str a1))] [] (.tup [(.dat 36 r.1),(.dat 4 (.bool r.2))]) []:=
 FX_of (q:=((.tup [(.dat 36 r.1),(.dat 4 (.bool r.2))]),[])) (E:=env) (m:=m+1) (dec:=d22) jn_ok (hct _) mixed Tryd.func53 rfl (Nat.le_of_ble_eq_true rfl) (fun b hb=>d22_sim hb) ((ref01_Get_eq m a0 a1).trans h)
theorem ref04_Get_fx (m:Nat) (hct:∀R,CallOK (R:=R) Tryd.prog (ct m)) (a0:Dt) (a1:List Dt) {r:Dt} (h:ref04_Get (m+1) a0 a1=some r):FX Tryd.prog 25 [(.dat 36 a0),(.dat 23 (.lst a1))] [] (.dat 36 r) []:=
 FX_of (q:=((.dat 36 r),[])) (E:=env) (m:=m+1) (dec:=d21) jn_ok (hct _) mixed Tryd.func25 rfl (Nat.le_of_ble_eq_true rfl) (fun b hb=>d21_sim hb) ((ref04_Get_eq m a0 a1).trans h)
theorem ref01_Remove_fx (m:Nat) (hct:∀R,CallOK (R:=R) Tryd.prog (ct m)) (a0:Dt) (a1:ByteArray) {r:Dt} (h:ref01_Remove (m+1) a0 a1=some r):FX Tryd.prog 55 [(.dat 36 a0),(.dat 9 (.str a1))] [] (.dat 36 r) []:=
 FX_of (q:=((.dat 36 r),[])) (E:=env) (m:=m+1) (dec:=d21) jn_ok (hct _) mixed Tryd.func55 rfl (Nat.le_of_ble_eq_true rfl) (fun b hb=>d21_sim hb) ((ref01_Remove_eq m a0 a1).trans h)
theorem ref01_Set_fx (m:Nat) (hct:∀R,CallOK (R:=R) Tryd.prog (ct m)) (a0:Dt) (a1:ByteArray) (a2:Dt) {r:Dt} (h:ref01_Set (m+1) a0 a1 a2=some r):FX Tryd.prog 56 [(.dat 36 a0),(.dat 9 (.str a1)),(.dat 36 a2)] [] (.dat 36 r) []:=
 FX_of (q:=((.dat 36 r),[])) (E:=env) (m:=m+1) (dec:=d21) jn_ok (hct _) mixed Tryd.func56 rfl (Nat.le_of_ble_eq_true rfl) (fun b hb=>d21_sim hb) ((ref01_Set_eq m a0 a1 a2).trans h)
theorem ref04_Drop_fx (m:Nat) (hct:∀R,CallOK (R:=R) Tryd.prog (ct m)) (a0:Dt) (a1:List Dt) {r:Dt} (h:ref04_Drop (m+1) a0 a1=some r):FX Tryd.prog 27 [(.dat 36 a0),(.dat 23 (.lst a1))] [] (.dat 36 r) []:=
 FX_of (q:=((.dat 36 r),[])) (E:=env) (m:=m+1) (dec:=d21) jn_ok (hct _) mixed Tryd.func27 rfl (Nat.le_of_ble_eq_true rfl) (fun b hb=>d21_sim hb) ((ref04_Drop_eq m a0 a1).trans h)
theorem law04_PathGets_fx (m:Nat) (hct:∀R,CallOK (R:=R) Tryd.prog (ct m)) (a0:Dt) (a1:List Dt) {r:Bool} (h:law04_PathGets (m+1) a0 a1=some r):FX Tryd.prog 6 [(.dat 36 a0),(.dat 23 (.lst a1))] [] (.dat 4 (.bool r)) []:=
 FX_of (q:=((.dat 4 (.bool r)),[])) (E:=env) (m:=m+1) (dec:=d7) jn_ok (hct _) mixed Tryd.func6 rfl (Nat.le_of_ble_eq_true rfl) (fun b hb=>d7_sim hb) ((law04_PathGets_eq m a0 a1).trans h)
theorem ref01_Name_fx (m:Nat) (hct:∀R,CallOK (R:=R) Tryd.prog (ct m)) (a0:ByteArray) {r:Bool} (h:ref01_Name (m+1) a0=some r):FX Tryd.prog 48 [(.dat 9 (.str a0))] [] (.dat 4 (.bool r)) []:=
 FX_of (q:=((.dat 4 (.bool r)),[])) (E:=env) (m:=m+1) (dec:=d7) jn_ok (hct _) mixed Tryd.func48 rfl (Nat.le_of_ble_eq_true rfl) (fun b hb=>d7_sim hb) ((ref01_Name_eq m a0).trans h)
theorem ref04_Valid_fx (m:Nat) (hct:∀R,CallOK (R:=R) Tryd.prog (ct m)) (a0:List Dt) {r:Bool} (h:ref04_Valid (m+1) a0=some r):FX Tryd.prog 18 [(.dat 23 (.lst a0))] [] (.dat 4 (.bool r)) []:=
 FX_of (q:=((.dat 4 (.bool r)),[])) (E:=env) (m:=m+1) (dec:=d7) jn_ok (hct _) mixed Tryd.func18 rfl (Nat.le_of_ble_eq_true rfl) (fun b hb=>d7_sim hb) ((ref04_Valid_eq m a0).trans h)
theorem ref04_fresh_fx (m:Nat) (hct:∀R,CallOK (R:=R) Tryd.prog (ct m)) (a0:List Dt) (a1:Dt) {r:Dt} (h:ref04_fresh (m+1) a0 a1=some r):FX Tryd.prog 75 [(.dat 23 (.lst a0)),(.dat 36 a1)] [] (.dat 36 r) []:=
 FX_of (q:=((.dat 36 r),[])) (E:=env) (m:=m+1) (dec:=d21) jn_ok (hct _) mixed Tryd.func75 rfl (Nat.le_of_ble_eq_true rfl) (fun b hb=>d21_sim hb) ((ref04_fresh_eq m a0 a1).trans h)
theorem ref04_put_fx (m:Nat) (hct:∀R,CallOK (R:=R) Tryd.prog (ct m)) (a0:Dt) (a1:List Dt) (a2:Dt) {r:Dt×Bool} (h:ref04_put (m+1) a0 a1 a2=some r):FX Tryd.prog 61 [(.dat 36 a0),(.dat 23 (.lst a1)),(.dat 36 a2)] [] (.tup [(.dat 36 r.1),(.dat 4 (.bool r.2))]) []:=
 FX_of (q:=((.tup [(.dat 36 r.1),(.dat 4 (.bool r.2))]),[])) (E:=env) (m:=m+1) (dec:=d22) jn_ok (hct _) mixed Tryd.func61 rfl (Nat.le_of_ble_eq_true rfl) (fun b hb=>d22_sim hb) ((ref04_put_eq m a0 a1 a2).trans h)
theorem ref04_Put_fx (m:Nat) (hct:∀R,CallOK (R:=R) Tryd.prog (ct m)) (a0:Dt) (a1:List Dt) (a2:Dt) {r:Dt×Int} (h:ref04_Put (m+1) a0 a1 a2=some r):FX Tryd.prog 32 [(.dat 36 a0),(.dat 23 (.lst a1)),(.dat 36 a2)] [] (.tup [(.dat 36 r.1),(.dat 24 (.int r.2))]) []:=
 FX_of (q:=((.tup [(.dat 36 r.1),(.dat 24 (.int r.2))]),[])) (E:=env) (m:=m+1) (dec:=d14) jn_ok (hct _) mixed Tryd.func32 rfl (Nat.le_of_ble_eq_true rfl) (fun b hb=>d14_sim hb) ((ref04_Put_eq m a0 a1 a2).trans h)
theorem law04_PathPuts_fx (m:Nat) (hct:∀R,CallOK (R:=R) Tryd.prog (ct m)) (a0:Dt) (a1:List Dt) (a2:Dt) {r:Bool} (h:law04_PathPuts (m+1) a0 a1 a2=some r):FX Tryd.prog 7 [(.dat 36 a0),(.dat 23 (.lst a1)),(.dat 36 a2)] [] (.dat 4 (.bool r)) []:=
 FX_of (q:=((.dat 4 (.bool r)),[])) (E:=env) (m:=m+1) (dec:=d7) jn_ok (hct _) mixed Tryd.func7 rfl (Nat.le_of_ble_eq_true rfl) (fun b hb=>d7_sim hb) ((law04_PathPuts_eq m a0 a1 a2).trans h)
theorem ref01_tail_fx (m:Nat) (hct:∀R,CallOK (R:=R) Tryd.prog (ct m)) (a0:ByteArray) (a1 a2:Int) {r:Bool} (h:ref01_tail (m+1) a0 a1 a2=some r):FX Tryd.prog 84 [(.dat 9 (.str a0)),(.dat 3 (.int a1)),(.dat 3 (.int a2))] [] (.dat 4 (.bool r)) []:=
 FX_of (q:=((.dat 4 (.bool r)),[])) (E:=env) (m:=m+1) (dec:=d7) jn_ok (hct _) mixed Tryd.func84 rfl (Nat.le_of_ble_eq_true rfl) (fun b hb=>d7_sim hb) ((ref01_tail_eq m a0 a1 a2).trans h)
theorem ref01_UTF8_fx (m:Nat) (hct:∀R,CallOK (R:=R) Tryd.prog (ct m)) (a0:ByteArray) {r:Bool} (h:ref01_UTF8 (m+1) a0=some r):FX Tryd.prog 76 [(.dat 9 (.str a0))] [] (.dat 4 (.bool r)) []:=
 FX_of (q:=((.dat 4 (.bool r)),[])) (E:=env) (m:=m+1) (dec:=d7) jn_ok (hct _) mixed Tryd.func76 rfl (Nat.le_of_ble_eq_true rfl) (fun b hb=>d7_sim hb) ((ref01_UTF8_eq m a0).trans h)
theorem ref01_wide_fx (m:Nat) (hct:∀R,CallOK (R:=R) Tryd.prog (ct m)) (a0:ByteArray) {r:Bool} (h:ref01_wide (m+1) a0=some r):FX Tryd.prog 85 [(.dat 9 (.str a0))] [] (.dat 4 (.bool r)) []:=
 FX_of (q:=((.dat 4 (.bool r)),[])) (E:=env) (m:=m+1) (dec:=d7) jn_ok (hct _) mixed Tryd.func85 rfl (Nat.le_of_ble_eq_true rfl) (fun b hb=>d7_sim hb) ((ref01_wide_eq m a0).trans h)
theorem ref01_formed_fx (m:Nat) (hct:∀R,CallOK (R:=R) Tryd.prog (ct m)) (a0:Dt) (a1:Bool) {r:Bool} (h:ref01_formed (m+1) a0 a1=some r):FX Tryd.prog 62 [(.dat 36 a0),(.dat 4 (.bool a1))] [] (.dat 4 (.bool r)) []:=
 FX_of (q:=((.dat 4 (.bool r)),[])) (E:=env) (m:=m+1) (dec:=d7) jn_ok (hct _) mixed Tryd.func62 rfl (Nat.le_of_ble_eq_true rfl) (fun b hb=>d7_sim hb) ((ref01_formed_eq m a0 a1).trans h)
theorem ref01_fields_fx (m:Nat) (hct:∀R,CallOK (R:=R) Tryd.prog (ct m)) (a0:Dt) (a1:Bool) {r:Bool} (h:ref01_fields (m+1) a0 a1=some r):FX Tryd.prog 77 [(.dat 36 a0),(.dat 4 (.bool a1))] [] (.dat 4 (.bool r)) []:=
 FX_of (q:=((.dat 4 (.bool r)),[])) (E:=env) (m:=m+1) (dec:=d7) jn_ok (hct _) mixed Tryd.func77 rfl (Nat.le_of_ble_eq_true rfl) (fun b hb=>d7_sim hb) ((ref01_fields_eq m a0 a1).trans h)
theorem ref01_Valid_fx (m:Nat) (hct:∀R,CallOK (R:=R) Tryd.prog (ct m)) (a0:Dt) {r:Bool} (h:ref01_Valid (m+1) a0=some r):FX Tryd.prog 33 [(.dat 36 a0)] [] (.dat 4 (.bool r)) []:=
 FX_of (q:=((.dat 4 (.bool r)),[])) (E:=env) (m:=m+1) (dec:=d7) jn_ok (hct _) mixed Tryd.func33 rfl (Nat.le_of_ble_eq_true rfl) (fun b hb=>d7_sim hb) ((ref01_Valid_eq m a0).trans h)
theorem law04_PathChanges_fx (m:Nat) (hct:∀R,CallOK (R:=R) Tryd.prog (ct m)) (a0:Dt) {r:Bool} (h:law04_PathChanges (m+1) a0=some r):FX Tryd.prog 8 [(.dat 47 a0)] [] (.dat 4 (.bool r)) []:=
 FX_of (q:=((.dat 4 (.bool r)),[])) (E:=env) (m:=m+1) (dec:=d7) jn_ok (hct _) mixed Tryd.func8 rfl (Nat.le_of_ble_eq_true rfl) (fun b hb=>d7_sim hb) ((law04_PathChanges_eq m a0).trans h)
theorem ct6_ok (m:Nat) (hct:∀k,k<m→∀R,CallOK (R:=R) Tryd.prog (ct k)) {R:Type} {args:List AV} {objs:List Ob} {K:Res→Option R} {r:R} (h:ct6 m args objs K=some r):∃q:Res,K q=some r∧FX Tryd.prog 6 args objs q.1 q.2∧HasBody Tryd.prog 6:=by
 unfold ct6 at h
 split at h
 ·rename_i l hl
  obtain⟨x,hx,hk⟩:=Option.bind_eq_some_iff.1 h
  obtain⟨h1,h2⟩:=sel0_ok hl
  cases m with
  |zero=>cases hx
  |succ m=>exact⟨_,hk,(law04_PathGets_fx m (hct m (Nat.lt_succ_self m)) _ _ hx).conv h1 h2,⟨_,Tryd.func6,rfl,by decide⟩⟩
 cases h
theorem ct7_ok (m:Nat) (hct:∀k,k<m→∀R,CallOK (R:=R) Tryd.prog (ct k)) {R:Type} {args:List AV} {objs:List Ob} {K:Res→Option R} {r:R} (h:ct7 m args objs K=some r):∃q:Res,K q=some r∧FX Tryd.prog 7 args objs q.1 q.2∧HasBody Tryd.prog 7:=by
 unfold ct7 at h
 split at h
 ·rename_i l hl
  obtain⟨x,hx,hk⟩:=Option.bind_eq_some_iff.1 h
  obtain⟨h1,h2⟩:=sel1_ok hl
  cases m with
  |zero=>cases hx
  |succ m=>exact⟨_,hk,(law04_PathPuts_fx m (hct m (Nat.lt_succ_self m)) _ _ _ hx).conv h1 h2,⟨_,Tryd.func7,rfl,by decide⟩⟩
 cases h
theorem ct8_ok (m:Nat) (hct:∀k,k<m→∀R,CallOK (R:=R) Tryd.prog (ct k)) {R:Type} {args:List AV} {objs:List Ob} {K:Res→Option R} {r:R} (h:ct8 m args objs K=some r):∃q:Res,K q=some r∧FX Tryd.prog 8 args objs q.1 q.2∧HasBody Tryd.prog 8:=by
 unfold ct8 at h
 split at h
 ·rename_i l hl
  obtain⟨x,hx,hk⟩:=Option.bind_eq_some_iff.1 h
  obtain⟨h1,h2⟩:=sel2_ok hl
  cases m with
  |zero=>cases hx
  |succ m=>exact⟨_,hk,(law04_PathChanges_fx m (hct m (Nat.lt_succ_self m)) _ hx).conv h1 h2,⟨_,Tryd.func8,rfl,by decide⟩⟩
 cases h
theorem ct22_ok (m:Nat) (hct:∀k,k<m→∀R,CallOK (R:=R) Tryd.prog (ct k)) {R:Type} {args:List AV} {objs:List Ob} {K:Res→Option R} {r:R} (h:ct22 m args objs K=some r):∃q:Res,K q=some r∧FX Tryd.prog 22 args objs q.1 q.2∧HasBody Tryd.prog 22:=by
 unfold ct22 at h
 split at h
 ·rename_i l hl
  obtain⟨x,hx,hk⟩:=Option.bind_eq_some_iff.1 h
  obtain⟨h1,h2⟩:=sel0_ok hl
  cases m with
  |zero=>cases hx
  |succ m=>exact⟨_,hk,(law04_small_fx m (hct m (Nat.lt_succ_self m)) _ _ hx).conv h1 h2,⟨_,Tryd.func22,rfl,by decide⟩⟩
 cases h
theorem ct12_ok (m:Nat) (hct:∀k,k<m→∀R,CallOK (R:=R) Tryd.prog (ct k)) {R:Type} {args:List AV} {objs:List Ob} {K:Res→Option R} {r:R} (h:ct12 m args objs K=some r):∃q:Res,K q=some r∧FX Tryd.prog 12 args objs q.1 q.2∧HasBody Tryd.prog 12:=by
 unfold ct12 at h
 split at h
 ·rename_i l hl
  obtain⟨x,hx,hk⟩:=Option.bind_eq_some_iff.1 h
  obtain⟨h1,h2⟩:=sel4_ok hl
  exact⟨_,hk,(awakeC_fx hx).conv h1 h2,⟨_,Tryd.func12,rfl,by decide⟩⟩
 cases h
theorem ct23_ok (m:Nat) (hct:∀k,k<m→∀R,CallOK (R:=R) Tryd.prog (ct k)) {R:Type} {args:List AV} {objs:List Ob} {K:Res→Option R} {r:R} (h:ct23 m args objs K=some r):∃q:Res,K q=some r∧FX Tryd.prog 23 args objs q.1 q.2∧HasBody Tryd.prog 23:=by
 unfold ct23 at h
 split at h
 ·rename_i l hl
  obtain⟨x,hx,hk⟩:=Option.bind_eq_some_iff.1 h
  obtain⟨h1,h2⟩:=sel0_ok hl
  cases m with
  |zero=>cases hx
  |succ m=>exact⟨_,hk,(path_Get_fx m (hct m (Nat.lt_succ_self m)) _ _ hx).conv h1 h2,⟨_,Tryd.func23,rfl,by decide⟩⟩
 cases h
theorem ct25_ok (m:Nat) (hct:∀k,k<m→∀R,CallOK (R:=R) Tryd.prog (ct k)) {R:Type} {args:List AV} {objs:List Ob} {K:Res→Option R} {r:R} (h:ct25 m args objs K=some r):∃q:Res,K q=some r∧FX Tryd.prog 25 args objs q.1 q.2∧HasBody Tryd.prog 25:=by
 unfold ct25 at h
 split at h
 ·rename_i l hl
  obtain⟨x,hx,hk⟩:=Option.bind_eq_some_iff.1 h
  obtain⟨h1,h2⟩:=sel0_ok hl
  cases m with
  |zero=>cases hx
  |succ m=>exact⟨_,hk,(ref04_Get_fx m (hct m (Nat.lt_succ_self m)) _ _ hx).conv h1 h2,⟨_,Tryd.func25,rfl,by decide⟩⟩
 cases h
theorem ct24_ok (m:Nat) (hct:∀k,k<m→∀R,CallOK (R:=R) Tryd.prog (ct k)) {R:Type} {args:List AV} {objs:List Ob} {K:Res→Option R} {r:R} (h:ct24 m args objs K=some r):∃q:Res,K q=some r∧FX Tryd.prog 24 args objs q.1 q.2∧HasBody Tryd.prog 24:=by
 unfold ct24 at h
 split at h
 ·rename_i l hl
  obtain⟨x,hx,hk⟩:=Option.bind_eq_some_iff.1 h
  obtain⟨h1,h2⟩:=sel7_ok hl
  cases m with
  |zero=>cases hx
  |succ m=>exact⟨_,hk,(ref01_Same_fx m (hct m (Nat.lt_succ_self m)) _ _ hx).conv h1 h2,⟨_,Tryd.func24,rfl,by decide⟩⟩
 cases h
theorem ct28_ok (m:Nat) (hct:∀k,k<m→∀R,CallOK (R:=R) Tryd.prog (ct k)) {R:Type} {args:List AV} {objs:List Ob} {K:Res→Option R} {r:R} (h:ct28 m args objs K=some r):∃q:Res,K q=some r∧FX Tryd.prog 28 args objs q.1 q.2∧HasBody Tryd.prog 28:=by
 unfold ct28 at h
 split at h
 ·rename_i l hl
  obtain⟨x,hx,hk⟩:=Option.bind_eq_some_iff.1 h
  obtain⟨h1,h2⟩:=sel8_ok hl
  cases m with
  |zero=>cases hx
  |succ m=>exact⟨_,hk,(law04_lists_fx m (hct m (Nat.lt_succ_self m)) _ hx).conv h1 h2,⟨_,Tryd.func28,rfl,by decide⟩⟩
 cases h
theorem ct30_ok (m:Nat) (hct:∀k,k<m→∀R,CallOK (R:=R) Tryd.prog (ct k)) {R:Type} {args:List AV} {objs:List Ob} {K:Res→Option R} {r:R} (h:ct30 m args objs K=some r):∃q:Res,K q=some r∧FX Tryd.prog 30 args objs q.1 q.2∧HasBody Tryd.prog 30:=by
 unfold ct30 at h
 split at h
 ·rename_i l hl
  obtain⟨x,hx,hk⟩:=Option.bind_eq_some_iff.1 h
  obtain⟨h1,h2⟩:=sel0_ok hl
  cases m with
  |zero=>cases hx
  |succ m=>exact⟨_,hk,(path_Reach_fx m (hct m (Nat.lt_succ_self m)) _ _ hx).conv h1 h2,⟨_,Tryd.func30,rfl,by decide⟩⟩
 cases h
theorem ct29_ok (m:Nat) (hct:∀k,k<m→∀R,CallOK (R:=R) Tryd.prog (ct k)) {R:Type} {args:List AV} {objs:List Ob} {K:Res→Option R} {r:R} (h:ct29 m args objs K=some r):∃q:Res,K q=some r∧FX Tryd.prog 29 args objs q.1 q.2∧HasBody Tryd.prog 29:=by
 unfold ct29 at h
 split at h
 ·rename_i l hl
  obtain⟨x,hx,hk⟩:=Option.bind_eq_some_iff.1 h
  obtain⟨h1,h2⟩:=sel10_ok hl
  cases m with
  |zero=>cases hx
  |succ m=>exact⟨_,hk,(ref01_SameList_fx m (hct m (Nat.lt_succ_self m)) _ _ hx).conv h1 h2,⟨_,Tryd.func29,rfl,by decide⟩⟩
 cases h
theorem ct26_ok (m:Nat) (hct:∀k,k<m→∀R,CallOK (R:=R) Tryd.prog (ct k)) {R:Type} {args:List AV} {objs:List Ob} {K:Res→Option R} {r:R} (h:ct26 m args objs K=some r):∃q:Res,K q=some r∧FX Tryd.prog 26 args objs q.1 q.2∧HasBody Tryd.prog 26:=by
 unfold ct26 at h
 split at h
 ·rename_i l hl
  obtain⟨x,hx,hk⟩:=Option.bind_eq_some_iff.1 h
  obtain⟨h1,h2⟩:=sel0_ok hl
  exact⟨_,hk,(path_DropC_fx hx).conv h1 h2,⟨_,Tryd.func26,rfl,by decide⟩⟩
 cases h
theorem ct27_ok (m:Nat) (hct:∀k,k<m→∀R,CallOK (R:=R) Tryd.prog (ct k)) {R:Type} {args:List AV} {objs:List Ob} {K:Res→Option R} {r:R} (h:ct27 m args objs K=some r):∃q:Res,K q=some r∧FX Tryd.prog 27 args objs q.1 q.2∧HasBody Tryd.prog 27:=by
 unfold ct27 at h
 split at h
 ·rename_i l hl
  obtain⟨x,hx,hk⟩:=Option.bind_eq_some_iff.1 h
  obtain⟨h1,h2⟩:=sel0_ok hl
  cases m with
  |zero=>cases hx
  |succ m=>exact⟨_,hk,(ref04_Drop_fx m (hct m (Nat.lt_succ_self m)) _ _ hx).conv h1 h2,⟨_,Tryd.func27,rfl,by decide⟩⟩
 cases h
theorem ct31_ok (m:Nat) (hct:∀k,k<m→∀R,CallOK (R:=R) Tryd.prog (ct k)) {R:Type} {args:List AV} {objs:List Ob} {K:Res→Option R} {r:R} (h:ct31 m args objs K=some r):∃q:Res,K q=some r∧FX Tryd.prog 31 args objs q.1 q.2∧HasBody Tryd.prog 31:=by
 unfold ct31 at h
 split at h
 ·rename_i l hl
  obtain⟨x,hx,hk⟩:=Option.bind_eq_some_iff.1 h
  obtain⟨h1,h2⟩:=sel1_ok hl
  exact⟨_,hk,(path_PutC_fx hx).conv h1 h2,⟨_,Tryd.func31,rfl,by decide⟩⟩
 cases h
theorem ct32_ok (m:Nat) (hct:∀k,k<m→∀R,CallOK (R:=R) Tryd.prog (ct k)) {R:Type} {args:List AV} {objs:List Ob} {K:Res→Option R} {r:R} (h:ct32 m args objs K=some r):∃q:Res,K q=some r∧FX Tryd.prog 32 args objs q.1 q.2∧HasBody Tryd.prog 32:=by
 unfold ct32 at h
 split at h
 ·rename_i l hl
  obtain⟨x,hx,hk⟩:=Option.bind_eq_some_iff.1 h
  obtain⟨h1,h2⟩:=sel1_ok hl
  cases m with
  |zero=>cases hx
  |succ m=>exact⟨_,hk,(ref04_Put_fx m (hct m (Nat.lt_succ_self m)) _ _ _ hx).conv h1 h2,⟨_,Tryd.func32,rfl,by decide⟩⟩
 cases h
theorem ct34_ok (m:Nat) (hct:∀k,k<m→∀R,CallOK (R:=R) Tryd.prog (ct k)) {R:Type} {args:List AV} {objs:List Ob} {K:Res→Option R} {r:R} (h:ct34 m args objs K=some r):∃q:Res,K q=some r∧FX Tryd.prog 34 args objs q.1 q.2∧HasBody Tryd.prog 34:=by
 unfold ct34 at h
 split at h
 ·rename_i l hl
  obtain⟨x,hx,hk⟩:=Option.bind_eq_some_iff.1 h
  obtain⟨h1,h2⟩:=sel15_ok hl
  cases m with
  |zero=>cases hx
  |succ m=>exact⟨_,hk,(path_Overlap_fx m (hct m (Nat.lt_succ_self m)) _ _ hx).conv h1 h2,⟨_,Tryd.func34,rfl,by decide⟩⟩
 cases h
theorem ct33_ok (m:Nat) (hct:∀k,k<m→∀R,CallOK (R:=R) Tryd.prog (ct k)) {R:Type} {args:List AV} {objs:List Ob} {K:Res→Option R} {r:R} (h:ct33 m args objs K=some r):∃q:Res,K q=some r∧FX Tryd.prog 33 args objs q.1 q.2∧HasBody Tryd.prog 33:=by
 unfold ct33 at h
 split at h
 ·rename_i l hl
  obtain⟨x,hx,hk⟩:=Option.bind_eq_some_iff.1 h
  obtain⟨h1,h2⟩:=sel8_ok hl
  cases m with
  |zero=>cases hx
  |succ m=>exact⟨_,hk,(ref01_Valid_fx m (hct m (Nat.lt_succ_self m)) _ hx).conv h1 h2,⟨_,Tryd.func33,rfl,by decide⟩⟩
 cases h
theorem ct49_ok (m:Nat) (hct:∀k,k<m→∀R,CallOK (R:=R) Tryd.prog (ct k)) {R:Type} {args:List AV} {objs:List Ob} {K:Res→Option R} {r:R} (h:ct49 m args objs K=some r):∃q:Res,K q=some r∧FX Tryd.prog 49 args objs q.1 q.2∧HasBody Tryd.prog 49:=by
 unfold ct49 at h
 split at h
 ·rename_i l hl
  obtain⟨x,hx,hk⟩:=Option.bind_eq_some_iff.1 h
  obtain⟨h1,h2⟩:=sel8_ok hl
  cases m with
  |zero=>cases hx
  |succ m=>exact⟨_,hk,(ref01_Depth_fx m (hct m (Nat.lt_succ_self m)) _ hx).conv h1 h2,⟨_,Tryd.func49,rfl,by decide⟩⟩
 cases h
theorem ct50_ok (m:Nat) (hct:∀k,k<m→∀R,CallOK (R:=R) Tryd.prog (ct k)) {R:Type} {args:List AV} {objs:List Ob} {K:Res→Option R} {r:R} (h:ct50 m args objs K=some r):∃q:Res,K q=some r∧FX Tryd.prog 50 args objs q.1 q.2∧HasBody Tryd.prog 50:=by
 unfold ct50 at h
 split at h
 ·rename_i l hl
  obtain⟨x,hx,hk⟩:=Option.bind_eq_some_iff.1 h
  obtain⟨h1,h2⟩:=sel8_ok hl
  cases m with
  |zero=>cases hx
  |succ m=>exact⟨_,hk,(ref01_Nodes_fx m (hct m (Nat.lt_succ_self m)) _ hx).conv h1 h2,⟨_,Tryd.func50,rfl,by decide⟩⟩
 cases h
theorem ct51_ok (m:Nat) (hct:∀k,k<m→∀R,CallOK (R:=R) Tryd.prog (ct k)) {R:Type} {args:List AV} {objs:List Ob} {K:Res→Option R} {r:R} (h:ct51 m args objs K=some r):∃q:Res,K q=some r∧FX Tryd.prog 51 args objs q.1 q.2∧HasBody Tryd.prog 51:=by
 unfold ct51 at h
 split at h
 ·rename_i l hl
  obtain⟨x,hx,hk⟩:=Option.bind_eq_some_iff.1 h
  obtain⟨h1,h2⟩:=sel19_ok hl
  cases m with
  |zero=>cases hx
  |succ m=>exact⟨_,hk,(path_field_fx m (hct m (Nat.lt_succ_self m)) _ _ hx).conv h1 h2,⟨_,Tryd.func51,rfl,by decide⟩⟩
 cases h
theorem ct20_ok (m:Nat) (hct:∀k,k<m→∀R,CallOK (R:=R) Tryd.prog (ct k)) {R:Type} {args:List AV} {objs:List Ob} {K:Res→Option R} {r:R} (h:ct20 m args objs K=some r):∃q:Res,K q=some r∧FX Tryd.prog 20 args objs q.1 q.2∧HasBody Tryd.prog 20:=by
 unfold ct20 at h
 split at h
 ·rename_i l hl
  obtain⟨x,hx,hk⟩:=Option.bind_eq_some_iff.1 h
  obtain⟨h1,h2⟩:=sel20_ok hl
  cases m with
  |zero=>cases hx
  |succ m=>exact⟨_,hk,(path_Number_fx m (hct m (Nat.lt_succ_self m)) _ hx).conv h1 h2,⟨_,Tryd.func20,rfl,by decide⟩⟩
 cases h
theorem ct52_ok (m:Nat) (hct:∀k,k<m→∀R,CallOK (R:=R) Tryd.prog (ct k)) {R:Type} {args:List AV} {objs:List Ob} {K:Res→Option R} {r:R} (h:ct52 m args objs K=some r):∃q:Res,K q=some r∧FX Tryd.prog 52 args objs q.1 q.2∧HasBody Tryd.prog 52:=by
 unfold ct52 at h
 split at h
 ·rename_i l hl
  obtain⟨x,hx,hk⟩:=Option.bind_eq_some_iff.1 h
  obtain⟨h1,h2⟩:=sel8_ok hl
  cases m with
  |zero=>cases hx
  |succ m=>exact⟨_,hk,(path_clone_fx m (hct m (Nat.lt_succ_self m)) _ hx).conv h1 h2,⟨_,Tryd.func52,rfl,by decide⟩⟩
 cases h
theorem ct53_ok (m:Nat) (hct:∀k,k<m→∀R,CallOK (R:=R) Tryd.prog (ct k)) {R:Type} {args:List AV} {objs:List Ob} {K:Res→Option R} {r:R} (h:ct53 m args objs K=some r):∃q:Res,K q=some r∧FX Tryd.prog 53 args objs q.1 q.2∧HasBody Tryd.prog 53:=by
 unfold ct53 at h
 split at h
 ·rename_i l hl
  obtain⟨x,hx,hk⟩:=Option.bind_eq_some_iff.1 h
  obtain⟨h1,h2⟩:=sel22_ok hl
  cases m with
  |zero=>cases hx
  |succ m=>exact⟨_,hk,(ref01_Get_fx m (hct m (Nat.lt_succ_self m)) _ _ hx).conv h1 h2,⟨_,Tryd.func53,rfl,by decide⟩⟩
 cases h
theorem ct21_ok (m:Nat) (hct:∀k,k<m→∀R,CallOK (R:=R) Tryd.prog (ct k)) {R:Type} {args:List AV} {objs:List Ob} {K:Res→Option R} {r:R} (h:ct21 m args objs K=some r):∃q:Res,K q=some r∧FX Tryd.prog 21 args objs q.1 q.2∧HasBody Tryd.prog 21:=by
 unfold ct21 at h
 split at h
 ·rename_i l hl
  obtain⟨x,hx,hk⟩:=Option.bind_eq_some_iff.1 h
  obtain⟨h1,h2⟩:=sel20_ok hl
  cases m with
  |zero=>cases hx
  |succ m=>exact⟨_,hk,(ref04_Number_fx m (hct m (Nat.lt_succ_self m)) _ hx).conv h1 h2,⟨_,Tryd.func21,rfl,by decide⟩⟩
 cases h
theorem ct58_ok (m:Nat) (hct:∀k,k<m→∀R,CallOK (R:=R) Tryd.prog (ct k)) {R:Type} {args:List AV} {objs:List Ob} {K:Res→Option R} {r:R} (h:ct58 m args objs K=some r):∃q:Res,K q=some r∧FX Tryd.prog 58 args objs q.1 q.2∧HasBody Tryd.prog 58:=by
 unfold ct58 at h
 split at h
 ·rename_i l hl
  obtain⟨x,hx,hk⟩:=Option.bind_eq_some_iff.1 h
  obtain⟨h1,h2⟩:=sel8_ok hl
  cases m with
  |zero=>cases hx
  |succ m=>exact⟨_,hk,(ref01_Parts_fx m (hct m (Nat.lt_succ_self m)) _ hx).conv h1 h2,⟨_,Tryd.func58,rfl,by decide⟩⟩
 cases h
theorem ct59_ok (m:Nat) (hct:∀k,k<m→∀R,CallOK (R:=R) Tryd.prog (ct k)) {R:Type} {args:List AV} {objs:List Ob} {K:Res→Option R} {r:R} (h:ct59 m args objs K=some r):∃q:Res,K q=some r∧FX Tryd.prog 59 args objs q.1 q.2∧HasBody Tryd.prog 59:=by
 unfold ct59 at h
 split at h
 ·rename_i l hl
  obtain⟨x,hx,hk⟩:=Option.bind_eq_some_iff.1 h
  obtain⟨h1,h2⟩:=sel25_ok hl
  cases m with
  |zero=>cases hx
  |succ m=>exact⟨_,hk,(i25_fx m (hct m (Nat.lt_succ_self m)) _ _ _ hx).conv h1 h2,⟨_,Tryd.func59,rfl,by decide⟩⟩
 cases h
theorem ct55_ok (m:Nat) (hct:∀k,k<m→∀R,CallOK (R:=R) Tryd.prog (ct k)) {R:Type} {args:List AV} {objs:List Ob} {K:Res→Option R} {r:R} (h:ct55 m args objs K=some r):∃q:Res,K q=some r∧FX Tryd.prog 55 args objs q.1 q.2∧HasBody Tryd.prog 55:=by
 unfold ct55 at h
 split at h
 ·rename_i l hl
  obtain⟨x,hx,hk⟩:=Option.bind_eq_some_iff.1 h
  obtain⟨h1,h2⟩:=sel22_ok hl
  cases m with
  |zero=>cases hx
  |succ m=>exact⟨_,hk,(ref01_Remove_fx m (hct m (Nat.lt_succ_self m)) _ _ hx).conv h1 h2,⟨_,Tryd.func55,rfl,by decide⟩⟩
 cases h
theorem ct56_ok (m:Nat) (hct:∀k,k<m→∀R,CallOK (R:=R) Tryd.prog (ct k)) {R:Type} {args:List AV} {objs:List Ob} {K:Res→Option R} {r:R} (h:ct56 m args objs K=some r):∃q:Res,K q=some r∧FX Tryd.prog 56 args objs q.1 q.2∧HasBody Tryd.prog 56:=by
 unfold ct56 at h
 split at h
 ·rename_i l hl
  obtain⟨x,hx,hk⟩:=Option.bind_eq_some_iff.1 h
  obtain⟨h1,h2⟩:=sel27_ok hl
  cases m with
  |zero=>cases hx
  |succ m=>exact⟨_,hk,(ref01_Set_fx m (hct m (Nat.lt_succ_self m)) _ _ _ hx).conv h1 h2,⟨_,Tryd.func56,rfl,by decide⟩⟩
 cases h
theorem ct57_ok (m:Nat) (hct:∀k,k<m→∀R,CallOK (R:=R) Tryd.prog (ct k)) {R:Type} {args:List AV} {objs:List Ob} {K:Res→Option R} {r:R} (h:ct57 m args objs K=some r):∃q:Res,K q=some r∧FX Tryd.prog 57 args objs q.1 q.2∧HasBody Tryd.prog 57:=by
 unfold ct57 at h
 split at h
 ·rename_i l hl
  obtain⟨x,hx,hk⟩:=Option.bind_eq_some_iff.1 h
  obtain⟨h1,h2⟩:=sel4_ok hl
  cases m with
  |zero=>cases hx
  |succ m=>exact⟨_,hk,(ref01_Null_fx m (hct m (Nat.lt_succ_self m)) hx).conv h1 h2,⟨_,Tryd.func57,rfl,by decide⟩⟩
 cases h
theorem ct18_ok (m:Nat) (hct:∀k,k<m→∀R,CallOK (R:=R) Tryd.prog (ct k)) {R:Type} {args:List AV} {objs:List Ob} {K:Res→Option R} {r:R} (h:ct18 m args objs K=some r):∃q:Res,K q=some r∧FX Tryd.prog 18 args objs q.1 q.2∧HasBody Tryd.prog 18:=by
 unfold ct18 at h
 split at h
 ·rename_i l hl
  obtain⟨x,hx,hk⟩:=Option.bind_eq_some_iff.1 h
  obtain⟨h1,h2⟩:=sel29_ok hl
  cases m with
  |zero=>cases hx
  |succ m=>exact⟨_,hk,(ref04_Valid_fx m (hct m (Nat.lt_succ_self m)) _ hx).conv h1 h2,⟨_,Tryd.func18,rfl,by decide⟩⟩
 cases h
theorem ct61_ok (m:Nat) (hct:∀k,k<m→∀R,CallOK (R:=R) Tryd.prog (ct k)) {R:Type} {args:List AV} {objs:List Ob} {K:Res→Option R} {r:R} (h:ct61 m args objs K=some r):∃q:Res,K q=some r∧FX Tryd.prog 61 args objs q.1 q.2∧HasBody Tryd.prog 61:=by
 unfold ct61 at h
 split at h
 ·rename_i l hl
  obtain⟨x,hx,hk⟩:=Option.bind_eq_some_iff.1 h
  obtain⟨h1,h2⟩:=sel1_ok hl
  cases m with
  |zero=>cases hx
  |succ m=>exact⟨_,hk,(ref04_put_fx m (hct m (Nat.lt_succ_self m)) _ _ _ hx).conv h1 h2,⟨_,Tryd.func61,rfl,by decide⟩⟩
 cases h
theorem ct63_ok (m:Nat) (hct:∀k,k<m→∀R,CallOK (R:=R) Tryd.prog (ct k)) {R:Type} {args:List AV} {objs:List Ob} {K:Res→Option R} {r:R} (h:ct63 m args objs K=some r):∃q:Res,K q=some r∧FX Tryd.prog 63 args objs q.1 q.2∧HasBody Tryd.prog 63:=by
 unfold ct63 at h
 split at h
 ·rename_i l hl
  obtain⟨x,hx,hk⟩:=Option.bind_eq_some_iff.1 h
  obtain⟨h1,h2⟩:=sel15_ok hl
  cases m with
  |zero=>cases hx
  |succ m=>exact⟨_,hk,(slices_Equal_fx m (hct m (Nat.lt_succ_self m)) _ _ hx).conv h1 h2,⟨_,Tryd.func63,rfl,by decide⟩⟩
 cases h
theorem ct62_ok (m:Nat) (hct:∀k,k<m→∀R,CallOK (R:=R) Tryd.prog (ct k)) {R:Type} {args:List AV} {objs:List Ob} {K:Res→Option R} {r:R} (h:ct62 m args objs K=some r):∃q:Res,K q=some r∧FX Tryd.prog 62 args objs q.1 q.2∧HasBody Tryd.prog 62:=by
 unfold ct62 at h
 split at h
 ·rename_i l hl
  obtain⟨x,hx,hk⟩:=Option.bind_eq_some_iff.1 h
  obtain⟨h1,h2⟩:=sel32_ok hl
  cases m with
  |zero=>cases hx
  |succ m=>exact⟨_,hk,(ref01_formed_fx m (hct m (Nat.lt_succ_self m)) _ _ hx).conv h1 h2,⟨_,Tryd.func62,rfl,by decide⟩⟩
 cases h
theorem ct70_ok (m:Nat) (hct:∀k,k<m→∀R,CallOK (R:=R) Tryd.prog (ct k)) {R:Type} {args:List AV} {objs:List Ob} {K:Res→Option R} {r:R} (h:ct70 m args objs K=some r):∃q:Res,K q=some r∧FX Tryd.prog 70 args objs q.1 q.2∧HasBody Tryd.prog 70:=by
 unfold ct70 at h
 split at h
 ·rename_i l hl
  obtain⟨x,hx,hk⟩:=Option.bind_eq_some_iff.1 h
  obtain⟨h1,h2⟩:=sel33_ok hl
  cases m with
  |zero=>cases hx
  |succ m=>exact⟨_,hk,(ref01_levels_fx m (hct m (Nat.lt_succ_self m)) _ _ hx).conv h1 h2,⟨_,Tryd.func70,rfl,by decide⟩⟩
 cases h
theorem ct71_ok (m:Nat) (hct:∀k,k<m→∀R,CallOK (R:=R) Tryd.prog (ct k)) {R:Type} {args:List AV} {objs:List Ob} {K:Res→Option R} {r:R} (h:ct71 m args objs K=some r):∃q:Res,K q=some r∧FX Tryd.prog 71 args objs q.1 q.2∧HasBody Tryd.prog 71:=by
 unfold ct71 at h
 split at h
 ·rename_i l hl
  obtain⟨x,hx,hk⟩:=Option.bind_eq_some_iff.1 h
  obtain⟨h1,h2⟩:=sel33_ok hl
  cases m with
  |zero=>cases hx
  |succ m=>exact⟨_,hk,(ref01_count_fx m (hct m (Nat.lt_succ_self m)) _ _ hx).conv h1 h2,⟨_,Tryd.func71,rfl,by decide⟩⟩
 cases h
theorem ct72_ok (m:Nat) (hct:∀k,k<m→∀R,CallOK (R:=R) Tryd.prog (ct k)) {R:Type} {args:List AV} {objs:List Ob} {K:Res→Option R} {r:R} (h:ct72 m args objs K=some r):∃q:Res,K q=some r∧FX Tryd.prog 72 args objs q.1 q.2∧HasBody Tryd.prog 72:=by
 unfold ct72 at h
 split at h
 ·rename_i l hl
  obtain⟨x,hx,hk⟩:=Option.bind_eq_some_iff.1 h
  obtain⟨h1,h2⟩:=sel22_ok hl
  cases m with
  |zero=>cases hx
  |succ m=>exact⟨_,hk,(ref01_at_fx m (hct m (Nat.lt_succ_self m)) _ _ hx).conv h1 h2,⟨_,Tryd.func72,rfl,by decide⟩⟩
 cases h
theorem ct48_ok (m:Nat) (hct:∀k,k<m→∀R,CallOK (R:=R) Tryd.prog (ct k)) {R:Type} {args:List AV} {objs:List Ob} {K:Res→Option R} {r:R} (h:ct48 m args objs K=some r):∃q:Res,K q=some r∧FX Tryd.prog 48 args objs q.1 q.2∧HasBody Tryd.prog 48:=by
 unfold ct48 at h
 split at h
 ·rename_i l hl
  obtain⟨x,hx,hk⟩:=Option.bind_eq_some_iff.1 h
  obtain⟨h1,h2⟩:=sel20_ok hl
  cases m with
  |zero=>cases hx
  |succ m=>exact⟨_,hk,(ref01_Name_fx m (hct m (Nat.lt_succ_self m)) _ hx).conv h1 h2,⟨_,Tryd.func48,rfl,by decide⟩⟩
 cases h
theorem ct75_ok (m:Nat) (hct:∀k,k<m→∀R,CallOK (R:=R) Tryd.prog (ct k)) {R:Type} {args:List AV} {objs:List Ob} {K:Res→Option R} {r:R} (h:ct75 m args objs K=some r):∃q:Res,K q=some r∧FX Tryd.prog 75 args objs q.1 q.2∧HasBody Tryd.prog 75:=by
 unfold ct75 at h
 split at h
 ·rename_i l hl
  obtain⟨x,hx,hk⟩:=Option.bind_eq_some_iff.1 h
  obtain⟨h1,h2⟩:=sel37_ok hl
  cases m with
  |zero=>cases hx
  |succ m=>exact⟨_,hk,(ref04_fresh_fx m (hct m (Nat.lt_succ_self m)) _ _ hx).conv h1 h2,⟨_,Tryd.func75,rfl,by decide⟩⟩
 cases h
theorem ct76_ok (m:Nat) (hct:∀k,k<m→∀R,CallOK (R:=R) Tryd.prog (ct k)) {R:Type} {args:List AV} {objs:List Ob} {K:Res→Option R} {r:R} (h:ct76 m args objs K=some r):∃q:Res,K q=some r∧FX Tryd.prog 76 args objs q.1 q.2∧HasBody Tryd.prog 76:=by
 unfold ct76 at h
 split at h
 ·rename_i l hl
  obtain⟨x,hx,hk⟩:=Option.bind_eq_some_iff.1 h
  obtain⟨h1,h2⟩:=sel20_ok hl
  cases m with
  |zero=>cases hx
  |succ m=>exact⟨_,hk,(ref01_UTF8_fx m (hct m (Nat.lt_succ_self m)) _ hx).conv h1 h2,⟨_,Tryd.func76,rfl,by decide⟩⟩
 cases h
theorem ct77_ok (m:Nat) (hct:∀k,k<m→∀R,CallOK (R:=R) Tryd.prog (ct k)) {R:Type} {args:List AV} {objs:List Ob} {K:Res→Option R} {r:R} (h:ct77 m args objs K=some r):∃q:Res,K q=some r∧FX Tryd.prog 77 args objs q.1 q.2∧HasBody Tryd.prog 77:=by
 unfold ct77 at h
 split at h
 ·rename_i l hl
  obtain⟨x,hx,hk⟩:=Option.bind_eq_some_iff.1 h
  obtain⟨h1,h2⟩:=sel32_ok hl
  cases m with
  |zero=>cases hx
  |succ m=>exact⟨_,hk,(ref01_fields_fx m (hct m (Nat.lt_succ_self m)) _ _ hx).conv h1 h2,⟨_,Tryd.func77,rfl,by decide⟩⟩
 cases h
theorem ct84_ok (m:Nat) (hct:∀k,k<m→∀R,CallOK (R:=R) Tryd.prog (ct k)) {R:Type} {args:List AV} {objs:List Ob} {K:Res→Option R} {r:R} (h:ct84 m args objs K=some r):∃q:Res,K q=some r∧FX Tryd.prog 84 args objs q.1 q.2∧HasBody Tryd.prog 84:=by
 unfold ct84 at h
 split at h
 ·rename_i l hl
  obtain⟨x,hx,hk⟩:=Option.bind_eq_some_iff.1 h
  obtain⟨h1,h2⟩:=sel40_ok hl
  cases m with
  |zero=>cases hx
  |succ m=>exact⟨_,hk,(ref01_tail_fx m (hct m (Nat.lt_succ_self m)) _ _ _ hx).conv h1 h2,⟨_,Tryd.func84,rfl,by decide⟩⟩
 cases h
theorem ct85_ok (m:Nat) (hct:∀k,k<m→∀R,CallOK (R:=R) Tryd.prog (ct k)) {R:Type} {args:List AV} {objs:List Ob} {K:Res→Option R} {r:R} (h:ct85 m args objs K=some r):∃q:Res,K q=some r∧FX Tryd.prog 85 args objs q.1 q.2∧HasBody Tryd.prog 85:=by
 unfold ct85 at h
 split at h
 ·rename_i l hl
  obtain⟨x,hx,hk⟩:=Option.bind_eq_some_iff.1 h
  obtain⟨h1,h2⟩:=sel20_ok hl
  cases m with
  |zero=>cases hx
  |succ m=>exact⟨_,hk,(ref01_wide_fx m (hct m (Nat.lt_succ_self m)) _ hx).conv h1 h2,⟨_,Tryd.func85,rfl,by decide⟩⟩
 cases h
set_option maxHeartbeats 4000000 in
theorem ct_ok:∀(m:Nat) (R:Type),CallOK (R:=R) Tryd.prog (ct m):=by
 intro m
 induction m using Nat.strongRecOn with
 |_ m ih=>
  intro R f args objs K r h
  unfold ct at h
  rcases bset_some h with⟨hb,h1⟩| ⟨_,h⟩
  · have e:=beq_eq hb
    subst e
    exact ct6_ok m ih h1
  rcases bset_some h with⟨hb,h1⟩| ⟨_,h⟩
  · have e:=beq_eq hb
    subst e
    exact ct7_ok m ih h1
  rcases bset_some h with⟨hb,h1⟩| ⟨_,h⟩
  · have e:=beq_eq hb
    subst e
    exact ct8_ok m ih h1
  rcases bset_some h with⟨hb,h1⟩| ⟨_,h⟩
  · have e:=beq_eq hb
    subst e
    exact ct22_ok m ih h1
  rcases bset_some h with⟨hb,h1⟩| ⟨_,h⟩
  · have e:=beq_eq hb
    subst e
    exact ct12_ok m ih h1
  rcases bset_some h with⟨hb,h1⟩| ⟨_,h⟩
  · have e:=beq_eq hb
    subst e
    exact ct23_ok m ih h1
  rcases bset_some h with⟨hb,h1⟩| ⟨_,h⟩
  · have e:=beq_eq hb
    subst e
    exact ct25_ok m ih h1
  rcases bset_some h with⟨hb,h1⟩| ⟨_,h⟩
  · have e:=beq_eq hb
    subst e
    exact ct24_ok m ih h1
  rcases bset_some h with⟨hb,h1⟩| ⟨_,h⟩
  · have e:=beq_eq hb
    subst e
    exact ct28_ok m ih h1
  rcases bset_some h with⟨hb,h1⟩| ⟨_,h⟩
  · have e:=beq_eq hb
    subst e
    exact ct30_ok m ih h1
  rcases bset_some h with⟨hb,h1⟩| ⟨_,h⟩
  · have e:=beq_eq hb
    subst e
    exact ct29_ok m ih h1
  rcases bset_some h with⟨hb,h1⟩| ⟨_,h⟩
  · have e:=beq_eq hb
    subst e
    exact ct26_ok m ih h1
  rcases bset_some h with⟨hb,h1⟩| ⟨_,h⟩
  · have e:=beq_eq hb
    subst e
    exact ct27_ok m ih h1
  rcases bset_some h with⟨hb,h1⟩| ⟨_,h⟩
  · have e:=beq_eq hb
    subst e
    exact ct31_ok m ih h1
  rcases bset_some h with⟨hb,h1⟩| ⟨_,h⟩
  · have e:=beq_eq hb
    subst e
    exact ct32_ok m ih h1
  rcases bset_some h with⟨hb,h1⟩| ⟨_,h⟩
  · have e:=beq_eq hb
    subst e
    exact ct34_ok m ih h1
  rcases bset_some h with⟨hb,h1⟩| ⟨_,h⟩
  · have e:=beq_eq hb
    subst e
    exact ct33_ok m ih h1
  rcases bset_some h with⟨hb,h1⟩| ⟨_,h⟩
  · have e:=beq_eq hb
    subst e
    exact ct49_ok m ih h1
  rcases bset_some h with⟨hb,h1⟩| ⟨_,h⟩
  · have e:=beq_eq hb
    subst e
    exact ct50_ok m ih h1
  rcases bset_some h with⟨hb,h1⟩| ⟨_,h⟩
  · have e:=beq_eq hb
    subst e
    exact ct51_ok m ih h1
  rcases bset_some h with⟨hb,h1⟩| ⟨_,h⟩
  · have e:=beq_eq hb
    subst e
    exact ct20_ok m ih h1
  rcases bset_some h with⟨hb,h1⟩| ⟨_,h⟩
  · have e:=beq_eq hb
    subst e
    exact ct52_ok m ih h1
  rcases bset_some h with⟨hb,h1⟩| ⟨_,h⟩
  · have e:=beq_eq hb
    subst e
    exact ct53_ok m ih h1
  rcases bset_some h with⟨hb,h1⟩| ⟨_,h⟩
  · have e:=beq_eq hb
    subst e
    exact ct21_ok m ih h1
  rcases bset_some h with⟨hb,h1⟩| ⟨_,h⟩
  · have e:=beq_eq hb
    subst e
    exact ct58_ok m ih h1
  rcases bset_some h with⟨hb,h1⟩| ⟨_,h⟩
  · have e:=beq_eq hb
    subst e
    exact ct59_ok m ih h1
  rcases bset_some h with⟨hb,h1⟩| ⟨_,h⟩
  · have e:=beq_eq hb
    subst e
    exact ct55_ok m ih h1
  rcases bset_some h with⟨hb,h1⟩| ⟨_,h⟩
  · have e:=beq_eq hb
    subst e
    exact ct56_ok m ih h1
  rcases bset_some h with⟨hb,h1⟩| ⟨_,h⟩
  · have e:=beq_eq hb
    subst e
    exact ct57_ok m ih h1
  rcases bset_some h with⟨hb,h1⟩| ⟨_,h⟩
  · have e:=beq_eq hb
    subst e
    exact ct18_ok m ih h1
  rcases bset_some h with⟨hb,h1⟩| ⟨_,h⟩
  · have e:=beq_eq hb
    subst e
    exact ct61_ok m ih h1
  rcases bset_some h with⟨hb,h1⟩| ⟨_,h⟩
  · have e:=beq_eq hb
    subst e
    exact ct63_ok m ih h1
  rcases bset_some h with⟨hb,h1⟩| ⟨_,h⟩
  · have e:=beq_eq hb
    subst e
    exact ct62_ok m ih h1
  rcases bset_some h with⟨hb,h1⟩| ⟨_,h⟩
  · have e:=beq_eq hb
    subst e
    exact ct70_ok m ih h1
  rcases bset_some h with⟨hb,h1⟩| ⟨_,h⟩
  · have e:=beq_eq hb
    subst e
    exact ct71_ok m ih h1
  rcases bset_some h with⟨hb,h1⟩| ⟨_,h⟩
  · have e:=beq_eq hb
    subst e
    exact ct72_ok m ih h1
  rcases bset_some h with⟨hb,h1⟩| ⟨_,h⟩
  · have e:=beq_eq hb
    subst e
    exact ct48_ok m ih h1
  rcases bset_some h with⟨hb,h1⟩| ⟨_,h⟩
  · have e:=beq_eq hb
    subst e
    exact ct75_ok m ih h1
  rcases bset_some h with⟨hb,h1⟩| ⟨_,h⟩
  · have e:=beq_eq hb
    subst e
    exact ct76_ok m ih h1
  rcases bset_some h with⟨hb,h1⟩| ⟨_,h⟩
  · have e:=beq_eq hb
    subst e
    exact ct77_ok m ih h1
  rcases bset_some h with⟨hb,h1⟩| ⟨_,h⟩
  · have e:=beq_eq hb
    subst e
    exact ct84_ok m ih h1
  rcases bset_some h with⟨hb,h1⟩| ⟨_,h⟩
  · have e:=beq_eq hb
    subst e
    exact ct85_ok m ih h1
  cases h
end Go.Proofs.YtmjnmiahblaanaaDoor
