/- Generated: the contracts. -/
import Derived.Test.YtbailjcjlapenaaGreatDoorEq0
import Derived.Test.YtbailjcjlapenaaGreatDoorEq1
set_option linter.unusedVariables false
set_option linter.unusedSimpArgs false
namespace Go.Proofs.YtbailjcjlapenaaGreatDoor
open Go.Am
set_option maxRecDepth 100000
theorem mixed:Tryz.prog.follows .mixedOrders=true:=by kernel_rfl
theorem i7_fx (m:Nat) (hct:∀R,CallOK (R:=R) Tryz.prog (ct m)) (a0:Dt) {r:List Dt} (h:i7 (m+1) a0=some r):FX Tryz.prog 22 [(.rptr 60 a0)] [] (.dat 80 (.lst r)) []:=
 FX_of (q:=((.dat 80 (.lst r)),[])) (E:=env) (m:=m+1) (dec:=d7) jn_ok (hct _) mixed Tryz.func22 rfl (Nat.le_of_ble_eq_true rfl) (fun b hb=>d7_sim hb) ((i7_eq m a0).trans h)
theorem i6_fx (m:Nat) (hct:∀R,CallOK (R:=R) Tryz.prog (ct m)) (a0:List Dt) (a1 a2:Int) {r:Bool×Int} (h:i6 (m+1) a0 a1 a2=some r):FX Tryz.prog 11 [(.dat 53 (.lst a0)),(.dat 3 (.int a1)),(.ptr 0 [] 0)] [(.box 3 (.dat 3 (.int a2)))] (.dat 4 (.bool r.1)) [(.box 3 (.dat 3 (.int r.2)))]:=
 FX_of (q:=((.dat 4 (.bool r.1)),[(.box 3 (.dat 3 (.int r.2)))])) (E:=env) (m:=m+1) (dec:=d6) jn_ok (hct _) mixed Tryz.func11 rfl (Nat.le_of_ble_eq_true rfl) (fun b hb=>d6_sim hb) ((i6_eq m a0 a1 a2).trans h)
theorem ref12_same_fx (m:Nat) (hct:∀R,CallOK (R:=R) Tryz.prog (ct m)) (a0 a1:List Dt) {r:Bool} (h:ref12_same (m+1) a0 a1=some r):FX Tryz.prog 27 [(.dat 22 (.lst a0)),(.dat 22 (.lst a1))] [] (.dat 4 (.bool r)) []:=
 FX_of (q:=((.dat 4 (.bool r)),[])) (E:=env) (m:=m+1) (dec:=d17) jn_ok (hct _) mixed Tryz.func27 rfl (Nat.le_of_ble_eq_true rfl) (fun b hb=>d17_sim hb) ((ref12_same_eq m a0 a1).trans h)
theorem ref01_Name_fx (m:Nat) (hct:∀R,CallOK (R:=R) Tryz.prog (ct m)) (a0:ByteArray) {r:Bool} (h:ref01_Name (m+1) a0=some r):FX Tryz.prog 28 [(.dat 9 (.str a0))] [] (.dat 4 (.bool r)) []:=
 FX_of (q:=((.dat 4 (.bool r)),[])) (E:=env) (m:=m+1) (dec:=d17) jn_ok (hct _) mixed Tryz.func28 rfl (Nat.le_of_ble_eq_true rfl) (fun b hb=>d17_sim hb) ((ref01_Name_eq m a0).trans h)
theorem ref31_output_fx (m:Nat) (hct:∀R,CallOK (R:=R) Tryz.prog (ct m)) (a0:ByteArray) {r:Bool} (h:ref31_output (m+1) a0=some r):FX Tryz.prog 15 [(.dat 9 (.str a0))] [] (.dat 4 (.bool r)) []:=
 FX_of (q:=((.dat 4 (.bool r)),[])) (E:=env) (m:=m+1) (dec:=d17) jn_ok (hct _) mixed Tryz.func15 rfl (Nat.le_of_ble_eq_true rfl) (fun b hb=>d17_sim hb) ((ref31_output_eq m a0).trans h)
theorem ref04_Valid_fx (m:Nat) (hct:∀R,CallOK (R:=R) Tryz.prog (ct m)) (a0:List Dt) {r:Bool} (h:ref04_Valid (m+1) a0=some r):FX Tryz.prog 26 [(.dat 22 (.lst a0))] [] (.dat 4 (.bool r)) []:=
 FX_of (q:=((.dat 4 (.bool r)),[])) (E:=env) (m:=m+1) (dec:=d17) jn_ok (hct _) mixed Tryz.func26 rfl (Nat.le_of_ble_eq_true rfl) (fun b hb=>d17_sim hb) ((ref04_Valid_eq m a0).trans h)
theorem ref12_Valid_fx (m:Nat) (hct:∀R,CallOK (R:=R) Tryz.prog (ct m)) (a0:List Dt) {r:Int} (h:ref12_Valid (m+1) a0=some r):FX Tryz.prog 14 [(.dat 30 (.lst a0))] [] (.dat 34 (.int r)) []:=
 FX_of (q:=((.dat 34 (.int r)),[])) (E:=env) (m:=m+1) (dec:=d10) jn_ok (hct _) mixed Tryz.func14 rfl (Nat.le_of_ble_eq_true rfl) (fun b hb=>d10_sim hb) ((ref12_Valid_eq m a0).trans h)
theorem pipeline_unless_fx (m:Nat) (hct:∀R,CallOK (R:=R) Tryz.prog (ct m)) (a0:Bool) (a1:Int) {r:Int} (h:pipeline_unless (m+1) a0 a1=some r):FX Tryz.prog 47 [(.dat 4 (.bool a0)),(.dat 34 (.int a1))] [] (.dat 34 (.int r)) []:=
 FX_of (q:=((.dat 34 (.int r)),[])) (E:=env) (m:=m+1) (dec:=d10) jn_ok (hct _) mixed Tryz.func47 rfl (Nat.le_of_ble_eq_true rfl) (fun b hb=>d10_sim hb) ((pipeline_unless_eq m a0 a1).trans h)
theorem slices_Equal_fx (m:Nat) (hct:∀R,CallOK (R:=R) Tryz.prog (ct m)) (a0 a1:List Dt) {r:Bool} (h:slices_Equal (m+1) a0 a1=some r):FX Tryz.prog 89 [(.dat 22 (.lst a0)),(.dat 22 (.lst a1))] [] (.dat 4 (.bool r)) []:=
 FX_of (q:=((.dat 4 (.bool r)),[])) (E:=env) (m:=m+1) (dec:=d17) jn_ok (hct _) mixed Tryz.func89 rfl (Nat.le_of_ble_eq_true rfl) (fun b hb=>d17_sim hb) ((slices_Equal_eq m a0 a1).trans h)
theorem path_notName_fx (m:Nat) (hct:∀R,CallOK (R:=R) Tryz.prog (ct m)) (a0:ByteArray) {r:Bool} (h:path_notName (m+1) a0=some r):FX Tryz.prog 91 [(.dat 9 (.str a0))] [] (.dat 4 (.bool r)) []:=
 FX_of (q:=((.dat 4 (.bool r)),[])) (E:=env) (m:=m+1) (dec:=d17) jn_ok (hct _) mixed Tryz.func91 rfl (Nat.le_of_ble_eq_true rfl) (fun b hb=>d17_sim hb) ((path_notName_eq m a0).trans h)
theorem i39_fx (m:Nat) (hct:∀R,CallOK (R:=R) Tryz.prog (ct m)) (a0:List Dt) {r:Int} (h:i39 (m+1) a0=some r):FX Tryz.prog 117 [(.dat 22 (.lst a0)),(.fn 91 [])] [] (.dat 3 (.int r)) []:=
 FX_of (q:=((.dat 3 (.int r)),[])) (E:=env) (m:=m+1) (dec:=d39) jn_ok (hct _) mixed Tryz.func117 rfl (Nat.le_of_ble_eq_true rfl) (fun b hb=>d39_sim hb) ((i39_eq m a0).trans h)
theorem i38_fx (m:Nat) (hct:∀R,CallOK (R:=R) Tryz.prog (ct m)) (a0:List Dt) {r:Bool} (h:i38 (m+1) a0=some r):FX Tryz.prog 90 [(.dat 22 (.lst a0)),(.fn 91 [])] [] (.dat 4 (.bool r)) []:=
 FX_of (q:=((.dat 4 (.bool r)),[])) (E:=env) (m:=m+1) (dec:=d17) jn_ok (hct _) mixed Tryz.func90 rfl (Nat.le_of_ble_eq_true rfl) (fun b hb=>d17_sim hb) ((i38_eq m a0).trans h)
theorem path_Valid_fx (m:Nat) (hct:∀R,CallOK (R:=R) Tryz.prog (ct m)) (a0:List Dt) {r:Bool} (h:path_Valid (m+1) a0=some r):FX Tryz.prog 48 [(.dat 22 (.lst a0))] [] (.dat 4 (.bool r)) []:=
 FX_of (q:=((.dat 4 (.bool r)),[])) (E:=env) (m:=m+1) (dec:=d17) jn_ok (hct _) mixed Tryz.func48 rfl (Nat.le_of_ble_eq_true rfl) (fun b hb=>d17_sim hb) ((path_Valid_eq m a0).trans h)
theorem order_Valid_fx (m:Nat) (hct:∀R,CallOK (R:=R) Tryz.prog (ct m)) (a0:List Dt) {r:Int} (h:order_Valid (m+1) a0=some r):FX Tryz.prog 46 [(.dat 30 (.lst a0))] [] (.dat 34 (.int r)) []:=
 FX_of (q:=((.dat 34 (.int r)),[])) (E:=env) (m:=m+1) (dec:=d10) jn_ok (hct _) mixed Tryz.func46 rfl (Nat.le_of_ble_eq_true rfl) (fun b hb=>d10_sim hb) ((order_Valid_eq m a0).trans h)
theorem pipeline_isName_fx (m:Nat) (hct:∀R,CallOK (R:=R) Tryz.prog (ct m)) (a0:ByteArray) {r:Bool} (h:pipeline_isName (m+1) a0=some r):FX Tryz.prog 92 [(.dat 9 (.str a0))] [] (.dat 4 (.bool r)) []:=
 FX_of (q:=((.dat 4 (.bool r)),[])) (E:=env) (m:=m+1) (dec:=d17) jn_ok (hct _) mixed Tryz.func92 rfl (Nat.le_of_ble_eq_true rfl) (fun b hb=>d17_sim hb) ((pipeline_isName_eq m a0).trans h)
theorem pipeline_isOutput_fx (m:Nat) (hct:∀R,CallOK (R:=R) Tryz.prog (ct m)) (a0:ByteArray) {r:Bool} (h:pipeline_isOutput (m+1) a0=some r):FX Tryz.prog 49 [(.dat 9 (.str a0))] [] (.dat 4 (.bool r)) []:=
 FX_of (q:=((.dat 4 (.bool r)),[])) (E:=env) (m:=m+1) (dec:=d17) jn_ok (hct _) mixed Tryz.func49 rfl (Nat.le_of_ble_eq_true rfl) (fun b hb=>d17_sim hb) ((pipeline_isOutput_eq m a0).trans h)
theorem ref01_Same_fx (m:Nat) (hct:∀R,CallOK (R:=R) Tryz.prog (ct m)) (a0 a1:Dt) {r:Bool} (h:ref01_Same (m+1) a0 a1=some r):FX Tryz.prog 101 [(.dat 26 a0),(.dat 26 a1)] [] (.dat 4 (.bool r)) []:=
 FX_of (q:=((.dat 4 (.bool r)),[])) (E:=env) (m:=m+1) (dec:=d17) jn_ok (hct _) mixed Tryz.func101 rfl (Nat.le_of_ble_eq_true rfl) (fun b hb=>d17_sim hb) ((ref01_Same_eq m a0 a1).trans h)
theorem ref08_named_fx (m:Nat) (hct:∀R,CallOK (R:=R) Tryz.prog (ct m)) (a0:List Dt) {r:Bool} (h:ref08_named (m+1) a0=some r):FX Tryz.prog 99 [(.dat 22 (.lst a0))] [] (.dat 4 (.bool r)) []:=
 FX_of (q:=((.dat 4 (.bool r)),[])) (E:=env) (m:=m+1) (dec:=d17) jn_ok (hct _) mixed Tryz.func99 rfl (Nat.le_of_ble_eq_true rfl) (fun b hb=>d17_sim hb) ((ref08_named_eq m a0).trans h)
theorem ref08_Kids_fx (m:Nat) (hct:∀R,CallOK (R:=R) Tryz.prog (ct m)) (a0:Int) {r:Int} (h:ref08_Kids (m+1) a0=some r):FX Tryz.prog 98 [(.dat 3 (.int a0))] [] (.dat 3 (.int r)) []:=
 FX_of (q:=((.dat 3 (.int r)),[])) (E:=env) (m:=m+1) (dec:=d39) jn_ok (hct _) mixed Tryz.func98 rfl (Nat.le_of_ble_eq_true rfl) (fun b hb=>d39_sim hb) ((ref08_Kids_eq m a0).trans h)
theorem expr_isName_fx (m:Nat) (hct:∀R,CallOK (R:=R) Tryz.prog (ct m)) (a0:ByteArray) {r:Bool} (h:expr_isName (m+1) a0=some r):FX Tryz.prog 157 [(.dat 9 (.str a0))] [] (.dat 4 (.bool r)) []:=
 FX_of (q:=((.dat 4 (.bool r)),[])) (E:=env) (m:=m+1) (dec:=d17) jn_ok (hct _) mixed Tryz.func157 rfl (Nat.le_of_ble_eq_true rfl) (fun b hb=>d17_sim hb) ((expr_isName_eq m a0).trans h)
theorem expr_isZero_fx (m:Nat) (hct:∀R,CallOK (R:=R) Tryz.prog (ct m)) (a0:Dt) {r:Bool} (h:expr_isZero (m+1) a0=some r):FX Tryz.prog 159 [(.dat 26 a0)] [] (.dat 4 (.bool r)) []:=
 FX_of (q:=((.dat 4 (.bool r)),[])) (E:=env) (m:=m+1) (dec:=d17) jn_ok (hct _) mixed Tryz.func159 rfl (Nat.le_of_ble_eq_true rfl) (fun b hb=>d17_sim hb) ((expr_isZero_eq m a0).trans h)
theorem expr_distinctNames_fx (m:Nat) (hct:∀R,CallOK (R:=R) Tryz.prog (ct m)) (a0:List Dt) {r:Bool} (h:expr_distinctNames (m+1) a0=some r):FX Tryz.prog 158 [(.dat 22 (.lst a0))] [] (.dat 4 (.bool r)) []:=
 FX_of (q:=((.dat 4 (.bool r)),[])) (E:=env) (m:=m+1) (dec:=d17) jn_ok (hct _) mixed Tryz.func158 rfl (Nat.le_of_ble_eq_true rfl) (fun b hb=>d17_sim hb) ((expr_distinctNames_eq m a0).trans h)
theorem expr_shape_fx (m:Nat) (hct:∀R,CallOK (R:=R) Tryz.prog (ct m)) (a0:Int) {r:Int} (h:expr_shape (m+1) a0=some r):FX Tryz.prog 156 [(.dat 3 (.int a0))] [] (.dat 3 (.int r)) []:=
 FX_of (q:=((.dat 3 (.int r)),[])) (E:=env) (m:=m+1) (dec:=d39) jn_ok (hct _) mixed Tryz.func156 rfl (Nat.le_of_ble_eq_true rfl) (fun b hb=>d39_sim hb) ((expr_shape_eq m a0).trans h)
theorem expr_hasKids_fx (m:Nat) (hct:∀R,CallOK (R:=R) Tryz.prog (ct m)) (a0 a1:Int) {r:Bool} (h:expr_hasKids (m+1) a0 a1=some r):FX Tryz.prog 155 [(.dat 3 (.int a0)),(.dat 3 (.int a1))] [] (.dat 4 (.bool r)) []:=
 FX_of (q:=((.dat 4 (.bool r)),[])) (E:=env) (m:=m+1) (dec:=d17) jn_ok (hct _) mixed Tryz.func155 rfl (Nat.le_of_ble_eq_true rfl) (fun b hb=>d17_sim hb) ((expr_hasKids_eq m a0 a1).trans h)
theorem ref04_prefix_fx (m:Nat) (hct:∀R,CallOK (R:=R) Tryz.prog (ct m)) (a0 a1:List Dt) {r:Bool} (h:ref04_prefix (m+1) a0 a1=some r):FX Tryz.prog 127 [(.dat 22 (.lst a0)),(.dat 22 (.lst a1))] [] (.dat 4 (.bool r)) []:=
 FX_of (q:=((.dat 4 (.bool r)),[])) (E:=env) (m:=m+1) (dec:=d17) jn_ok (hct _) mixed Tryz.func127 rfl (Nat.le_of_ble_eq_true rfl) (fun b hb=>d17_sim hb) ((ref04_prefix_eq m a0 a1).trans h)
theorem ref04_Same_fx (m:Nat) (hct:∀R,CallOK (R:=R) Tryz.prog (ct m)) (a0 a1:List Dt) {r:Bool} (h:ref04_Same (m+1) a0 a1=some r):FX Tryz.prog 102 [(.dat 22 (.lst a0)),(.dat 22 (.lst a1))] [] (.dat 4 (.bool r)) []:=
 FX_of (q:=((.dat 4 (.bool r)),[])) (E:=env) (m:=m+1) (dec:=d17) jn_ok (hct _) mixed Tryz.func102 rfl (Nat.le_of_ble_eq_true rfl) (fun b hb=>d17_sim hb) ((ref04_Same_eq m a0 a1).trans h)
theorem ref23_SameExpr_fx (m:Nat) (hct:∀R,CallOK (R:=R) Tryz.prog (ct m)) (a0 a1:Dt) {r:Bool} (h:ref23_SameExpr (m+1) a0 a1=some r):FX Tryz.prog 59 [(.dat 29 a0),(.dat 29 a1)] [] (.dat 4 (.bool r)) []:=
 FX_of (q:=((.dat 4 (.bool r)),[])) (E:=env) (m:=m+1) (dec:=d17) jn_ok (hct _) mixed Tryz.func59 rfl (Nat.le_of_ble_eq_true rfl) (fun b hb=>d17_sim hb) ((ref23_SameExpr_eq m a0 a1).trans h)
theorem ref31_zeroExpr_fx (m:Nat) (hct:∀R,CallOK (R:=R) Tryz.prog (ct m)) (a0:Dt) {r:Bool} (h:ref31_zeroExpr (m+1) a0=some r):FX Tryz.prog 29 [(.dat 29 a0)] [] (.dat 4 (.bool r)) []:=
 FX_of (q:=((.dat 4 (.bool r)),[])) (E:=env) (m:=m+1) (dec:=d17) jn_ok (hct _) mixed Tryz.func29 rfl (Nat.le_of_ble_eq_true rfl) (fun b hb=>d17_sim hb) ((ref31_zeroExpr_eq m a0).trans h)
theorem pipeline_zeroValue_fx (m:Nat) (hct:∀R,CallOK (R:=R) Tryz.prog (ct m)) (a0:Dt) {r:Bool} (h:pipeline_zeroValue (m+1) a0=some r):FX Tryz.prog 115 [(.dat 26 a0)] [] (.dat 4 (.bool r)) []:=
 FX_of (q:=((.dat 4 (.bool r)),[])) (E:=env) (m:=m+1) (dec:=d17) jn_ok (hct _) mixed Tryz.func115 rfl (Nat.le_of_ble_eq_true rfl) (fun b hb=>d17_sim hb) ((pipeline_zeroValue_eq m a0).trans h)
theorem pipeline_zeroExpr_fx (m:Nat) (hct:∀R,CallOK (R:=R) Tryz.prog (ct m)) (a0:Dt) {r:Bool} (h:pipeline_zeroExpr (m+1) a0=some r):FX Tryz.prog 79 [(.dat 29 a0)] [] (.dat 4 (.bool r)) []:=
 FX_of (q:=((.dat 4 (.bool r)),[])) (E:=env) (m:=m+1) (dec:=d17) jn_ok (hct _) mixed Tryz.func79 rfl (Nat.le_of_ble_eq_true rfl) (fun b hb=>d17_sim hb) ((pipeline_zeroExpr_eq m a0).trans h)
theorem value_nodes_fx (m:Nat) (hct:∀R,CallOK (R:=R) Tryz.prog (ct m)) (a0:Dt) (a1:Int) {r:Int} (h:value_nodes (m+1) a0 a1=some r):FX Tryz.prog 151 [(.dat 26 a0),(.dat 3 (.int a1))] [] (.dat 3 (.int r)) []:=
 FX_of (q:=((.dat 3 (.int r)),[])) (E:=env) (m:=m+1) (dec:=d39) jn_ok (hct _) mixed Tryz.func151 rfl (Nat.le_of_ble_eq_true rfl) (fun b hb=>d39_sim hb) ((value_nodes_eq m a0 a1).trans h)
theorem i76_fx (m:Nat) (hct:∀R,CallOK (R:=R) Tryz.prog (ct m)) (a0:Dt) (a1 a2:Int) {r:Int×Int} (h:i76 (m+1) a0 a1 a2=some r):FX Tryz.prog 180 [(.dat 26 a0),(.fn 181 [(.ptr 0 [] 0),(.ptr 1 [] 0)])] [(.box 3 (.dat 3 (.int a1))),(.box 3 (.dat 3 (.int a2)))] (.tup []) [(.box 3 (.dat 3 (.int r.1))),(.box 3 (.dat 3 (.int r.2)))]:=
 FX_of (q:=((.tup []),[(.box 3 (.dat 3 (.int r.1))),(.box 3 (.dat 3 (.int r.2)))])) (E:=env) (m:=m+1) (dec:=d76) jn_ok (hct _) mixed Tryz.func180 rfl (Nat.le_of_ble_eq_true rfl) (fun b hb=>d76_sim hb) ((i76_eq m a0 a1 a2).trans h)
theorem i77_fx (m:Nat) (hct:∀R,CallOK (R:=R) Tryz.prog (ct m)) (a0:Dt) (a1 a2:Int) {r:Bool×Int×Int} (h:i77 (m+1) a0 a1 a2=some r):FX Tryz.prog 181 [(.dat 26 a0),(.ptr 0 [] 0),(.ptr 1 [] 0)] [(.box 3 (.dat 3 (.int a1))),(.box 3 (.dat 3 (.int a2)))] (.dat 4 (.bool r.1)) [(.box 3 (.dat 3 (.int r.2.1))),(.box 3 (.dat 3 (.int r.2.2)))]:=
 FX_of (q:=((.dat 4 (.bool r.1)),[(.box 3 (.dat 3 (.int r.2.1))),(.box 3 (.dat 3 (.int r.2.2)))])) (E:=env) (m:=m+1) (dec:=d77) jn_ok (hct _) mixed Tryz.func181 rfl (Nat.le_of_ble_eq_true rfl) (fun b hb=>d77_sim hb) ((i77_eq m a0 a1 a2).trans h)
theorem value_Nodes_fx (m:Nat) (hct:∀R,CallOK (R:=R) Tryz.prog (ct m)) (a0:Dt) {r:Int} (h:value_Nodes (m+1) a0=some r):FX Tryz.prog 118 [(.dat 26 a0)] [] (.dat 3 (.int r)) []:=
 FX_of (q:=((.dat 3 (.int r)),[])) (E:=env) (m:=m+1) (dec:=d39) jn_ok (hct _) mixed Tryz.func118 rfl (Nat.le_of_ble_eq_true rfl) (fun b hb=>d39_sim hb) ((value_Nodes_eq m a0).trans h)
theorem value_depth_fx (m:Nat) (hct:∀R,CallOK (R:=R) Tryz.prog (ct m)) (a0:Dt) (a1:Int) {r:Int} (h:value_depth (m+1) a0 a1=some r):FX Tryz.prog 152 [(.dat 26 a0),(.dat 3 (.int a1))] [] (.dat 3 (.int r)) []:=
 FX_of (q:=((.dat 3 (.int r)),[])) (E:=env) (m:=m+1) (dec:=d39) jn_ok (hct _) mixed Tryz.func152 rfl (Nat.le_of_ble_eq_true rfl) (fun b hb=>d39_sim hb) ((value_depth_eq m a0 a1).trans h)
theorem i78_fx (m:Nat) (hct:∀R,CallOK (R:=R) Tryz.prog (ct m)) (a0:Dt) (a1 a2:Int) {r:Int×Int} (h:i78 (m+1) a0 a1 a2=some r):FX Tryz.prog 180 [(.dat 26 a0),(.fn 182 [(.ptr 0 [] 0),(.ptr 1 [] 0)])] [(.box 3 (.dat 3 (.int a1))),(.box 3 (.dat 3 (.int a2)))] (.tup []) [(.box 3 (.dat 3 (.int r.1))),(.box 3 (.dat 3 (.int r.2)))]:=
 FX_of (q:=((.tup []),[(.box 3 (.dat 3 (.int r.1))),(.box 3 (.dat 3 (.int r.2)))])) (E:=env) (m:=m+1) (dec:=d76) jn_ok (hct _) mixed Tryz.func180 rfl (Nat.le_of_ble_eq_true rfl) (fun b hb=>d76_sim hb) ((i78_eq m a0 a1 a2).trans h)
theorem i79_fx (m:Nat) (hct:∀R,CallOK (R:=R) Tryz.prog (ct m)) (a0:Dt) (a1 a2:Int) {r:Bool×Int×Int} (h:i79 (m+1) a0 a1 a2=some r):FX Tryz.prog 182 [(.dat 26 a0),(.ptr 0 [] 0),(.ptr 1 [] 0)] [(.box 3 (.dat 3 (.int a1))),(.box 3 (.dat 3 (.int a2)))] (.dat 4 (.bool r.1)) [(.box 3 (.dat 3 (.int r.2.1))),(.box 3 (.dat 3 (.int r.2.2)))]:=
 FX_of (q:=((.dat 4 (.bool r.1)),[(.box 3 (.dat 3 (.int r.2.1))),(.box 3 (.dat 3 (.int r.2.2)))])) (E:=env) (m:=m+1) (dec:=d77) jn_ok (hct _) mixed Tryz.func182 rfl (Nat.le_of_ble_eq_true rfl) (fun b hb=>d77_sim hb) ((i79_eq m a0 a1 a2).trans h)
theorem value_Depth_fx (m:Nat) (hct:∀R,CallOK (R:=R) Tryz.prog (ct m)) (a0:Dt) {r:Int} (h:value_Depth (m+1) a0=some r):FX Tryz.prog 119 [(.dat 26 a0)] [] (.dat 3 (.int r)) []:=
 FX_of (q:=((.dat 3 (.int r)),[])) (E:=env) (m:=m+1) (dec:=d39) jn_ok (hct _) mixed Tryz.func119 rfl (Nat.le_of_ble_eq_true rfl) (fun b hb=>d39_sim hb) ((value_Depth_eq m a0).trans h)
theorem ref01_Parts_fx (m:Nat) (hct:∀R,CallOK (R:=R) Tryz.prog (ct m)) (a0:Dt) {r:List Dt} (h:ref01_Parts (m+1) a0=some r):FX Tryz.prog 185 [(.dat 26 a0)] [] (.dat 23 (.lst r)) []:=
 FX_of (q:=((.dat 23 (.lst r)),[])) (E:=env) (m:=m+1) (dec:=d73) jn_ok (hct _) mixed Tryz.func185 rfl (Nat.le_of_ble_eq_true rfl) (fun b hb=>d73_sim hb) ((ref01_Parts_eq m a0).trans h)
theorem ref01_levels_fx (m:Nat) (hct:∀R,CallOK (R:=R) Tryz.prog (ct m)) (a0:Dt) (a1:Int) {r:Int} (h:ref01_levels (m+1) a0 a1=some r):FX Tryz.prog 160 [(.dat 26 a0),(.dat 3 (.int a1))] [] (.dat 3 (.int r)) []:=
 FX_of (q:=((.dat 3 (.int r)),[])) (E:=env) (m:=m+1) (dec:=d39) jn_ok (hct _) mixed Tryz.func160 rfl (Nat.le_of_ble_eq_true rfl) (fun b hb=>d39_sim hb) ((ref01_levels_eq m a0 a1).trans h)
theorem ref01_Depth_fx (m:Nat) (hct:∀R,CallOK (R:=R) Tryz.prog (ct m)) (a0:Dt) {r:Int} (h:ref01_Depth (m+1) a0=some r):FX Tryz.prog 124 [(.dat 26 a0)] [] (.dat 3 (.int r)) []:=
 FX_of (q:=((.dat 3 (.int r)),[])) (E:=env) (m:=m+1) (dec:=d39) jn_ok (hct _) mixed Tryz.func124 rfl (Nat.le_of_ble_eq_true rfl) (fun b hb=>d39_sim hb) ((ref01_Depth_eq m a0).trans h)
theorem ref01_count_fx (m:Nat) (hct:∀R,CallOK (R:=R) Tryz.prog (ct m)) (a0:Dt) (a1:Int) {r:Int} (h:ref01_count (m+1) a0 a1=some r):FX Tryz.prog 161 [(.dat 26 a0),(.dat 3 (.int a1))] [] (.dat 3 (.int r)) []:=
 FX_of (q:=((.dat 3 (.int r)),[])) (E:=env) (m:=m+1) (dec:=d39) jn_ok (hct _) mixed Tryz.func161 rfl (Nat.le_of_ble_eq_true rfl) (fun b hb=>d39_sim hb) ((ref01_count_eq m a0 a1).trans h)
theorem ref01_Nodes_fx (m:Nat) (hct:∀R,CallOK (R:=R) Tryz.prog (ct m)) (a0:Dt) {r:Int} (h:ref01_Nodes (m+1) a0=some r):FX Tryz.prog 125 [(.dat 26 a0)] [] (.dat 3 (.int r)) []:=
 FX_of (q:=((.dat 3 (.int r)),[])) (E:=env) (m:=m+1) (dec:=d39) jn_ok (hct _) mixed Tryz.func125 rfl (Nat.le_of_ble_eq_true rfl) (fun b hb=>d39_sim hb) ((ref01_Nodes_eq m a0).trans h)
theorem ref01_tail_fx (m:Nat) (hct:∀R,CallOK (R:=R) Tryz.prog (ct m)) (a0:ByteArray) (a1 a2:Int) {r:Bool} (h:ref01_tail (m+1) a0 a1 a2=some r):FX Tryz.prog 186 [(.dat 9 (.str a0)),(.dat 3 (.int a1)),(.dat 3 (.int a2))] [] (.dat 4 (.bool r)) []:=
 FX_of (q:=((.dat 4 (.bool r)),[])) (E:=env) (m:=m+1) (dec:=d17) jn_ok (hct _) mixed Tryz.func186 rfl (Nat.le_of_ble_eq_true rfl) (fun b hb=>d17_sim hb) ((ref01_tail_eq m a0 a1 a2).trans h)
theorem ref01_UTF8_fx (m:Nat) (hct:∀R,CallOK (R:=R) Tryz.prog (ct m)) (a0:ByteArray) {r:Bool} (h:ref01_UTF8 (m+1) a0=some r):FX Tryz.prog 162 [(.dat 9 (.str a0))] [] (.dat 4 (.bool r)) []:=
 FX_of (q:=((.dat 4 (.bool r)),[])) (E:=env) (m:=m+1) (dec:=d17) jn_ok (hct _) mixed Tryz.func162 rfl (Nat.le_of_ble_eq_true rfl) (fun b hb=>d17_sim hb) ((ref01_UTF8_eq m a0).trans h)
theorem ref01_wide_fx (m:Nat) (hct:∀R,CallOK (R:=R) Tryz.prog (ct m)) (a0:ByteArray) {r:Bool} (h:ref01_wide (m+1) a0=some r):FX Tryz.prog 187 [(.dat 9 (.str a0))] [] (.dat 4 (.bool r)) []:=
 FX_of (q:=((.dat 4 (.bool r)),[])) (E:=env) (m:=m+1) (dec:=d17) jn_ok (hct _) mixed Tryz.func187 rfl (Nat.le_of_ble_eq_true rfl) (fun b hb=>d17_sim hb) ((ref01_wide_eq m a0).trans h)
theorem ref01_formed_fx (m:Nat) (hct:∀R,CallOK (R:=R) Tryz.prog (ct m)) (a0:Dt) (a1:Bool) {r:Bool} (h:ref01_formed (m+1) a0 a1=some r):FX Tryz.prog 126 [(.dat 26 a0),(.dat 4 (.bool a1))] [] (.dat 4 (.bool r)) []:=
 FX_of (q:=((.dat 4 (.bool r)),[])) (E:=env) (m:=m+1) (dec:=d17) jn_ok (hct _) mixed Tryz.func126 rfl (Nat.le_of_ble_eq_true rfl) (fun b hb=>d17_sim hb) ((ref01_formed_eq m a0 a1).trans h)
theorem ref01_fields_fx (m:Nat) (hct:∀R,CallOK (R:=R) Tryz.prog (ct m)) (a0:Dt) (a1:Bool) {r:Bool} (h:ref01_fields (m+1) a0 a1=some r):FX Tryz.prog 163 [(.dat 26 a0),(.dat 4 (.bool a1))] [] (.dat 4 (.bool r)) []:=
 FX_of (q:=((.dat 4 (.bool r)),[])) (E:=env) (m:=m+1) (dec:=d17) jn_ok (hct _) mixed Tryz.func163 rfl (Nat.le_of_ble_eq_true rfl) (fun b hb=>d17_sim hb) ((ref01_fields_eq m a0 a1).trans h)
theorem ref01_Valid_fx (m:Nat) (hct:∀R,CallOK (R:=R) Tryz.prog (ct m)) (a0:Dt) {r:Bool} (h:ref01_Valid (m+1) a0=some r):FX Tryz.prog 100 [(.dat 26 a0)] [] (.dat 4 (.bool r)) []:=
 FX_of (q:=((.dat 4 (.bool r)),[])) (E:=env) (m:=m+1) (dec:=d17) jn_ok (hct _) mixed Tryz.func100 rfl (Nat.le_of_ble_eq_true rfl) (fun b hb=>d17_sim hb) ((ref01_Valid_eq m a0).trans h)
theorem ref08_node_fx (m:Nat) (hct:∀R,CallOK (R:=R) Tryz.prog (ct m)) (a0:Dt) {r:Int} (h:ref08_node (m+1) a0=some r):FX Tryz.prog 58 [(.dat 29 a0)] [] (.dat 34 (.int r)) []:=
 FX_of (q:=((.dat 34 (.int r)),[])) (E:=env) (m:=m+1) (dec:=d10) jn_ok (hct _) mixed Tryz.func58 rfl (Nat.le_of_ble_eq_true rfl) (fun b hb=>d10_sim hb) ((ref08_node_eq m a0).trans h)
theorem ref08_check_fx (m:Nat) (hct:∀R,CallOK (R:=R) Tryz.prog (ct m)) (a0:Dt) (a1 a2:Int) {r:Int×Int} (h:ref08_check (m+1) a0 a1 a2=some r):FX Tryz.prog 25 [(.dat 29 a0),(.dat 3 (.int a1)),(.dat 3 (.int a2))] [] (.tup [(.dat 3 (.int r.1)),(.dat 34 (.int r.2))]) []:=
 FX_of (q:=((.tup [(.dat 3 (.int r.1)),(.dat 34 (.int r.2))]),[])) (E:=env) (m:=m+1) (dec:=d15) jn_ok (hct _) mixed Tryz.func25 rfl (Nat.le_of_ble_eq_true rfl) (fun b hb=>d15_sim hb) ((ref08_check_eq m a0 a1 a2).trans h)
theorem ref08_Valid_fx (m:Nat) (hct:∀R,CallOK (R:=R) Tryz.prog (ct m)) (a0:Dt) {r:Int} (h:ref08_Valid (m+1) a0=some r):FX Tryz.prog 13 [(.dat 29 a0)] [] (.dat 34 (.int r)) []:=
 FX_of (q:=((.dat 34 (.int r)),[])) (E:=env) (m:=m+1) (dec:=d10) jn_ok (hct _) mixed Tryz.func13 rfl (Nat.le_of_ble_eq_true rfl) (fun b hb=>d10_sim hb) ((ref08_Valid_eq m a0).trans h)
theorem ref31_out_fx (m:Nat) (hct:∀R,CallOK (R:=R) Tryz.prog (ct m)) (a0:Dt) {r:Int} (h:ref31_out (m+1) a0=some r):FX Tryz.prog 16 [(.dat 63 a0)] [] (.dat 34 (.int r)) []:=
 FX_of (q:=((.dat 34 (.int r)),[])) (E:=env) (m:=m+1) (dec:=d10) jn_ok (hct _) mixed Tryz.func16 rfl (Nat.le_of_ble_eq_true rfl) (fun b hb=>d10_sim hb) ((ref31_out_eq m a0).trans h)
theorem ref31_Window_fx (m:Nat) (hct:∀R,CallOK (R:=R) Tryz.prog (ct m)) (a0:Dt) {r:Int} (h:ref31_Window (m+1) a0=some r):FX Tryz.prog 8 [(.dat 33 a0)] [] (.dat 34 (.int r)) []:=
 FX_of (q:=((.dat 34 (.int r)),[])) (E:=env) (m:=m+1) (dec:=d10) jn_ok (hct _) mixed Tryz.func8 rfl (Nat.le_of_ble_eq_true rfl) (fun b hb=>d10_sim hb) ((ref31_Window_eq m a0).trans h)
theorem ref34_Valid_fx (m:Nat) (hct:∀R,CallOK (R:=R) Tryz.prog (ct m)) (a0:Dt) {r:Int} (h:ref34_Valid (m+1) a0=some r):FX Tryz.prog 5 [(.dat 33 a0)] [] (.dat 34 (.int r)) []:=
 FX_of (q:=((.dat 34 (.int r)),[])) (E:=env) (m:=m+1) (dec:=d10) jn_ok (hct _) mixed Tryz.func5 rfl (Nat.le_of_ble_eq_true rfl) (fun b hb=>d10_sim hb) ((ref34_Valid_eq m a0).trans h)
theorem value_isName_fx (m:Nat) (hct:∀R,CallOK (R:=R) Tryz.prog (ct m)) (a0:ByteArray) {r:Bool} (h:value_isName (m+1) a0=some r):FX Tryz.prog 184 [(.dat 9 (.str a0))] [] (.dat 4 (.bool r)) []:=
 FX_of (q:=((.dat 4 (.bool r)),[])) (E:=env) (m:=m+1) (dec:=d17) jn_ok (hct _) mixed Tryz.func184 rfl (Nat.le_of_ble_eq_true rfl) (fun b hb=>d17_sim hb) ((value_isName_eq m a0).trans h)
theorem value_sound_fx (m:Nat) (hct:∀R,CallOK (R:=R) Tryz.prog (ct m)) (a0:Dt) {r:Bool} (h:value_sound (m+1) a0=some r):FX Tryz.prog 120 [(.dat 26 a0)] [] (.dat 4 (.bool r)) []:=
 FX_of (q:=((.dat 4 (.bool r)),[])) (E:=env) (m:=m+1) (dec:=d17) jn_ok (hct _) mixed Tryz.func120 rfl (Nat.le_of_ble_eq_true rfl) (fun b hb=>d17_sim hb) ((value_sound_eq m a0).trans h)
theorem value_soundFields_fx (m:Nat) (hct:∀R,CallOK (R:=R) Tryz.prog (ct m)) (a0:List Dt) {r:Bool} (h:value_soundFields (m+1) a0=some r):FX Tryz.prog 154 [(.dat 24 (.lst a0))] [] (.dat 4 (.bool r)) []:=
 FX_of (q:=((.dat 4 (.bool r)),[])) (E:=env) (m:=m+1) (dec:=d17) jn_ok (hct _) mixed Tryz.func154 rfl (Nat.le_of_ble_eq_true rfl) (fun b hb=>d17_sim hb) ((value_soundFields_eq m a0).trans h)
theorem value_Valid_fx (m:Nat) (hct:∀R,CallOK (R:=R) Tryz.prog (ct m)) (a0:Dt) {r:Bool} (h:value_Valid (m+1) a0=some r):FX Tryz.prog 95 [(.dat 26 a0)] [] (.dat 4 (.bool r)) []:=
 FX_of (q:=((.dat 4 (.bool r)),[])) (E:=env) (m:=m+1) (dec:=d17) jn_ok (hct _) mixed Tryz.func95 rfl (Nat.le_of_ble_eq_true rfl) (fun b hb=>d17_sim hb) ((value_Valid_eq m a0).trans h)
theorem expr_checkNode_fx (m:Nat) (hct:∀R,CallOK (R:=R) Tryz.prog (ct m)) (a0:Dt) {r:Int} (h:expr_checkNode (m+1) a0=some r):FX Tryz.prog 121 [(.dat 29 a0)] [] (.dat 34 (.int r)) []:=
 FX_of (q:=((.dat 34 (.int r)),[])) (E:=env) (m:=m+1) (dec:=d10) jn_ok (hct _) mixed Tryz.func121 rfl (Nat.le_of_ble_eq_true rfl) (fun b hb=>d10_sim hb) ((expr_checkNode_eq m a0).trans h)
theorem i43_fx (m:Nat) (hct:∀R,CallOK (R:=R) Tryz.prog (ct m)) (a0:Dt) (a1 a2:Int) {r:Int×Int} (h:i43 (m+1) a0 a1 a2=some r):FX Tryz.prog 96 [(.dat 29 a0),(.dat 3 (.int a1)),(.ptr 0 [] 0)] [(.box 3 (.dat 3 (.int a2)))] (.dat 34 (.int r.1)) [(.box 3 (.dat 3 (.int r.2)))]:=
 FX_of (q:=((.dat 34 (.int r.1)),[(.box 3 (.dat 3 (.int r.2)))])) (E:=env) (m:=m+1) (dec:=d43) jn_ok (hct _) mixed Tryz.func96 rfl (Nat.le_of_ble_eq_true rfl) (fun b hb=>d43_sim hb) ((i43_eq m a0 a1 a2).trans h)
theorem expr_Valid_fx (m:Nat) (hct:∀R,CallOK (R:=R) Tryz.prog (ct m)) (a0:Dt) {r:Int} (h:expr_Valid (m+1) a0=some r):FX Tryz.prog 55 [(.dat 29 a0)] [] (.dat 34 (.int r)) []:=
 FX_of (q:=((.dat 34 (.int r)),[])) (E:=env) (m:=m+1) (dec:=d10) jn_ok (hct _) mixed Tryz.func55 rfl (Nat.le_of_ble_eq_true rfl) (fun b hb=>d10_sim hb) ((expr_Valid_eq m a0).trans h)
theorem pipeline_validOut_fx (m:Nat) (hct:∀R,CallOK (R:=R) Tryz.prog (ct m)) (a0:Dt) {r:Int} (h:pipeline_validOut (m+1) a0=some r):FX Tryz.prog 94 [(.dat 63 a0)] [] (.dat 34 (.int r)) []:=
 FX_of (q:=((.dat 34 (.int r)),[])) (E:=env) (m:=m+1) (dec:=d10) jn_ok (hct _) mixed Tryz.func94 rfl (Nat.le_of_ble_eq_true rfl) (fun b hb=>d10_sim hb) ((pipeline_validOut_eq m a0).trans h)
theorem pipeline_validWindow_fx (m:Nat) (hct:∀R,CallOK (R:=R) Tryz.prog (ct m)) (a0:Dt) {r:Int} (h:pipeline_validWindow (m+1) a0=some r):FX Tryz.prog 51 [(.dat 33 a0)] [] (.dat 34 (.int r)) []:=
 FX_of (q:=((.dat 34 (.int r)),[])) (E:=env) (m:=m+1) (dec:=d10) jn_ok (hct _) mixed Tryz.func51 rfl (Nat.le_of_ble_eq_true rfl) (fun b hb=>d10_sim hb) ((pipeline_validWindow_eq m a0).trans h)
theorem pipeline_conditions_fx (m:Nat) (hct:∀R,CallOK (R:=R) Tryz.prog (ct m)) (a0:Dt) {r:Int} (h:pipeline_conditions (m+1) a0=some r):FX Tryz.prog 24 [(.dat 60 a0)] [] (.dat 34 (.int r)) []:=
 FX_of (q:=((.dat 34 (.int r)),[])) (E:=env) (m:=m+1) (dec:=d10) jn_ok (hct _) mixed Tryz.func24 rfl (Nat.le_of_ble_eq_true rfl) (fun b hb=>d10_sim hb) ((pipeline_conditions_eq m a0).trans h)
theorem pipeline_check_fx (m:Nat) (hct:∀R,CallOK (R:=R) Tryz.prog (ct m)) (a0:List Dt) (a1:Bool) {r:Int} (h:pipeline_check (m+1) a0 a1=some r):FX Tryz.prog 12 [(.dat 53 (.lst a0)),(.dat 4 (.bool a1))] [] (.dat 34 (.int r)) []:=
 FX_of (q:=((.dat 34 (.int r)),[])) (E:=env) (m:=m+1) (dec:=d10) jn_ok (hct _) mixed Tryz.func12 rfl (Nat.le_of_ble_eq_true rfl) (fun b hb=>d10_sim hb) ((pipeline_check_eq m a0 a1).trans h)
theorem pipeline_Valid_fx (m:Nat) (hct:∀R,CallOK (R:=R) Tryz.prog (ct m)) (a0:List Dt) {r:Int} (h:pipeline_Valid (m+1) a0=some r):FX Tryz.prog 7 [(.dat 53 (.lst a0))] [] (.dat 34 (.int r)) []:=
 FX_of (q:=((.dat 34 (.int r)),[])) (E:=env) (m:=m+1) (dec:=d10) jn_ok (hct _) mixed Tryz.func7 rfl (Nat.le_of_ble_eq_true rfl) (fun b hb=>d10_sim hb) ((pipeline_Valid_eq m a0).trans h)
theorem window_Valid_fx (m:Nat) (hct:∀R,CallOK (R:=R) Tryz.prog (ct m)) (a0:Dt) {r:Int} (h:window_Valid (m+1) a0=some r):FX Tryz.prog 4 [(.dat 33 a0)] [] (.dat 34 (.int r)) []:=
 FX_of (q:=((.dat 34 (.int r)),[])) (E:=env) (m:=m+1) (dec:=d10) jn_ok (hct _) mixed Tryz.func4 rfl (Nat.le_of_ble_eq_true rfl) (fun b hb=>d10_sim hb) ((window_Valid_eq m a0).trans h)
theorem law34_WindowValids_fx (m:Nat) (hct:∀R,CallOK (R:=R) Tryz.prog (ct m)) (a0:Dt) {r:Bool} (h:law34_WindowValids (m+1) a0=some r):FX Tryz.prog 3 [(.dat 33 a0)] [] (.dat 4 (.bool r)) []:=
 FX_of (q:=((.dat 4 (.bool r)),[])) (E:=env) (m:=m+1) (dec:=d17) jn_ok (hct _) mixed Tryz.func3 rfl (Nat.le_of_ble_eq_true rfl) (fun b hb=>d17_sim hb) ((law34_WindowValids_eq m a0).trans h)
theorem ct3_ok (m:Nat) (hct:∀k,k<m→∀R,CallOK (R:=R) Tryz.prog (ct k)) {R:Type} {args:List AV} {objs:List Ob} {K:Res→Option R} {r:R} (h:ct3 m args objs K=some r):∃q:Res,K q=some r∧FX Tryz.prog 3 args objs q.1 q.2∧HasBody Tryz.prog 3:=by
 unfold ct3 at h
 split at h
 ·rename_i l hl
  obtain⟨x,hx,hk⟩:=Option.bind_eq_some_iff.1 h
  obtain⟨h1,h2⟩:=sel0_ok hl
  cases m with
  |zero=>cases hx
  |succ m=>exact⟨_,hk,(law34_WindowValids_fx m (hct m (Nat.lt_succ_self m)) _ hx).conv h1 h2,⟨_,Tryz.func3,rfl,by decide⟩⟩
 cases h
theorem ct4_ok (m:Nat) (hct:∀k,k<m→∀R,CallOK (R:=R) Tryz.prog (ct k)) {R:Type} {args:List AV} {objs:List Ob} {K:Res→Option R} {r:R} (h:ct4 m args objs K=some r):∃q:Res,K q=some r∧FX Tryz.prog 4 args objs q.1 q.2∧HasBody Tryz.prog 4:=by
 unfold ct4 at h
 split at h
 ·rename_i l hl
  obtain⟨x,hx,hk⟩:=Option.bind_eq_some_iff.1 h
  obtain⟨h1,h2⟩:=sel0_ok hl
  cases m with
  |zero=>cases hx
  |succ m=>exact⟨_,hk,(window_Valid_fx m (hct m (Nat.lt_succ_self m)) _ hx).conv h1 h2,⟨_,Tryz.func4,rfl,by decide⟩⟩
 cases h
theorem ct5_ok (m:Nat) (hct:∀k,k<m→∀R,CallOK (R:=R) Tryz.prog (ct k)) {R:Type} {args:List AV} {objs:List Ob} {K:Res→Option R} {r:R} (h:ct5 m args objs K=some r):∃q:Res,K q=some r∧FX Tryz.prog 5 args objs q.1 q.2∧HasBody Tryz.prog 5:=by
 unfold ct5 at h
 split at h
 ·rename_i l hl
  obtain⟨x,hx,hk⟩:=Option.bind_eq_some_iff.1 h
  obtain⟨h1,h2⟩:=sel0_ok hl
  cases m with
  |zero=>cases hx
  |succ m=>exact⟨_,hk,(ref34_Valid_fx m (hct m (Nat.lt_succ_self m)) _ hx).conv h1 h2,⟨_,Tryz.func5,rfl,by decide⟩⟩
 cases h
theorem ct6_ok (m:Nat) (hct:∀k,k<m→∀R,CallOK (R:=R) Tryz.prog (ct k)) {R:Type} {args:List AV} {objs:List Ob} {K:Res→Option R} {r:R} (h:ct6 m args objs K=some r):∃q:Res,K q=some r∧FX Tryz.prog 6 args objs q.1 q.2∧HasBody Tryz.prog 6:=by
 unfold ct6 at h
 split at h
 ·rename_i l hl
  obtain⟨x,hx,hk⟩:=Option.bind_eq_some_iff.1 h
  obtain⟨h1,h2⟩:=sel3_ok hl
  exact⟨_,hk,(awakeC_fx hx).conv h1 h2,⟨_,Tryz.func6,rfl,by decide⟩⟩
 cases h
theorem ct7_ok (m:Nat) (hct:∀k,k<m→∀R,CallOK (R:=R) Tryz.prog (ct k)) {R:Type} {args:List AV} {objs:List Ob} {K:Res→Option R} {r:R} (h:ct7 m args objs K=some r):∃q:Res,K q=some r∧FX Tryz.prog 7 args objs q.1 q.2∧HasBody Tryz.prog 7:=by
 unfold ct7 at h
 split at h
 ·rename_i l hl
  obtain⟨x,hx,hk⟩:=Option.bind_eq_some_iff.1 h
  obtain⟨h1,h2⟩:=sel4_ok hl
  cases m with
  |zero=>cases hx
  |succ m=>exact⟨_,hk,(pipeline_Valid_fx m (hct m (Nat.lt_succ_self m)) _ hx).conv h1 h2,⟨_,Tryz.func7,rfl,by decide⟩⟩
 cases h
theorem ct8_ok (m:Nat) (hct:∀k,k<m→∀R,CallOK (R:=R) Tryz.prog (ct k)) {R:Type} {args:List AV} {objs:List Ob} {K:Res→Option R} {r:R} (h:ct8 m args objs K=some r):∃q:Res,K q=some r∧FX Tryz.prog 8 args objs q.1 q.2∧HasBody Tryz.prog 8:=by
 unfold ct8 at h
 split at h
 ·rename_i l hl
  obtain⟨x,hx,hk⟩:=Option.bind_eq_some_iff.1 h
  obtain⟨h1,h2⟩:=sel0_ok hl
  cases m with
  |zero=>cases hx
  |succ m=>exact⟨_,hk,(ref31_Window_fx m (hct m (Nat.lt_succ_self m)) _ hx).conv h1 h2,⟨_,Tryz.func8,rfl,by decide⟩⟩
 cases h
theorem ct11_ok (m:Nat) (hct:∀k,k<m→∀R,CallOK (R:=R) Tryz.prog (ct k)) {R:Type} {args:List AV} {objs:List Ob} {K:Res→Option R} {r:R} (h:ct11 m args objs K=some r):∃q:Res,K q=some r∧FX Tryz.prog 11 args objs q.1 q.2∧HasBody Tryz.prog 11:=by
 unfold ct11 at h
 split at h
 ·rename_i l hl
  obtain⟨x,hx,hk⟩:=Option.bind_eq_some_iff.1 h
  obtain⟨h1,h2⟩:=sel6_ok hl
  cases m with
  |zero=>cases hx
  |succ m=>exact⟨_,hk,(i6_fx m (hct m (Nat.lt_succ_self m)) _ _ _ hx).conv h1 h2,⟨_,Tryz.func11,rfl,by decide⟩⟩
 cases h
theorem ct22_ok (m:Nat) (hct:∀k,k<m→∀R,CallOK (R:=R) Tryz.prog (ct k)) {R:Type} {args:List AV} {objs:List Ob} {K:Res→Option R} {r:R} (h:ct22 m args objs K=some r):∃q:Res,K q=some r∧FX Tryz.prog 22 args objs q.1 q.2∧HasBody Tryz.prog 22:=by
 unfold ct22 at h
 split at h
 ·rename_i l hl
  obtain⟨x,hx,hk⟩:=Option.bind_eq_some_iff.1 h
  obtain⟨h1,h2⟩:=sel7_ok hl
  cases m with
  |zero=>cases hx
  |succ m=>exact⟨_,hk,(i7_fx m (hct m (Nat.lt_succ_self m)) _ hx).conv h1 h2,⟨_,Tryz.func22,rfl,by decide⟩⟩
 cases h
theorem ct12_ok (m:Nat) (hct:∀k,k<m→∀R,CallOK (R:=R) Tryz.prog (ct k)) {R:Type} {args:List AV} {objs:List Ob} {K:Res→Option R} {r:R} (h:ct12 m args objs K=some r):∃q:Res,K q=some r∧FX Tryz.prog 12 args objs q.1 q.2∧HasBody Tryz.prog 12:=by
 unfold ct12 at h
 split at h
 ·rename_i l hl
  obtain⟨x,hx,hk⟩:=Option.bind_eq_some_iff.1 h
  obtain⟨h1,h2⟩:=sel8_ok hl
  cases m with
  |zero=>cases hx
  |succ m=>exact⟨_,hk,(pipeline_check_fx m (hct m (Nat.lt_succ_self m)) _ _ hx).conv h1 h2,⟨_,Tryz.func12,rfl,by decide⟩⟩
 cases h
theorem ct13_ok (m:Nat) (hct:∀k,k<m→∀R,CallOK (R:=R) Tryz.prog (ct k)) {R:Type} {args:List AV} {objs:List Ob} {K:Res→Option R} {r:R} (h:ct13 m args objs K=some r):∃q:Res,K q=some r∧FX Tryz.prog 13 args objs q.1 q.2∧HasBody Tryz.prog 13:=by
 unfold ct13 at h
 split at h
 ·rename_i l hl
  obtain⟨x,hx,hk⟩:=Option.bind_eq_some_iff.1 h
  obtain⟨h1,h2⟩:=sel9_ok hl
  cases m with
  |zero=>cases hx
  |succ m=>exact⟨_,hk,(ref08_Valid_fx m (hct m (Nat.lt_succ_self m)) _ hx).conv h1 h2,⟨_,Tryz.func13,rfl,by decide⟩⟩
 cases h
theorem ct14_ok (m:Nat) (hct:∀k,k<m→∀R,CallOK (R:=R) Tryz.prog (ct k)) {R:Type} {args:List AV} {objs:List Ob} {K:Res→Option R} {r:R} (h:ct14 m args objs K=some r):∃q:Res,K q=some r∧FX Tryz.prog 14 args objs q.1 q.2∧HasBody Tryz.prog 14:=by
 unfold ct14 at h
 split at h
 ·rename_i l hl
  obtain⟨x,hx,hk⟩:=Option.bind_eq_some_iff.1 h
  obtain⟨h1,h2⟩:=sel10_ok hl
  cases m with
  |zero=>cases hx
  |succ m=>exact⟨_,hk,(ref12_Valid_fx m (hct m (Nat.lt_succ_self m)) _ hx).conv h1 h2,⟨_,Tryz.func14,rfl,by decide⟩⟩
 cases h
theorem ct15_ok (m:Nat) (hct:∀k,k<m→∀R,CallOK (R:=R) Tryz.prog (ct k)) {R:Type} {args:List AV} {objs:List Ob} {K:Res→Option R} {r:R} (h:ct15 m args objs K=some r):∃q:Res,K q=some r∧FX Tryz.prog 15 args objs q.1 q.2∧HasBody Tryz.prog 15:=by
 unfold ct15 at h
 split at h
 ·rename_i l hl
  obtain⟨x,hx,hk⟩:=Option.bind_eq_some_iff.1 h
  obtain⟨h1,h2⟩:=sel11_ok hl
  cases m with
  |zero=>cases hx
  |succ m=>exact⟨_,hk,(ref31_output_fx m (hct m (Nat.lt_succ_self m)) _ hx).conv h1 h2,⟨_,Tryz.func15,rfl,by decide⟩⟩
 cases h
theorem ct16_ok (m:Nat) (hct:∀k,k<m→∀R,CallOK (R:=R) Tryz.prog (ct k)) {R:Type} {args:List AV} {objs:List Ob} {K:Res→Option R} {r:R} (h:ct16 m args objs K=some r):∃q:Res,K q=some r∧FX Tryz.prog 16 args objs q.1 q.2∧HasBody Tryz.prog 16:=by
 unfold ct16 at h
 split at h
 ·rename_i l hl
  obtain⟨x,hx,hk⟩:=Option.bind_eq_some_iff.1 h
  obtain⟨h1,h2⟩:=sel12_ok hl
  cases m with
  |zero=>cases hx
  |succ m=>exact⟨_,hk,(ref31_out_fx m (hct m (Nat.lt_succ_self m)) _ hx).conv h1 h2,⟨_,Tryz.func16,rfl,by decide⟩⟩
 cases h
theorem ct23_ok (m:Nat) (hct:∀k,k<m→∀R,CallOK (R:=R) Tryz.prog (ct k)) {R:Type} {args:List AV} {objs:List Ob} {K:Res→Option R} {r:R} (h:ct23 m args objs K=some r):∃q:Res,K q=some r∧FX Tryz.prog 23 args objs q.1 q.2∧HasBody Tryz.prog 23:=by
 unfold ct23 at h
 split at h
 ·rename_i l hl
  obtain⟨x,hx,hk⟩:=Option.bind_eq_some_iff.1 h
  obtain⟨h1,h2⟩:=sel13_ok hl
  exact⟨_,hk,(usedC_fx hx).conv h1 h2,⟨_,Tryz.func23,rfl,by decide⟩⟩
 cases h
theorem ct24_ok (m:Nat) (hct:∀k,k<m→∀R,CallOK (R:=R) Tryz.prog (ct k)) {R:Type} {args:List AV} {objs:List Ob} {K:Res→Option R} {r:R} (h:ct24 m args objs K=some r):∃q:Res,K q=some r∧FX Tryz.prog 24 args objs q.1 q.2∧HasBody Tryz.prog 24:=by
 unfold ct24 at h
 split at h
 ·rename_i l hl
  obtain⟨x,hx,hk⟩:=Option.bind_eq_some_iff.1 h
  obtain⟨h1,h2⟩:=sel13_ok hl
  cases m with
  |zero=>cases hx
  |succ m=>exact⟨_,hk,(pipeline_conditions_fx m (hct m (Nat.lt_succ_self m)) _ hx).conv h1 h2,⟨_,Tryz.func24,rfl,by decide⟩⟩
 cases h
theorem ct25_ok (m:Nat) (hct:∀k,k<m→∀R,CallOK (R:=R) Tryz.prog (ct k)) {R:Type} {args:List AV} {objs:List Ob} {K:Res→Option R} {r:R} (h:ct25 m args objs K=some r):∃q:Res,K q=some r∧FX Tryz.prog 25 args objs q.1 q.2∧HasBody Tryz.prog 25:=by
 unfold ct25 at h
 split at h
 ·rename_i l hl
  obtain⟨x,hx,hk⟩:=Option.bind_eq_some_iff.1 h
  obtain⟨h1,h2⟩:=sel15_ok hl
  cases m with
  |zero=>cases hx
  |succ m=>exact⟨_,hk,(ref08_check_fx m (hct m (Nat.lt_succ_self m)) _ _ _ hx).conv h1 h2,⟨_,Tryz.func25,rfl,by decide⟩⟩
 cases h
theorem ct26_ok (m:Nat) (hct:∀k,k<m→∀R,CallOK (R:=R) Tryz.prog (ct k)) {R:Type} {args:List AV} {objs:List Ob} {K:Res→Option R} {r:R} (h:ct26 m args objs K=some r):∃q:Res,K q=some r∧FX Tryz.prog 26 args objs q.1 q.2∧HasBody Tryz.prog 26:=by
 unfold ct26 at h
 split at h
 ·rename_i l hl
  obtain⟨x,hx,hk⟩:=Option.bind_eq_some_iff.1 h
  obtain⟨h1,h2⟩:=sel16_ok hl
  cases m with
  |zero=>cases hx
  |succ m=>exact⟨_,hk,(ref04_Valid_fx m (hct m (Nat.lt_succ_self m)) _ hx).conv h1 h2,⟨_,Tryz.func26,rfl,by decide⟩⟩
 cases h
theorem ct27_ok (m:Nat) (hct:∀k,k<m→∀R,CallOK (R:=R) Tryz.prog (ct k)) {R:Type} {args:List AV} {objs:List Ob} {K:Res→Option R} {r:R} (h:ct27 m args objs K=some r):∃q:Res,K q=some r∧FX Tryz.prog 27 args objs q.1 q.2∧HasBody Tryz.prog 27:=by
 unfold ct27 at h
 split at h
 ·rename_i l hl
  obtain⟨x,hx,hk⟩:=Option.bind_eq_some_iff.1 h
  obtain⟨h1,h2⟩:=sel17_ok hl
  cases m with
  |zero=>cases hx
  |succ m=>exact⟨_,hk,(ref12_same_fx m (hct m (Nat.lt_succ_self m)) _ _ hx).conv h1 h2,⟨_,Tryz.func27,rfl,by decide⟩⟩
 cases h
theorem ct28_ok (m:Nat) (hct:∀k,k<m→∀R,CallOK (R:=R) Tryz.prog (ct k)) {R:Type} {args:List AV} {objs:List Ob} {K:Res→Option R} {r:R} (h:ct28 m args objs K=some r):∃q:Res,K q=some r∧FX Tryz.prog 28 args objs q.1 q.2∧HasBody Tryz.prog 28:=by
 unfold ct28 at h
 split at h
 ·rename_i l hl
  obtain⟨x,hx,hk⟩:=Option.bind_eq_some_iff.1 h
  obtain⟨h1,h2⟩:=sel11_ok hl
  cases m with
  |zero=>cases hx
  |succ m=>exact⟨_,hk,(ref01_Name_fx m (hct m (Nat.lt_succ_self m)) _ hx).conv h1 h2,⟨_,Tryz.func28,rfl,by decide⟩⟩
 cases h
theorem ct29_ok (m:Nat) (hct:∀k,k<m→∀R,CallOK (R:=R) Tryz.prog (ct k)) {R:Type} {args:List AV} {objs:List Ob} {K:Res→Option R} {r:R} (h:ct29 m args objs K=some r):∃q:Res,K q=some r∧FX Tryz.prog 29 args objs q.1 q.2∧HasBody Tryz.prog 29:=by
 unfold ct29 at h
 split at h
 ·rename_i l hl
  obtain⟨x,hx,hk⟩:=Option.bind_eq_some_iff.1 h
  obtain⟨h1,h2⟩:=sel9_ok hl
  cases m with
  |zero=>cases hx
  |succ m=>exact⟨_,hk,(ref31_zeroExpr_fx m (hct m (Nat.lt_succ_self m)) _ hx).conv h1 h2,⟨_,Tryz.func29,rfl,by decide⟩⟩
 cases h
theorem ct43_ok (m:Nat) (hct:∀k,k<m→∀R,CallOK (R:=R) Tryz.prog (ct k)) {R:Type} {args:List AV} {objs:List Ob} {K:Res→Option R} {r:R} (h:ct43 m args objs K=some r):∃q:Res,K q=some r∧FX Tryz.prog 43 args objs q.1 q.2∧HasBody Tryz.prog 43:=by
 unfold ct43 at h
 split at h
 ·rename_i l hl
  obtain⟨x,hx,hk⟩:=Option.bind_eq_some_iff.1 h
  obtain⟨h1,h2⟩:=sel20_ok hl
  exact⟨_,hk,(predN_fx hx).conv h1 h2,⟨_,Tryz.func43,rfl,by decide⟩⟩
 cases h
theorem ct44_ok (m:Nat) (hct:∀k,k<m→∀R,CallOK (R:=R) Tryz.prog (ct k)) {R:Type} {args:List AV} {objs:List Ob} {K:Res→Option R} {r:R} (h:ct44 m args objs K=some r):∃q:Res,K q=some r∧FX Tryz.prog 44 args objs q.1 q.2∧HasBody Tryz.prog 44:=by
 unfold ct44 at h
 split at h
 ·rename_i l hl
  obtain⟨x,hx,hk⟩:=Option.bind_eq_some_iff.1 h
  obtain⟨h1,h2⟩:=sel21_ok hl
  exact⟨_,hk,(projN_fx hx).conv h1 h2,⟨_,Tryz.func44,rfl,by decide⟩⟩
 cases h
theorem ct45_ok (m:Nat) (hct:∀k,k<m→∀R,CallOK (R:=R) Tryz.prog (ct k)) {R:Type} {args:List AV} {objs:List Ob} {K:Res→Option R} {r:R} (h:ct45 m args objs K=some r):∃q:Res,K q=some r∧FX Tryz.prog 45 args objs q.1 q.2∧HasBody Tryz.prog 45:=by
 unfold ct45 at h
 split at h
 ·rename_i l hl
  obtain⟨x,hx,hk⟩:=Option.bind_eq_some_iff.1 h
  obtain⟨h1,h2⟩:=sel22_ok hl
  exact⟨_,hk,(setsN_fx hx).conv h1 h2,⟨_,Tryz.func45,rfl,by decide⟩⟩
 cases h
theorem ct46_ok (m:Nat) (hct:∀k,k<m→∀R,CallOK (R:=R) Tryz.prog (ct k)) {R:Type} {args:List AV} {objs:List Ob} {K:Res→Option R} {r:R} (h:ct46 m args objs K=some r):∃q:Res,K q=some r∧FX Tryz.prog 46 args objs q.1 q.2∧HasBody Tryz.prog 46:=by
 unfold ct46 at h
 split at h
 ·rename_i l hl
  obtain⟨x,hx,hk⟩:=Option.bind_eq_some_iff.1 h
  obtain⟨h1,h2⟩:=sel10_ok hl
  cases m with
  |zero=>cases hx
  |succ m=>exact⟨_,hk,(order_Valid_fx m (hct m (Nat.lt_succ_self m)) _ hx).conv h1 h2,⟨_,Tryz.func46,rfl,by decide⟩⟩
 cases h
theorem ct47_ok (m:Nat) (hct:∀k,k<m→∀R,CallOK (R:=R) Tryz.prog (ct k)) {R:Type} {args:List AV} {objs:List Ob} {K:Res→Option R} {r:R} (h:ct47 m args objs K=some r):∃q:Res,K q=some r∧FX Tryz.prog 47 args objs q.1 q.2∧HasBody Tryz.prog 47:=by
 unfold ct47 at h
 split at h
 ·rename_i l hl
  obtain⟨x,hx,hk⟩:=Option.bind_eq_some_iff.1 h
  obtain⟨h1,h2⟩:=sel24_ok hl
  cases m with
  |zero=>cases hx
  |succ m=>exact⟨_,hk,(pipeline_unless_fx m (hct m (Nat.lt_succ_self m)) _ _ hx).conv h1 h2,⟨_,Tryz.func47,rfl,by decide⟩⟩
 cases h
theorem ct48_ok (m:Nat) (hct:∀k,k<m→∀R,CallOK (R:=R) Tryz.prog (ct k)) {R:Type} {args:List AV} {objs:List Ob} {K:Res→Option R} {r:R} (h:ct48 m args objs K=some r):∃q:Res,K q=some r∧FX Tryz.prog 48 args objs q.1 q.2∧HasBody Tryz.prog 48:=by
 unfold ct48 at h
 split at h
 ·rename_i l hl
  obtain⟨x,hx,hk⟩:=Option.bind_eq_some_iff.1 h
  obtain⟨h1,h2⟩:=sel16_ok hl
  cases m with
  |zero=>cases hx
  |succ m=>exact⟨_,hk,(path_Valid_fx m (hct m (Nat.lt_succ_self m)) _ hx).conv h1 h2,⟨_,Tryz.func48,rfl,by decide⟩⟩
 cases h
theorem ct49_ok (m:Nat) (hct:∀k,k<m→∀R,CallOK (R:=R) Tryz.prog (ct k)) {R:Type} {args:List AV} {objs:List Ob} {K:Res→Option R} {r:R} (h:ct49 m args objs K=some r):∃q:Res,K q=some r∧FX Tryz.prog 49 args objs q.1 q.2∧HasBody Tryz.prog 49:=by
 unfold ct49 at h
 split at h
 ·rename_i l hl
  obtain⟨x,hx,hk⟩:=Option.bind_eq_some_iff.1 h
  obtain⟨h1,h2⟩:=sel11_ok hl
  cases m with
  |zero=>cases hx
  |succ m=>exact⟨_,hk,(pipeline_isOutput_fx m (hct m (Nat.lt_succ_self m)) _ hx).conv h1 h2,⟨_,Tryz.func49,rfl,by decide⟩⟩
 cases h
theorem ct50_ok (m:Nat) (hct:∀k,k<m→∀R,CallOK (R:=R) Tryz.prog (ct k)) {R:Type} {args:List AV} {objs:List Ob} {K:Res→Option R} {r:R} (h:ct50 m args objs K=some r):∃q:Res,K q=some r∧FX Tryz.prog 50 args objs q.1 q.2∧HasBody Tryz.prog 50:=by
 unfold ct50 at h
 split at h
 ·rename_i l hl
  obtain⟨x,hx,hk⟩:=Option.bind_eq_some_iff.1 h
  obtain⟨h1,h2⟩:=sel27_ok hl
  exact⟨_,hk,(groupN_fx hx).conv h1 h2,⟨_,Tryz.func50,rfl,by decide⟩⟩
 cases h
theorem ct51_ok (m:Nat) (hct:∀k,k<m→∀R,CallOK (R:=R) Tryz.prog (ct k)) {R:Type} {args:List AV} {objs:List Ob} {K:Res→Option R} {r:R} (h:ct51 m args objs K=some r):∃q:Res,K q=some r∧FX Tryz.prog 51 args objs q.1 q.2∧HasBody Tryz.prog 51:=by
 unfold ct51 at h
 split at h
 ·rename_i l hl
  obtain⟨x,hx,hk⟩:=Option.bind_eq_some_iff.1 h
  obtain⟨h1,h2⟩:=sel0_ok hl
  cases m with
  |zero=>cases hx
  |succ m=>exact⟨_,hk,(pipeline_validWindow_fx m (hct m (Nat.lt_succ_self m)) _ hx).conv h1 h2,⟨_,Tryz.func51,rfl,by decide⟩⟩
 cases h
theorem ct52_ok (m:Nat) (hct:∀k,k<m→∀R,CallOK (R:=R) Tryz.prog (ct k)) {R:Type} {args:List AV} {objs:List Ob} {K:Res→Option R} {r:R} (h:ct52 m args objs K=some r):∃q:Res,K q=some r∧FX Tryz.prog 52 args objs q.1 q.2∧HasBody Tryz.prog 52:=by
 unfold ct52 at h
 split at h
 ·rename_i l hl
  obtain⟨x,hx,hk⟩:=Option.bind_eq_some_iff.1 h
  obtain⟨h1,h2⟩:=sel29_ok hl
  exact⟨_,hk,(lookN_fx hx).conv h1 h2,⟨_,Tryz.func52,rfl,by decide⟩⟩
 cases h
theorem ct53_ok (m:Nat) (hct:∀k,k<m→∀R,CallOK (R:=R) Tryz.prog (ct k)) {R:Type} {args:List AV} {objs:List Ob} {K:Res→Option R} {r:R} (h:ct53 m args objs K=some r):∃q:Res,K q=some r∧FX Tryz.prog 53 args objs q.1 q.2∧HasBody Tryz.prog 53:=by
 unfold ct53 at h
 split at h
 ·rename_i l hl
  obtain⟨x,hx,hk⟩:=Option.bind_eq_some_iff.1 h
  obtain⟨h1,h2⟩:=sel30_ok hl
  exact⟨_,hk,(facetN_fx hx).conv h1 h2,⟨_,Tryz.func53,rfl,by decide⟩⟩
 cases h
theorem ct54_ok (m:Nat) (hct:∀k,k<m→∀R,CallOK (R:=R) Tryz.prog (ct k)) {R:Type} {args:List AV} {objs:List Ob} {K:Res→Option R} {r:R} (h:ct54 m args objs K=some r):∃q:Res,K q=some r∧FX Tryz.prog 54 args objs q.1 q.2∧HasBody Tryz.prog 54:=by
 unfold ct54 at h
 split at h
 ·rename_i l hl
  obtain⟨x,hx,hk⟩:=Option.bind_eq_some_iff.1 h
  obtain⟨h1,h2⟩:=sel13_ok hl
  exact⟨_,hk,(buckN_fx hx).conv h1 h2,⟨_,Tryz.func54,rfl,by decide⟩⟩
 cases h
theorem ct55_ok (m:Nat) (hct:∀k,k<m→∀R,CallOK (R:=R) Tryz.prog (ct k)) {R:Type} {args:List AV} {objs:List Ob} {K:Res→Option R} {r:R} (h:ct55 m args objs K=some r):∃q:Res,K q=some r∧FX Tryz.prog 55 args objs q.1 q.2∧HasBody Tryz.prog 55:=by
 unfold ct55 at h
 split at h
 ·rename_i l hl
  obtain⟨x,hx,hk⟩:=Option.bind_eq_some_iff.1 h
  obtain⟨h1,h2⟩:=sel9_ok hl
  cases m with
  |zero=>cases hx
  |succ m=>exact⟨_,hk,(expr_Valid_fx m (hct m (Nat.lt_succ_self m)) _ hx).conv h1 h2,⟨_,Tryz.func55,rfl,by decide⟩⟩
 cases h
theorem ct56_ok (m:Nat) (hct:∀k,k<m→∀R,CallOK (R:=R) Tryz.prog (ct k)) {R:Type} {args:List AV} {objs:List Ob} {K:Res→Option R} {r:R} (h:ct56 m args objs K=some r):∃q:Res,K q=some r∧FX Tryz.prog 56 args objs q.1 q.2∧HasBody Tryz.prog 56:=by
 unfold ct56 at h
 split at h
 ·rename_i l hl
  obtain⟨x,hx,hk⟩:=Option.bind_eq_some_iff.1 h
  obtain⟨h1,h2⟩:=sel13_ok hl
  exact⟨_,hk,(nearN_fx hx).conv h1 h2,⟨_,Tryz.func56,rfl,by decide⟩⟩
 cases h
theorem ct57_ok (m:Nat) (hct:∀k,k<m→∀R,CallOK (R:=R) Tryz.prog (ct k)) {R:Type} {args:List AV} {objs:List Ob} {K:Res→Option R} {r:R} (h:ct57 m args objs K=some r):∃q:Res,K q=some r∧FX Tryz.prog 57 args objs q.1 q.2∧HasBody Tryz.prog 57:=by
 unfold ct57 at h
 split at h
 ·rename_i l hl
  obtain⟨x,hx,hk⟩:=Option.bind_eq_some_iff.1 h
  obtain⟨h1,h2⟩:=sel34_ok hl
  exact⟨_,hk,(mergeN_fx hx).conv h1 h2,⟨_,Tryz.func57,rfl,by decide⟩⟩
 cases h
theorem ct58_ok (m:Nat) (hct:∀k,k<m→∀R,CallOK (R:=R) Tryz.prog (ct k)) {R:Type} {args:List AV} {objs:List Ob} {K:Res→Option R} {r:R} (h:ct58 m args objs K=some r):∃q:Res,K q=some r∧FX Tryz.prog 58 args objs q.1 q.2∧HasBody Tryz.prog 58:=by
 unfold ct58 at h
 split at h
 ·rename_i l hl
  obtain⟨x,hx,hk⟩:=Option.bind_eq_some_iff.1 h
  obtain⟨h1,h2⟩:=sel9_ok hl
  cases m with
  |zero=>cases hx
  |succ m=>exact⟨_,hk,(ref08_node_fx m (hct m (Nat.lt_succ_self m)) _ hx).conv h1 h2,⟨_,Tryz.func58,rfl,by decide⟩⟩
 cases h
theorem ct59_ok (m:Nat) (hct:∀k,k<m→∀R,CallOK (R:=R) Tryz.prog (ct k)) {R:Type} {args:List AV} {objs:List Ob} {K:Res→Option R} {r:R} (h:ct59 m args objs K=some r):∃q:Res,K q=some r∧FX Tryz.prog 59 args objs q.1 q.2∧HasBody Tryz.prog 59:=by
 unfold ct59 at h
 split at h
 ·rename_i l hl
  obtain⟨x,hx,hk⟩:=Option.bind_eq_some_iff.1 h
  obtain⟨h1,h2⟩:=sel36_ok hl
  cases m with
  |zero=>cases hx
  |succ m=>exact⟨_,hk,(ref23_SameExpr_fx m (hct m (Nat.lt_succ_self m)) _ _ hx).conv h1 h2,⟨_,Tryz.func59,rfl,by decide⟩⟩
 cases h
theorem ct89_ok (m:Nat) (hct:∀k,k<m→∀R,CallOK (R:=R) Tryz.prog (ct k)) {R:Type} {args:List AV} {objs:List Ob} {K:Res→Option R} {r:R} (h:ct89 m args objs K=some r):∃q:Res,K q=some r∧FX Tryz.prog 89 args objs q.1 q.2∧HasBody Tryz.prog 89:=by
 unfold ct89 at h
 split at h
 ·rename_i l hl
  obtain⟨x,hx,hk⟩:=Option.bind_eq_some_iff.1 h
  obtain⟨h1,h2⟩:=sel17_ok hl
  cases m with
  |zero=>cases hx
  |succ m=>exact⟨_,hk,(slices_Equal_fx m (hct m (Nat.lt_succ_self m)) _ _ hx).conv h1 h2,⟨_,Tryz.func89,rfl,by decide⟩⟩
 cases h
theorem ct90_ok (m:Nat) (hct:∀k,k<m→∀R,CallOK (R:=R) Tryz.prog (ct k)) {R:Type} {args:List AV} {objs:List Ob} {K:Res→Option R} {r:R} (h:ct90 m args objs K=some r):∃q:Res,K q=some r∧FX Tryz.prog 90 args objs q.1 q.2∧HasBody Tryz.prog 90:=by
 unfold ct90 at h
 split at h
 ·rename_i l hl
  obtain⟨x,hx,hk⟩:=Option.bind_eq_some_iff.1 h
  obtain⟨h1,h2⟩:=sel38_ok hl
  cases m with
  |zero=>cases hx
  |succ m=>exact⟨_,hk,(i38_fx m (hct m (Nat.lt_succ_self m)) _ hx).conv h1 h2,⟨_,Tryz.func90,rfl,by decide⟩⟩
 cases h
theorem ct117_ok (m:Nat) (hct:∀k,k<m→∀R,CallOK (R:=R) Tryz.prog (ct k)) {R:Type} {args:List AV} {objs:List Ob} {K:Res→Option R} {r:R} (h:ct117 m args objs K=some r):∃q:Res,K q=some r∧FX Tryz.prog 117 args objs q.1 q.2∧HasBody Tryz.prog 117:=by
 unfold ct117 at h
 split at h
 ·rename_i l hl
  obtain⟨x,hx,hk⟩:=Option.bind_eq_some_iff.1 h
  obtain⟨h1,h2⟩:=sel38_ok hl
  cases m with
  |zero=>cases hx
  |succ m=>exact⟨_,hk,(i39_fx m (hct m (Nat.lt_succ_self m)) _ hx).conv h1 h2,⟨_,Tryz.func117,rfl,by decide⟩⟩
 cases h
theorem ct91_ok (m:Nat) (hct:∀k,k<m→∀R,CallOK (R:=R) Tryz.prog (ct k)) {R:Type} {args:List AV} {objs:List Ob} {K:Res→Option R} {r:R} (h:ct91 m args objs K=some r):∃q:Res,K q=some r∧FX Tryz.prog 91 args objs q.1 q.2∧HasBody Tryz.prog 91:=by
 unfold ct91 at h
 split at h
 ·rename_i l hl
  obtain⟨x,hx,hk⟩:=Option.bind_eq_some_iff.1 h
  obtain⟨h1,h2⟩:=sel11_ok hl
  cases m with
  |zero=>cases hx
  |succ m=>exact⟨_,hk,(path_notName_fx m (hct m (Nat.lt_succ_self m)) _ hx).conv h1 h2,⟨_,Tryz.func91,rfl,by decide⟩⟩
 cases h
theorem ct92_ok (m:Nat) (hct:∀k,k<m→∀R,CallOK (R:=R) Tryz.prog (ct k)) {R:Type} {args:List AV} {objs:List Ob} {K:Res→Option R} {r:R} (h:ct92 m args objs K=some r):∃q:Res,K q=some r∧FX Tryz.prog 92 args objs q.1 q.2∧HasBody Tryz.prog 92:=by
 unfold ct92 at h
 split at h
 ·rename_i l hl
  obtain⟨x,hx,hk⟩:=Option.bind_eq_some_iff.1 h
  obtain⟨h1,h2⟩:=sel11_ok hl
  cases m with
  |zero=>cases hx
  |succ m=>exact⟨_,hk,(pipeline_isName_fx m (hct m (Nat.lt_succ_self m)) _ hx).conv h1 h2,⟨_,Tryz.func92,rfl,by decide⟩⟩
 cases h
theorem ct94_ok (m:Nat) (hct:∀k,k<m→∀R,CallOK (R:=R) Tryz.prog (ct k)) {R:Type} {args:List AV} {objs:List Ob} {K:Res→Option R} {r:R} (h:ct94 m args objs K=some r):∃q:Res,K q=some r∧FX Tryz.prog 94 args objs q.1 q.2∧HasBody Tryz.prog 94:=by
 unfold ct94 at h
 split at h
 ·rename_i l hl
  obtain⟨x,hx,hk⟩:=Option.bind_eq_some_iff.1 h
  obtain⟨h1,h2⟩:=sel12_ok hl
  cases m with
  |zero=>cases hx
  |succ m=>exact⟨_,hk,(pipeline_validOut_fx m (hct m (Nat.lt_succ_self m)) _ hx).conv h1 h2,⟨_,Tryz.func94,rfl,by decide⟩⟩
 cases h
theorem ct96_ok (m:Nat) (hct:∀k,k<m→∀R,CallOK (R:=R) Tryz.prog (ct k)) {R:Type} {args:List AV} {objs:List Ob} {K:Res→Option R} {r:R} (h:ct96 m args objs K=some r):∃q:Res,K q=some r∧FX Tryz.prog 96 args objs q.1 q.2∧HasBody Tryz.prog 96:=by
 unfold ct96 at h
 split at h
 ·rename_i l hl
  obtain⟨x,hx,hk⟩:=Option.bind_eq_some_iff.1 h
  obtain⟨h1,h2⟩:=sel43_ok hl
  cases m with
  |zero=>cases hx
  |succ m=>exact⟨_,hk,(i43_fx m (hct m (Nat.lt_succ_self m)) _ _ _ hx).conv h1 h2,⟨_,Tryz.func96,rfl,by decide⟩⟩
 cases h
theorem ct121_ok (m:Nat) (hct:∀k,k<m→∀R,CallOK (R:=R) Tryz.prog (ct k)) {R:Type} {args:List AV} {objs:List Ob} {K:Res→Option R} {r:R} (h:ct121 m args objs K=some r):∃q:Res,K q=some r∧FX Tryz.prog 121 args objs q.1 q.2∧HasBody Tryz.prog 121:=by
 unfold ct121 at h
 split at h
 ·rename_i l hl
  obtain⟨x,hx,hk⟩:=Option.bind_eq_some_iff.1 h
  obtain⟨h1,h2⟩:=sel9_ok hl
  cases m with
  |zero=>cases hx
  |succ m=>exact⟨_,hk,(expr_checkNode_fx m (hct m (Nat.lt_succ_self m)) _ hx).conv h1 h2,⟨_,Tryz.func121,rfl,by decide⟩⟩
 cases h
theorem ct100_ok (m:Nat) (hct:∀k,k<m→∀R,CallOK (R:=R) Tryz.prog (ct k)) {R:Type} {args:List AV} {objs:List Ob} {K:Res→Option R} {r:R} (h:ct100 m args objs K=some r):∃q:Res,K q=some r∧FX Tryz.prog 100 args objs q.1 q.2∧HasBody Tryz.prog 100:=by
 unfold ct100 at h
 split at h
 ·rename_i l hl
  obtain⟨x,hx,hk⟩:=Option.bind_eq_some_iff.1 h
  obtain⟨h1,h2⟩:=sel45_ok hl
  cases m with
  |zero=>cases hx
  |succ m=>exact⟨_,hk,(ref01_Valid_fx m (hct m (Nat.lt_succ_self m)) _ hx).conv h1 h2,⟨_,Tryz.func100,rfl,by decide⟩⟩
 cases h
theorem ct101_ok (m:Nat) (hct:∀k,k<m→∀R,CallOK (R:=R) Tryz.prog (ct k)) {R:Type} {args:List AV} {objs:List Ob} {K:Res→Option R} {r:R} (h:ct101 m args objs K=some r):∃q:Res,K q=some r∧FX Tryz.prog 101 args objs q.1 q.2∧HasBody Tryz.prog 101:=by
 unfold ct101 at h
 split at h
 ·rename_i l hl
  obtain⟨x,hx,hk⟩:=Option.bind_eq_some_iff.1 h
  obtain⟨h1,h2⟩:=sel46_ok hl
  cases m with
  |zero=>cases hx
  |succ m=>exact⟨_,hk,(ref01_Same_fx m (hct m (Nat.lt_succ_self m)) _ _ hx).conv h1 h2,⟨_,Tryz.func101,rfl,by decide⟩⟩
 cases h
theorem ct99_ok (m:Nat) (hct:∀k,k<m→∀R,CallOK (R:=R) Tryz.prog (ct k)) {R:Type} {args:List AV} {objs:List Ob} {K:Res→Option R} {r:R} (h:ct99 m args objs K=some r):∃q:Res,K q=some r∧FX Tryz.prog 99 args objs q.1 q.2∧HasBody Tryz.prog 99:=by
 unfold ct99 at h
 split at h
 ·rename_i l hl
  obtain⟨x,hx,hk⟩:=Option.bind_eq_some_iff.1 h
  obtain⟨h1,h2⟩:=sel16_ok hl
  cases m with
  |zero=>cases hx
  |succ m=>exact⟨_,hk,(ref08_named_fx m (hct m (Nat.lt_succ_self m)) _ hx).conv h1 h2,⟨_,Tryz.func99,rfl,by decide⟩⟩
 cases h
theorem ct98_ok (m:Nat) (hct:∀k,k<m→∀R,CallOK (R:=R) Tryz.prog (ct k)) {R:Type} {args:List AV} {objs:List Ob} {K:Res→Option R} {r:R} (h:ct98 m args objs K=some r):∃q:Res,K q=some r∧FX Tryz.prog 98 args objs q.1 q.2∧HasBody Tryz.prog 98:=by
 unfold ct98 at h
 split at h
 ·rename_i l hl
  obtain⟨x,hx,hk⟩:=Option.bind_eq_some_iff.1 h
  obtain⟨h1,h2⟩:=sel48_ok hl
  cases m with
  |zero=>cases hx
  |succ m=>exact⟨_,hk,(ref08_Kids_fx m (hct m (Nat.lt_succ_self m)) _ hx).conv h1 h2,⟨_,Tryz.func98,rfl,by decide⟩⟩
 cases h
theorem ct102_ok (m:Nat) (hct:∀k,k<m→∀R,CallOK (R:=R) Tryz.prog (ct k)) {R:Type} {args:List AV} {objs:List Ob} {K:Res→Option R} {r:R} (h:ct102 m args objs K=some r):∃q:Res,K q=some r∧FX Tryz.prog 102 args objs q.1 q.2∧HasBody Tryz.prog 102:=by
 unfold ct102 at h
 split at h
 ·rename_i l hl
  obtain⟨x,hx,hk⟩:=Option.bind_eq_some_iff.1 h
  obtain⟨h1,h2⟩:=sel17_ok hl
  cases m with
  |zero=>cases hx
  |succ m=>exact⟨_,hk,(ref04_Same_fx m (hct m (Nat.lt_succ_self m)) _ _ hx).conv h1 h2,⟨_,Tryz.func102,rfl,by decide⟩⟩
 cases h
theorem ct79_ok (m:Nat) (hct:∀k,k<m→∀R,CallOK (R:=R) Tryz.prog (ct k)) {R:Type} {args:List AV} {objs:List Ob} {K:Res→Option R} {r:R} (h:ct79 m args objs K=some r):∃q:Res,K q=some r∧FX Tryz.prog 79 args objs q.1 q.2∧HasBody Tryz.prog 79:=by
 unfold ct79 at h
 split at h
 ·rename_i l hl
  obtain⟨x,hx,hk⟩:=Option.bind_eq_some_iff.1 h
  obtain⟨h1,h2⟩:=sel9_ok hl
  cases m with
  |zero=>cases hx
  |succ m=>exact⟨_,hk,(pipeline_zeroExpr_fx m (hct m (Nat.lt_succ_self m)) _ hx).conv h1 h2,⟨_,Tryz.func79,rfl,by decide⟩⟩
 cases h
theorem ct157_ok (m:Nat) (hct:∀k,k<m→∀R,CallOK (R:=R) Tryz.prog (ct k)) {R:Type} {args:List AV} {objs:List Ob} {K:Res→Option R} {r:R} (h:ct157 m args objs K=some r):∃q:Res,K q=some r∧FX Tryz.prog 157 args objs q.1 q.2∧HasBody Tryz.prog 157:=by
 unfold ct157 at h
 split at h
 ·rename_i l hl
  obtain⟨x,hx,hk⟩:=Option.bind_eq_some_iff.1 h
  obtain⟨h1,h2⟩:=sel11_ok hl
  cases m with
  |zero=>cases hx
  |succ m=>exact⟨_,hk,(expr_isName_fx m (hct m (Nat.lt_succ_self m)) _ hx).conv h1 h2,⟨_,Tryz.func157,rfl,by decide⟩⟩
 cases h
theorem ct95_ok (m:Nat) (hct:∀k,k<m→∀R,CallOK (R:=R) Tryz.prog (ct k)) {R:Type} {args:List AV} {objs:List Ob} {K:Res→Option R} {r:R} (h:ct95 m args objs K=some r):∃q:Res,K q=some r∧FX Tryz.prog 95 args objs q.1 q.2∧HasBody Tryz.prog 95:=by
 unfold ct95 at h
 split at h
 ·rename_i l hl
  obtain⟨x,hx,hk⟩:=Option.bind_eq_some_iff.1 h
  obtain⟨h1,h2⟩:=sel45_ok hl
  cases m with
  |zero=>cases hx
  |succ m=>exact⟨_,hk,(value_Valid_fx m (hct m (Nat.lt_succ_self m)) _ hx).conv h1 h2,⟨_,Tryz.func95,rfl,by decide⟩⟩
 cases h
theorem ct159_ok (m:Nat) (hct:∀k,k<m→∀R,CallOK (R:=R) Tryz.prog (ct k)) {R:Type} {args:List AV} {objs:List Ob} {K:Res→Option R} {r:R} (h:ct159 m args objs K=some r):∃q:Res,K q=some r∧FX Tryz.prog 159 args objs q.1 q.2∧HasBody Tryz.prog 159:=by
 unfold ct159 at h
 split at h
 ·rename_i l hl
  obtain⟨x,hx,hk⟩:=Option.bind_eq_some_iff.1 h
  obtain⟨h1,h2⟩:=sel45_ok hl
  cases m with
  |zero=>cases hx
  |succ m=>exact⟨_,hk,(expr_isZero_fx m (hct m (Nat.lt_succ_self m)) _ hx).conv h1 h2,⟨_,Tryz.func159,rfl,by decide⟩⟩
 cases h
theorem ct158_ok (m:Nat) (hct:∀k,k<m→∀R,CallOK (R:=R) Tryz.prog (ct k)) {R:Type} {args:List AV} {objs:List Ob} {K:Res→Option R} {r:R} (h:ct158 m args objs K=some r):∃q:Res,K q=some r∧FX Tryz.prog 158 args objs q.1 q.2∧HasBody Tryz.prog 158:=by
 unfold ct158 at h
 split at h
 ·rename_i l hl
  obtain⟨x,hx,hk⟩:=Option.bind_eq_some_iff.1 h
  obtain⟨h1,h2⟩:=sel16_ok hl
  cases m with
  |zero=>cases hx
  |succ m=>exact⟨_,hk,(expr_distinctNames_fx m (hct m (Nat.lt_succ_self m)) _ hx).conv h1 h2,⟨_,Tryz.func158,rfl,by decide⟩⟩
 cases h
theorem ct156_ok (m:Nat) (hct:∀k,k<m→∀R,CallOK (R:=R) Tryz.prog (ct k)) {R:Type} {args:List AV} {objs:List Ob} {K:Res→Option R} {r:R} (h:ct156 m args objs K=some r):∃q:Res,K q=some r∧FX Tryz.prog 156 args objs q.1 q.2∧HasBody Tryz.prog 156:=by
 unfold ct156 at h
 split at h
 ·rename_i l hl
  obtain⟨x,hx,hk⟩:=Option.bind_eq_some_iff.1 h
  obtain⟨h1,h2⟩:=sel48_ok hl
  cases m with
  |zero=>cases hx
  |succ m=>exact⟨_,hk,(expr_shape_fx m (hct m (Nat.lt_succ_self m)) _ hx).conv h1 h2,⟨_,Tryz.func156,rfl,by decide⟩⟩
 cases h
theorem ct155_ok (m:Nat) (hct:∀k,k<m→∀R,CallOK (R:=R) Tryz.prog (ct k)) {R:Type} {args:List AV} {objs:List Ob} {K:Res→Option R} {r:R} (h:ct155 m args objs K=some r):∃q:Res,K q=some r∧FX Tryz.prog 155 args objs q.1 q.2∧HasBody Tryz.prog 155:=by
 unfold ct155 at h
 split at h
 ·rename_i l hl
  obtain⟨x,hx,hk⟩:=Option.bind_eq_some_iff.1 h
  obtain⟨h1,h2⟩:=sel56_ok hl
  cases m with
  |zero=>cases hx
  |succ m=>exact⟨_,hk,(expr_hasKids_fx m (hct m (Nat.lt_succ_self m)) _ _ hx).conv h1 h2,⟨_,Tryz.func155,rfl,by decide⟩⟩
 cases h
theorem ct124_ok (m:Nat) (hct:∀k,k<m→∀R,CallOK (R:=R) Tryz.prog (ct k)) {R:Type} {args:List AV} {objs:List Ob} {K:Res→Option R} {r:R} (h:ct124 m args objs K=some r):∃q:Res,K q=some r∧FX Tryz.prog 124 args objs q.1 q.2∧HasBody Tryz.prog 124:=by
 unfold ct124 at h
 split at h
 ·rename_i l hl
  obtain⟨x,hx,hk⟩:=Option.bind_eq_some_iff.1 h
  obtain⟨h1,h2⟩:=sel45_ok hl
  cases m with
  |zero=>cases hx
  |succ m=>exact⟨_,hk,(ref01_Depth_fx m (hct m (Nat.lt_succ_self m)) _ hx).conv h1 h2,⟨_,Tryz.func124,rfl,by decide⟩⟩
 cases h
theorem ct125_ok (m:Nat) (hct:∀k,k<m→∀R,CallOK (R:=R) Tryz.prog (ct k)) {R:Type} {args:List AV} {objs:List Ob} {K:Res→Option R} {r:R} (h:ct125 m args objs K=some r):∃q:Res,K q=some r∧FX Tryz.prog 125 args objs q.1 q.2∧HasBody Tryz.prog 125:=by
 unfold ct125 at h
 split at h
 ·rename_i l hl
  obtain⟨x,hx,hk⟩:=Option.bind_eq_some_iff.1 h
  obtain⟨h1,h2⟩:=sel45_ok hl
  cases m with
  |zero=>cases hx
  |succ m=>exact⟨_,hk,(ref01_Nodes_fx m (hct m (Nat.lt_succ_self m)) _ hx).conv h1 h2,⟨_,Tryz.func125,rfl,by decide⟩⟩
 cases h
theorem ct126_ok (m:Nat) (hct:∀k,k<m→∀R,CallOK (R:=R) Tryz.prog (ct k)) {R:Type} {args:List AV} {objs:List Ob} {K:Res→Option R} {r:R} (h:ct126 m args objs K=some r):∃q:Res,K q=some r∧FX Tryz.prog 126 args objs q.1 q.2∧HasBody Tryz.prog 126:=by
 unfold ct126 at h
 split at h
 ·rename_i l hl
  obtain⟨x,hx,hk⟩:=Option.bind_eq_some_iff.1 h
  obtain⟨h1,h2⟩:=sel59_ok hl
  cases m with
  |zero=>cases hx
  |succ m=>exact⟨_,hk,(ref01_formed_fx m (hct m (Nat.lt_succ_self m)) _ _ hx).conv h1 h2,⟨_,Tryz.func126,rfl,by decide⟩⟩
 cases h
theorem ct127_ok (m:Nat) (hct:∀k,k<m→∀R,CallOK (R:=R) Tryz.prog (ct k)) {R:Type} {args:List AV} {objs:List Ob} {K:Res→Option R} {r:R} (h:ct127 m args objs K=some r):∃q:Res,K q=some r∧FX Tryz.prog 127 args objs q.1 q.2∧HasBody Tryz.prog 127:=by
 unfold ct127 at h
 split at h
 ·rename_i l hl
  obtain⟨x,hx,hk⟩:=Option.bind_eq_some_iff.1 h
  obtain⟨h1,h2⟩:=sel17_ok hl
  cases m with
  |zero=>cases hx
  |succ m=>exact⟨_,hk,(ref04_prefix_fx m (hct m (Nat.lt_succ_self m)) _ _ hx).conv h1 h2,⟨_,Tryz.func127,rfl,by decide⟩⟩
 cases h
theorem ct115_ok (m:Nat) (hct:∀k,k<m→∀R,CallOK (R:=R) Tryz.prog (ct k)) {R:Type} {args:List AV} {objs:List Ob} {K:Res→Option R} {r:R} (h:ct115 m args objs K=some r):∃q:Res,K q=some r∧FX Tryz.prog 115 args objs q.1 q.2∧HasBody Tryz.prog 115:=by
 unfold ct115 at h
 split at h
 ·rename_i l hl
  obtain⟨x,hx,hk⟩:=Option.bind_eq_some_iff.1 h
  obtain⟨h1,h2⟩:=sel45_ok hl
  cases m with
  |zero=>cases hx
  |succ m=>exact⟨_,hk,(pipeline_zeroValue_fx m (hct m (Nat.lt_succ_self m)) _ hx).conv h1 h2,⟨_,Tryz.func115,rfl,by decide⟩⟩
 cases h
theorem ct118_ok (m:Nat) (hct:∀k,k<m→∀R,CallOK (R:=R) Tryz.prog (ct k)) {R:Type} {args:List AV} {objs:List Ob} {K:Res→Option R} {r:R} (h:ct118 m args objs K=some r):∃q:Res,K q=some r∧FX Tryz.prog 118 args objs q.1 q.2∧HasBody Tryz.prog 118:=by
 unfold ct118 at h
 split at h
 ·rename_i l hl
  obtain⟨x,hx,hk⟩:=Option.bind_eq_some_iff.1 h
  obtain⟨h1,h2⟩:=sel45_ok hl
  cases m with
  |zero=>cases hx
  |succ m=>exact⟨_,hk,(value_Nodes_fx m (hct m (Nat.lt_succ_self m)) _ hx).conv h1 h2,⟨_,Tryz.func118,rfl,by decide⟩⟩
 cases h
theorem ct119_ok (m:Nat) (hct:∀k,k<m→∀R,CallOK (R:=R) Tryz.prog (ct k)) {R:Type} {args:List AV} {objs:List Ob} {K:Res→Option R} {r:R} (h:ct119 m args objs K=some r):∃q:Res,K q=some r∧FX Tryz.prog 119 args objs q.1 q.2∧HasBody Tryz.prog 119:=by
 unfold ct119 at h
 split at h
 ·rename_i l hl
  obtain⟨x,hx,hk⟩:=Option.bind_eq_some_iff.1 h
  obtain⟨h1,h2⟩:=sel45_ok hl
  cases m with
  |zero=>cases hx
  |succ m=>exact⟨_,hk,(value_Depth_fx m (hct m (Nat.lt_succ_self m)) _ hx).conv h1 h2,⟨_,Tryz.func119,rfl,by decide⟩⟩
 cases h
theorem ct120_ok (m:Nat) (hct:∀k,k<m→∀R,CallOK (R:=R) Tryz.prog (ct k)) {R:Type} {args:List AV} {objs:List Ob} {K:Res→Option R} {r:R} (h:ct120 m args objs K=some r):∃q:Res,K q=some r∧FX Tryz.prog 120 args objs q.1 q.2∧HasBody Tryz.prog 120:=by
 unfold ct120 at h
 split at h
 ·rename_i l hl
  obtain⟨x,hx,hk⟩:=Option.bind_eq_some_iff.1 h
  obtain⟨h1,h2⟩:=sel45_ok hl
  cases m with
  |zero=>cases hx
  |succ m=>exact⟨_,hk,(value_sound_fx m (hct m (Nat.lt_succ_self m)) _ hx).conv h1 h2,⟨_,Tryz.func120,rfl,by decide⟩⟩
 cases h
theorem ct160_ok (m:Nat) (hct:∀k,k<m→∀R,CallOK (R:=R) Tryz.prog (ct k)) {R:Type} {args:List AV} {objs:List Ob} {K:Res→Option R} {r:R} (h:ct160 m args objs K=some r):∃q:Res,K q=some r∧FX Tryz.prog 160 args objs q.1 q.2∧HasBody Tryz.prog 160:=by
 unfold ct160 at h
 split at h
 ·rename_i l hl
  obtain⟨x,hx,hk⟩:=Option.bind_eq_some_iff.1 h
  obtain⟨h1,h2⟩:=sel65_ok hl
  cases m with
  |zero=>cases hx
  |succ m=>exact⟨_,hk,(ref01_levels_fx m (hct m (Nat.lt_succ_self m)) _ _ hx).conv h1 h2,⟨_,Tryz.func160,rfl,by decide⟩⟩
 cases h
theorem ct161_ok (m:Nat) (hct:∀k,k<m→∀R,CallOK (R:=R) Tryz.prog (ct k)) {R:Type} {args:List AV} {objs:List Ob} {K:Res→Option R} {r:R} (h:ct161 m args objs K=some r):∃q:Res,K q=some r∧FX Tryz.prog 161 args objs q.1 q.2∧HasBody Tryz.prog 161:=by
 unfold ct161 at h
 split at h
 ·rename_i l hl
  obtain⟨x,hx,hk⟩:=Option.bind_eq_some_iff.1 h
  obtain⟨h1,h2⟩:=sel65_ok hl
  cases m with
  |zero=>cases hx
  |succ m=>exact⟨_,hk,(ref01_count_fx m (hct m (Nat.lt_succ_self m)) _ _ hx).conv h1 h2,⟨_,Tryz.func161,rfl,by decide⟩⟩
 cases h
theorem ct162_ok (m:Nat) (hct:∀k,k<m→∀R,CallOK (R:=R) Tryz.prog (ct k)) {R:Type} {args:List AV} {objs:List Ob} {K:Res→Option R} {r:R} (h:ct162 m args objs K=some r):∃q:Res,K q=some r∧FX Tryz.prog 162 args objs q.1 q.2∧HasBody Tryz.prog 162:=by
 unfold ct162 at h
 split at h
 ·rename_i l hl
  obtain⟨x,hx,hk⟩:=Option.bind_eq_some_iff.1 h
  obtain⟨h1,h2⟩:=sel11_ok hl
  cases m with
  |zero=>cases hx
  |succ m=>exact⟨_,hk,(ref01_UTF8_fx m (hct m (Nat.lt_succ_self m)) _ hx).conv h1 h2,⟨_,Tryz.func162,rfl,by decide⟩⟩
 cases h
theorem ct163_ok (m:Nat) (hct:∀k,k<m→∀R,CallOK (R:=R) Tryz.prog (ct k)) {R:Type} {args:List AV} {objs:List Ob} {K:Res→Option R} {r:R} (h:ct163 m args objs K=some r):∃q:Res,K q=some r∧FX Tryz.prog 163 args objs q.1 q.2∧HasBody Tryz.prog 163:=by
 unfold ct163 at h
 split at h
 ·rename_i l hl
  obtain⟨x,hx,hk⟩:=Option.bind_eq_some_iff.1 h
  obtain⟨h1,h2⟩:=sel59_ok hl
  cases m with
  |zero=>cases hx
  |succ m=>exact⟨_,hk,(ref01_fields_fx m (hct m (Nat.lt_succ_self m)) _ _ hx).conv h1 h2,⟨_,Tryz.func163,rfl,by decide⟩⟩
 cases h
theorem ct151_ok (m:Nat) (hct:∀k,k<m→∀R,CallOK (R:=R) Tryz.prog (ct k)) {R:Type} {args:List AV} {objs:List Ob} {K:Res→Option R} {r:R} (h:ct151 m args objs K=some r):∃q:Res,K q=some r∧FX Tryz.prog 151 args objs q.1 q.2∧HasBody Tryz.prog 151:=by
 unfold ct151 at h
 split at h
 ·rename_i l hl
  obtain⟨x,hx,hk⟩:=Option.bind_eq_some_iff.1 h
  obtain⟨h1,h2⟩:=sel65_ok hl
  cases m with
  |zero=>cases hx
  |succ m=>exact⟨_,hk,(value_nodes_fx m (hct m (Nat.lt_succ_self m)) _ _ hx).conv h1 h2,⟨_,Tryz.func151,rfl,by decide⟩⟩
 cases h
theorem ct152_ok (m:Nat) (hct:∀k,k<m→∀R,CallOK (R:=R) Tryz.prog (ct k)) {R:Type} {args:List AV} {objs:List Ob} {K:Res→Option R} {r:R} (h:ct152 m args objs K=some r):∃q:Res,K q=some r∧FX Tryz.prog 152 args objs q.1 q.2∧HasBody Tryz.prog 152:=by
 unfold ct152 at h
 split at h
 ·rename_i l hl
  obtain⟨x,hx,hk⟩:=Option.bind_eq_some_iff.1 h
  obtain⟨h1,h2⟩:=sel65_ok hl
  cases m with
  |zero=>cases hx
  |succ m=>exact⟨_,hk,(value_depth_fx m (hct m (Nat.lt_succ_self m)) _ _ hx).conv h1 h2,⟨_,Tryz.func152,rfl,by decide⟩⟩
 cases h
theorem ct153_ok (m:Nat) (hct:∀k,k<m→∀R,CallOK (R:=R) Tryz.prog (ct k)) {R:Type} {args:List AV} {objs:List Ob} {K:Res→Option R} {r:R} (h:ct153 m args objs K=some r):∃q:Res,K q=some r∧FX Tryz.prog 153 args objs q.1 q.2∧HasBody Tryz.prog 153:=by
 unfold ct153 at h
 split at h
 ·rename_i l hl
  obtain⟨x,hx,hk⟩:=Option.bind_eq_some_iff.1 h
  obtain⟨h1,h2⟩:=sel11_ok hl
  exact⟨_,hk,(ValidString_fx hx).conv h1 h2,⟨_,Tryz.func153,rfl,by decide⟩⟩
 cases h
theorem ct154_ok (m:Nat) (hct:∀k,k<m→∀R,CallOK (R:=R) Tryz.prog (ct k)) {R:Type} {args:List AV} {objs:List Ob} {K:Res→Option R} {r:R} (h:ct154 m args objs K=some r):∃q:Res,K q=some r∧FX Tryz.prog 154 args objs q.1 q.2∧HasBody Tryz.prog 154:=by
 unfold ct154 at h
 split at h
 ·rename_i l hl
  obtain⟨x,hx,hk⟩:=Option.bind_eq_some_iff.1 h
  obtain⟨h1,h2⟩:=sel72_ok hl
  cases m with
  |zero=>cases hx
  |succ m=>exact⟨_,hk,(value_soundFields_fx m (hct m (Nat.lt_succ_self m)) _ hx).conv h1 h2,⟨_,Tryz.func154,rfl,by decide⟩⟩
 cases h
theorem ct185_ok (m:Nat) (hct:∀k,k<m→∀R,CallOK (R:=R) Tryz.prog (ct k)) {R:Type} {args:List AV} {objs:List Ob} {K:Res→Option R} {r:R} (h:ct185 m args objs K=some r):∃q:Res,K q=some r∧FX Tryz.prog 185 args objs q.1 q.2∧HasBody Tryz.prog 185:=by
 unfold ct185 at h
 split at h
 ·rename_i l hl
  obtain⟨x,hx,hk⟩:=Option.bind_eq_some_iff.1 h
  obtain⟨h1,h2⟩:=sel45_ok hl
  cases m with
  |zero=>cases hx
  |succ m=>exact⟨_,hk,(ref01_Parts_fx m (hct m (Nat.lt_succ_self m)) _ hx).conv h1 h2,⟨_,Tryz.func185,rfl,by decide⟩⟩
 cases h
theorem ct186_ok (m:Nat) (hct:∀k,k<m→∀R,CallOK (R:=R) Tryz.prog (ct k)) {R:Type} {args:List AV} {objs:List Ob} {K:Res→Option R} {r:R} (h:ct186 m args objs K=some r):∃q:Res,K q=some r∧FX Tryz.prog 186 args objs q.1 q.2∧HasBody Tryz.prog 186:=by
 unfold ct186 at h
 split at h
 ·rename_i l hl
  obtain⟨x,hx,hk⟩:=Option.bind_eq_some_iff.1 h
  obtain⟨h1,h2⟩:=sel74_ok hl
  cases m with
  |zero=>cases hx
  |succ m=>exact⟨_,hk,(ref01_tail_fx m (hct m (Nat.lt_succ_self m)) _ _ _ hx).conv h1 h2,⟨_,Tryz.func186,rfl,by decide⟩⟩
 cases h
theorem ct187_ok (m:Nat) (hct:∀k,k<m→∀R,CallOK (R:=R) Tryz.prog (ct k)) {R:Type} {args:List AV} {objs:List Ob} {K:Res→Option R} {r:R} (h:ct187 m args objs K=some r):∃q:Res,K q=some r∧FX Tryz.prog 187 args objs q.1 q.2∧HasBody Tryz.prog 187:=by
 unfold ct187 at h
 split at h
 ·rename_i l hl
  obtain⟨x,hx,hk⟩:=Option.bind_eq_some_iff.1 h
  obtain⟨h1,h2⟩:=sel11_ok hl
  cases m with
  |zero=>cases hx
  |succ m=>exact⟨_,hk,(ref01_wide_fx m (hct m (Nat.lt_succ_self m)) _ hx).conv h1 h2,⟨_,Tryz.func187,rfl,by decide⟩⟩
 cases h
theorem ct180_ok (m:Nat) (hct:∀k,k<m→∀R,CallOK (R:=R) Tryz.prog (ct k)) {R:Type} {args:List AV} {objs:List Ob} {K:Res→Option R} {r:R} (h:ct180 m args objs K=some r):∃q:Res,K q=some r∧FX Tryz.prog 180 args objs q.1 q.2∧HasBody Tryz.prog 180:=by
 unfold ct180 at h
 split at h
 ·rename_i l hl
  obtain⟨x,hx,hk⟩:=Option.bind_eq_some_iff.1 h
  obtain⟨h1,h2⟩:=sel76_ok hl
  cases m with
  |zero=>cases hx
  |succ m=>exact⟨_,hk,(i76_fx m (hct m (Nat.lt_succ_self m)) _ _ _ hx).conv h1 h2,⟨_,Tryz.func180,rfl,by decide⟩⟩
 split at h
 ·rename_i l hl
  obtain⟨x,hx,hk⟩:=Option.bind_eq_some_iff.1 h
  obtain⟨h1,h2⟩:=sel78_ok hl
  cases m with
  |zero=>cases hx
  |succ m=>exact⟨_,hk,(i78_fx m (hct m (Nat.lt_succ_self m)) _ _ _ hx).conv h1 h2,⟨_,Tryz.func180,rfl,by decide⟩⟩
 cases h
theorem ct181_ok (m:Nat) (hct:∀k,k<m→∀R,CallOK (R:=R) Tryz.prog (ct k)) {R:Type} {args:List AV} {objs:List Ob} {K:Res→Option R} {r:R} (h:ct181 m args objs K=some r):∃q:Res,K q=some r∧FX Tryz.prog 181 args objs q.1 q.2∧HasBody Tryz.prog 181:=by
 unfold ct181 at h
 split at h
 ·rename_i l hl
  obtain⟨x,hx,hk⟩:=Option.bind_eq_some_iff.1 h
  obtain⟨h1,h2⟩:=sel77_ok hl
  cases m with
  |zero=>cases hx
  |succ m=>exact⟨_,hk,(i77_fx m (hct m (Nat.lt_succ_self m)) _ _ _ hx).conv h1 h2,⟨_,Tryz.func181,rfl,by decide⟩⟩
 cases h
theorem ct182_ok (m:Nat) (hct:∀k,k<m→∀R,CallOK (R:=R) Tryz.prog (ct k)) {R:Type} {args:List AV} {objs:List Ob} {K:Res→Option R} {r:R} (h:ct182 m args objs K=some r):∃q:Res,K q=some r∧FX Tryz.prog 182 args objs q.1 q.2∧HasBody Tryz.prog 182:=by
 unfold ct182 at h
 split at h
 ·rename_i l hl
  obtain⟨x,hx,hk⟩:=Option.bind_eq_some_iff.1 h
  obtain⟨h1,h2⟩:=sel77_ok hl
  cases m with
  |zero=>cases hx
  |succ m=>exact⟨_,hk,(i79_fx m (hct m (Nat.lt_succ_self m)) _ _ _ hx).conv h1 h2,⟨_,Tryz.func182,rfl,by decide⟩⟩
 cases h
theorem ct184_ok (m:Nat) (hct:∀k,k<m→∀R,CallOK (R:=R) Tryz.prog (ct k)) {R:Type} {args:List AV} {objs:List Ob} {K:Res→Option R} {r:R} (h:ct184 m args objs K=some r):∃q:Res,K q=some r∧FX Tryz.prog 184 args objs q.1 q.2∧HasBody Tryz.prog 184:=by
 unfold ct184 at h
 split at h
 ·rename_i l hl
  obtain⟨x,hx,hk⟩:=Option.bind_eq_some_iff.1 h
  obtain⟨h1,h2⟩:=sel11_ok hl
  cases m with
  |zero=>cases hx
  |succ m=>exact⟨_,hk,(value_isName_fx m (hct m (Nat.lt_succ_self m)) _ hx).conv h1 h2,⟨_,Tryz.func184,rfl,by decide⟩⟩
 cases h
set_option maxHeartbeats 4000000 in
theorem ct_ok:∀(m:Nat) (R:Type),CallOK (R:=R) Tryz.prog (ct m):=by
 intro m
 induction m using Nat.strongRecOn with
 |_ m ih=>
  intro R f args objs K r h
  unfold ct at h
  rcases bset_some h with⟨hb,h1⟩| ⟨_,h⟩
  · have e:=beq_eq hb
    subst e
    exact ct3_ok m ih h1
  rcases bset_some h with⟨hb,h1⟩| ⟨_,h⟩
  · have e:=beq_eq hb
    subst e
    exact ct4_ok m ih h1
  rcases bset_some h with⟨hb,h1⟩| ⟨_,h⟩
  · have e:=beq_eq hb
    subst e
    exact ct5_ok m ih h1
  rcases bset_some h with⟨hb,h1⟩| ⟨_,h⟩
  · have e:=beq_eq hb
    subst e
    exact ct6_ok m ih h1
  rcases bset_some h with⟨hb,h1⟩| ⟨_,h⟩
  · have e:=beq_eq hb
    subst e
    exact ct7_ok m ih h1
  rcases bset_some h with⟨hb,h1⟩| ⟨_,h⟩
  · have e:=beq_eq hb
    subst e
    exact ct8_ok m ih h1
  rcases bset_some h with⟨hb,h1⟩| ⟨_,h⟩
  · have e:=beq_eq hb
    subst e
    exact ct11_ok m ih h1
  rcases bset_some h with⟨hb,h1⟩| ⟨_,h⟩
  · have e:=beq_eq hb
    subst e
    exact ct22_ok m ih h1
  rcases bset_some h with⟨hb,h1⟩| ⟨_,h⟩
  · have e:=beq_eq hb
    subst e
    exact ct12_ok m ih h1
  rcases bset_some h with⟨hb,h1⟩| ⟨_,h⟩
  · have e:=beq_eq hb
    subst e
    exact ct13_ok m ih h1
  rcases bset_some h with⟨hb,h1⟩| ⟨_,h⟩
  · have e:=beq_eq hb
    subst e
    exact ct14_ok m ih h1
  rcases bset_some h with⟨hb,h1⟩| ⟨_,h⟩
  · have e:=beq_eq hb
    subst e
    exact ct15_ok m ih h1
  rcases bset_some h with⟨hb,h1⟩| ⟨_,h⟩
  · have e:=beq_eq hb
    subst e
    exact ct16_ok m ih h1
  rcases bset_some h with⟨hb,h1⟩| ⟨_,h⟩
  · have e:=beq_eq hb
    subst e
    exact ct23_ok m ih h1
  rcases bset_some h with⟨hb,h1⟩| ⟨_,h⟩
  · have e:=beq_eq hb
    subst e
    exact ct24_ok m ih h1
  rcases bset_some h with⟨hb,h1⟩| ⟨_,h⟩
  · have e:=beq_eq hb
    subst e
    exact ct25_ok m ih h1
  rcases bset_some h with⟨hb,h1⟩| ⟨_,h⟩
  · have e:=beq_eq hb
    subst e
    exact ct26_ok m ih h1
  rcases bset_some h with⟨hb,h1⟩| ⟨_,h⟩
  · have e:=beq_eq hb
    subst e
    exact ct27_ok m ih h1
  rcases bset_some h with⟨hb,h1⟩| ⟨_,h⟩
  · have e:=beq_eq hb
    subst e
    exact ct28_ok m ih h1
  rcases bset_some h with⟨hb,h1⟩| ⟨_,h⟩
  · have e:=beq_eq hb
    subst e
    exact ct29_ok m ih h1
  rcases bset_some h with⟨hb,h1⟩| ⟨_,h⟩
  · have e:=beq_eq hb
    subst e
    exact ct43_ok m ih h1
  rcases bset_some h with⟨hb,h1⟩| ⟨_,h⟩
  · have e:=beq_eq hb
    subst e
    exact ct44_ok m ih h1
  rcases bset_some h with⟨hb,h1⟩| ⟨_,h⟩
  · have e:=beq_eq hb
    subst e
    exact ct45_ok m ih h1
  rcases bset_some h with⟨hb,h1⟩| ⟨_,h⟩
  · have e:=beq_eq hb
    subst e
    exact ct46_ok m ih h1
  rcases bset_some h with⟨hb,h1⟩| ⟨_,h⟩
  · have e:=beq_eq hb
    subst e
    exact ct47_ok m ih h1
  rcases bset_some h with⟨hb,h1⟩| ⟨_,h⟩
  · have e:=beq_eq hb
    subst e
    exact ct48_ok m ih h1
  rcases bset_some h with⟨hb,h1⟩| ⟨_,h⟩
  · have e:=beq_eq hb
    subst e
    exact ct49_ok m ih h1
  rcases bset_some h with⟨hb,h1⟩| ⟨_,h⟩
  · have e:=beq_eq hb
    subst e
    exact ct50_ok m ih h1
  rcases bset_some h with⟨hb,h1⟩| ⟨_,h⟩
  · have e:=beq_eq hb
    subst e
    exact ct51_ok m ih h1
  rcases bset_some h with⟨hb,h1⟩| ⟨_,h⟩
  · have e:=beq_eq hb
    subst e
    exact ct52_ok m ih h1
  rcases bset_some h with⟨hb,h1⟩| ⟨_,h⟩
  · have e:=beq_eq hb
    subst e
    exact ct53_ok m ih h1
  rcases bset_some h with⟨hb,h1⟩| ⟨_,h⟩
  · have e:=beq_eq hb
    subst e
    exact ct54_ok m ih h1
  rcases bset_some h with⟨hb,h1⟩| ⟨_,h⟩
  · have e:=beq_eq hb
    subst e
    exact ct55_ok m ih h1
  rcases bset_some h with⟨hb,h1⟩| ⟨_,h⟩
  · have e:=beq_eq hb
    subst e
    exact ct56_ok m ih h1
  rcases bset_some h with⟨hb,h1⟩| ⟨_,h⟩
  · have e:=beq_eq hb
    subst e
    exact ct57_ok m ih h1
  rcases bset_some h with⟨hb,h1⟩| ⟨_,h⟩
  · have e:=beq_eq hb
    subst e
    exact ct58_ok m ih h1
  rcases bset_some h with⟨hb,h1⟩| ⟨_,h⟩
  · have e:=beq_eq hb
    subst e
    exact ct59_ok m ih h1
  rcases bset_some h with⟨hb,h1⟩| ⟨_,h⟩
  · have e:=beq_eq hb
    subst e
    exact ct89_ok m ih h1
  rcases bset_some h with⟨hb,h1⟩| ⟨_,h⟩
  · have e:=beq_eq hb
    subst e
    exact ct90_ok m ih h1
  rcases bset_some h with⟨hb,h1⟩| ⟨_,h⟩
  · have e:=beq_eq hb
    subst e
    exact ct117_ok m ih h1
  rcases bset_some h with⟨hb,h1⟩| ⟨_,h⟩
  · have e:=beq_eq hb
    subst e
    exact ct91_ok m ih h1
  rcases bset_some h with⟨hb,h1⟩| ⟨_,h⟩
  · have e:=beq_eq hb
    subst e
    exact ct92_ok m ih h1
  rcases bset_some h with⟨hb,h1⟩| ⟨_,h⟩
  · have e:=beq_eq hb
    subst e
    exact ct94_ok m ih h1
  rcases bset_some h with⟨hb,h1⟩| ⟨_,h⟩
  · have e:=beq_eq hb
    subst e
    exact ct96_ok m ih h1
  rcases bset_some h with⟨hb,h1⟩| ⟨_,h⟩
  · have e:=beq_eq hb
    subst e
    exact ct121_ok m ih h1
  rcases bset_some h with⟨hb,h1⟩| ⟨_,h⟩
  · have e:=beq_eq hb
    subst e
    exact ct100_ok m ih h1
  rcases bset_some h with⟨hb,h1⟩| ⟨_,h⟩
  · have e:=beq_eq hb
    subst e
    exact ct101_ok m ih h1
  rcases bset_some h with⟨hb,h1⟩| ⟨_,h⟩
  · have e:=beq_eq hb
    subst e
    exact ct99_ok m ih h1
  rcases bset_some h with⟨hb,h1⟩| ⟨_,h⟩
  · have e:=beq_eq hb
    subst e
    exact ct98_ok m ih h1
  rcases bset_some h with⟨hb,h1⟩| ⟨_,h⟩
  · have e:=beq_eq hb
    subst e
    exact ct102_ok m ih h1
  rcases bset_some h with⟨hb,h1⟩| ⟨_,h⟩
  · have e:=beq_eq hb
    subst e
    exact ct79_ok m ih h1
  rcases bset_some h with⟨hb,h1⟩| ⟨_,h⟩
  · have e:=beq_eq hb
    subst e
    exact ct157_ok m ih h1
  rcases bset_some h with⟨hb,h1⟩| ⟨_,h⟩
  · have e:=beq_eq hb
    subst e
    exact ct95_ok m ih h1
  rcases bset_some h with⟨hb,h1⟩| ⟨_,h⟩
  · have e:=beq_eq hb
    subst e
    exact ct159_ok m ih h1
  rcases bset_some h with⟨hb,h1⟩| ⟨_,h⟩
  · have e:=beq_eq hb
    subst e
    exact ct158_ok m ih h1
  rcases bset_some h with⟨hb,h1⟩| ⟨_,h⟩
  · have e:=beq_eq hb
    subst e
    exact ct156_ok m ih h1
  rcases bset_some h with⟨hb,h1⟩| ⟨_,h⟩
  · have e:=beq_eq hb
    subst e
    exact ct155_ok m ih h1
  rcases bset_some h with⟨hb,h1⟩| ⟨_,h⟩
  · have e:=beq_eq hb
    subst e
    exact ct124_ok m ih h1
  rcases bset_some h with⟨hb,h1⟩| ⟨_,h⟩
  · have e:=beq_eq hb
    subst e
    exact ct125_ok m ih h1
  rcases bset_some h with⟨hb,h1⟩| ⟨_,h⟩
  · have e:=beq_eq hb
    subst e
    exact ct126_ok m ih h1
  rcases bset_some h with⟨hb,h1⟩| ⟨_,h⟩
  · have e:=beq_eq hb
    subst e
    exact ct127_ok m ih h1
  rcases bset_some h with⟨hb,h1⟩| ⟨_,h⟩
  · have e:=beq_eq hb
    subst e
    exact ct115_ok m ih h1
  rcases bset_some h with⟨hb,h1⟩| ⟨_,h⟩
  · have e:=beq_eq hb
    subst e
    exact ct118_ok m ih h1
  rcases bset_some h with⟨hb,h1⟩| ⟨_,h⟩
  · have e:=beq_eq hb
    subst e
    exact ct119_ok m ih h1
  rcases bset_some h with⟨hb,h1⟩| ⟨_,h⟩
  · have e:=beq_eq hb
    subst e
    exact ct120_ok m ih h1
  rcases bset_some h with⟨hb,h1⟩| ⟨_,h⟩
  · have e:=beq_eq hb
    subst e
    exact ct160_ok m ih h1
  rcases bset_some h with⟨hb,h1⟩| ⟨_,h⟩
  · have e:=beq_eq hb
    subst e
    exact ct161_ok m ih h1
  rcases bset_some h with⟨hb,h1⟩| ⟨_,h⟩
  · have e:=beq_eq hb
    subst e
    exact ct162_ok m ih h1
  rcases bset_some h with⟨hb,h1⟩| ⟨_,h⟩
  · have e:=beq_eq hb
    subst e
    exact ct163_ok m ih h1
  rcases bset_some h with⟨hb,h1⟩| ⟨_,h⟩
  · have e:=beq_eq hb
    subst e
    exact ct151_ok m ih h1
  rcases bset_some h with⟨hb,h1⟩| ⟨_,h⟩
  · have e:=beq_eq hb
    subst e
    exact ct152_ok m ih h1
  rcases bset_some h with⟨hb,h1⟩| ⟨_,h⟩
  · have e:=beq_eq hb
    subst e
    exact ct153_ok m ih h1
  rcases bset_some h with⟨hb,h1⟩| ⟨_,h⟩
  · have e:=beq_eq hb
    subst e
    exact ct154_ok m ih h1
  rcases bset_some h with⟨hb,h1⟩| ⟨_,h⟩
  · have e:=beq_eq hb
    subst e
    exact ct185_ok m ih h1
  rcases bset_some h with⟨hb,h1⟩| ⟨_,h⟩
  · have e:=beq_eq hb
    subst e
    exact ct186_ok m ih h1
  rcases bset_some h with⟨hb,h1⟩| ⟨_,h⟩
  · have e:=beq_eq hb
    subst e
    exact ct187_ok m ih h1
  rcases bset_some h with⟨hb,h1⟩| ⟨_,h⟩
  · have e:=beq_eq hb
    subst e
    exact ct180_ok m ih h1
  rcases bset_some h with⟨hb,h1⟩| ⟨_,h⟩
  · have e:=beq_eq hb
    subst e
    exact ct181_ok m ih h1
  rcases bset_some h with⟨hb,h1⟩| ⟨_,h⟩
  · have e:=beq_eq hb
    subst e
    exact ct182_ok m ih h1
  rcases bset_some h with⟨hb,h1⟩| ⟨_,h⟩
  · have e:=beq_eq hb
    subst e
    exact ct184_ok m ih h1
  cases h
end Go.Proofs.YtbailjcjlapenaaGreatDoor
