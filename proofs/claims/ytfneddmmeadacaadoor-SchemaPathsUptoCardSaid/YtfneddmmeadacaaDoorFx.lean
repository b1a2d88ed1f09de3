/- Generated: the contracts. -/
import Derived.Test.YtfneddmmeadacaaDoorEq0
import Derived.Test.YtfneddmmeadacaaDoorEq1
import Derived.Test.YtfneddmmeadacaaDoorEq2
set_option linter.unusedVariables false
set_option linter.unusedSimpArgs false
namespace Go.Proofs.YtfneddmmeadacaaDoor
open Go.Am
set_option maxRecDepth 100000
theorem mixed:Tryd.prog.follows .mixedOrders=true:=by kernel_rfl
theorem ref14_Count_fx (m:Nat) (hct:∀R,CallOK (R:=R) Tryd.prog (ct m)) (a0:Dt) (a1:Int) {r:Int} (h:ref14_Count (m+1) a0 a1=some r):FX Tryd.prog 7 [(.dat 30 a0),(.dat 3 (.int a1))] [] (.dat 3 (.int r)) []:=
 FX_of (q:=((.dat 3 (.int r)),[])) (E:=env) (m:=m+1) (dec:=d7) jn_ok (hct _) mixed Tryd.func7 rfl (Nat.le_of_ble_eq_true rfl) (fun b hb=>d7_sim hb) ((ref14_Count_eq m a0 a1).trans h)
theorem schema_hasKind_fx (m:Nat) (hct:∀R,CallOK (R:=R) Tryd.prog (ct m)) (a0 a1:Int) {r:Bool} (h:schema_hasKind (m+1) a0 a1=some r):FX Tryd.prog 41 [(.dat 3 (.int a0)),(.dat 3 (.int a1))] [] (.dat 4 (.bool r)) []:=
 FX_of (q:=((.dat 4 (.bool r)),[])) (E:=env) (m:=m+1) (dec:=d10) jn_ok (hct _) mixed Tryd.func41 rfl (Nat.le_of_ble_eq_true rfl) (fun b hb=>d10_sim hb) ((schema_hasKind_eq m a0 a1).trans h)
theorem slices_Concat_fx (m:Nat) (hct:∀R,CallOK (R:=R) Tryd.prog (ct m)) (a0:List Dt) {r:List Dt} (h:slices_Concat (m+1) a0=some r):FX Tryd.prog 38 [(.dat 94 (.lst a0))] [] (.dat 26 (.lst r)) []:=
 FX_of (q:=((.dat 26 (.lst r)),[])) (E:=env) (m:=m+1) (dec:=d12) jn_ok (hct _) mixed Tryd.func38 rfl (Nat.le_of_ble_eq_true rfl) (fun b hb=>d12_sim hb) ((slices_Concat_eq m a0).trans h)
theorem i11_fx (m:Nat) (hct:∀R,CallOK (R:=R) Tryd.prog (ct m)) (a0:Bool) (a1:Int) (a2 a3 a4:List Dt) {r:List Dt×List Dt×List Dt} (h:i11 (m+1) a0 a1 a2 a3 a4=some r):FX Tryd.prog 37 [(.dat 4 (.bool a0)),(.dat 3 (.int a1)),(.dat 26 (.lst a2)),(.ptr 0 [] 0),(.ptr 2 [] 0)] [(.box 38 (.row 1)),(.row 38 a3),(.box 26 (.row 3)),(.row 26 a4)] (.tup []) [(.box 38 (.row 4)),.gone,(.box 26 (.dat 26 (.lst r.1))),(.frz 26 r.2.1),(.row 38 r.2.2)]:=
 FX_of (q:=((.tup []),[(.box 38 (.row 4)),.gone,(.box 26 (.dat 26 (.lst r.1))),(.frz 26 r.2.1),(.row 38 r.2.2)])) (E:=env) (m:=m+1) (dec:=d11) jn_ok (hct _) mixed Tryd.func37 rfl (Nat.le_of_ble_eq_true rfl) (fun b hb=>d11_sim hb) ((i11_eq m a0 a1 a2 a3 a4).trans h)
theorem i17_fx (m:Nat) (hct:∀R,CallOK (R:=R) Tryd.prog (ct m)) (a0:Bool) (a1:Int) (a2 a3 a4:List Dt) {r:List Dt×List Dt} (h:i17 (m+1) a0 a1 a2 a3 a4=some r):FX Tryd.prog 37 [(.dat 4 (.bool a0)),(.dat 3 (.int a1)),(.dat 26 (.lst a2)),(.ptr 0 [] 0),(.ptr 2 [] 0)] [(.box 38 (.row 1)),(.row 38 a3),(.box 26 (.dat 26 (.lst a4)))] (.tup []) [(.box 38 (.row 3)),.gone,(.box 26 (.dat 26 (.lst r.1))),(.row 38 r.2)]:=
 FX_of (q:=((.tup []),[(.box 38 (.row 3)),.gone,(.box 26 (.dat 26 (.lst r.1))),(.row 38 r.2)])) (E:=env) (m:=m+1) (dec:=d17) jn_ok (hct _) mixed Tryd.func37 rfl (Nat.le_of_ble_eq_true rfl) (fun b hb=>d17_sim hb) ((i17_eq m a0 a1 a2 a3 a4).trans h)
theorem schema_length_fx (m:Nat) (hct:∀R,CallOK (R:=R) Tryd.prog (ct m)) (a0:Dt) {r:Int×Bool} (h:schema_length (m+1) a0=some r):FX Tryd.prog 44 [(.dat 25 a0)] [] (.tup [(.dat 3 (.int r.1)),(.dat 4 (.bool r.2))]) []:=
 FX_of (q:=((.tup [(.dat 3 (.int r.1)),(.dat 4 (.bool r.2))]),[])) (E:=env) (m:=m+1) (dec:=d19) jn_ok (hct _) mixed Tryd.func44 rfl (Nat.le_of_ble_eq_true rfl) (fun b hb=>d19_sim hb) ((schema_length_eq m a0).trans h)
theorem schema_field_fx (m:Nat) (hct:∀R,CallOK (R:=R) Tryd.prog (ct m)) (a0:Dt) (a1:ByteArray) {r:Dt×Bool} (h:schema_field (m+1) a0 a1=some r):FX Tryd.prog 45 [(.dat 25 a0),(.dat 9 (.str a1))] [] (.tup [(.dat 25 r.1),(.dat 4 (.bool r.2))]) []:=
 FX_of (q:=((.tup [(.dat 25 r.1),(.dat 4 (.bool r.2))]),[])) (E:=env) (m:=m+1) (dec:=d20) jn_ok (hct _) mixed Tryd.func45 rfl (Nat.le_of_ble_eq_true rfl) (fun b hb=>d20_sim hb) ((schema_field_eq m a0 a1).trans h)
theorem i23_fx (m:Nat) (hct:∀R,CallOK (R:=R) Tryd.prog (ct m)) (a0 a1:Dt) {r:Bool} (h:i23 (m+1) a0 a1=some r):FX Tryd.prog 46 [(.dat 51 a0),(.rptr 56 a1)] [] (.dat 4 (.bool r)) []:=
 FX_of (q:=((.dat 4 (.bool r)),[])) (E:=env) (m:=m+1) (dec:=d23) jn_ok (hct _) mixed Tryd.func46 rfl (Nat.le_of_ble_eq_true rfl) (fun b hb=>d23_sim hb) ((i23_eq m a0 a1).trans h)
theorem i22_fx (m:Nat) (hct:∀R,CallOK (R:=R) Tryd.prog (ct m)) (a0:List Dt) (a1:Dt) {r:Int} (h:i22 (m+1) a0 a1=some r):FX Tryd.prog 68 [(.dat 27 (.lst a0)),(.fn 46 [(.rptr 56 a1)])] [] (.dat 3 (.int r)) []:=
 FX_of (q:=((.dat 3 (.int r)),[])) (E:=env) (m:=m+1) (dec:=d22) jn_ok (hct _) mixed Tryd.func68 rfl (Nat.le_of_ble_eq_true rfl) (fun b hb=>d22_sim hb) ((i22_eq m a0 a1).trans h)
theorem i21_fx (m:Nat) (hct:∀R,CallOK (R:=R) Tryd.prog (ct m)) (a0:List Dt) (a1:Dt) {r:Bool} (h:i21 (m+1) a0 a1=some r):FX Tryd.prog 47 [(.dat 27 (.lst a0)),(.fn 46 [(.rptr 56 a1)])] [] (.dat 4 (.bool r)) []:=
 FX_of (q:=((.dat 4 (.bool r)),[])) (E:=env) (m:=m+1) (dec:=d21) jn_ok (hct _) mixed Tryd.func47 rfl (Nat.le_of_ble_eq_true rfl) (fun b hb=>d21_sim hb) ((i21_eq m a0 a1).trans h)
theorem law14_index_fx (m:Nat) (hct:∀R,CallOK (R:=R) Tryd.prog (ct m)) (a0:ByteArray) (a1:Int) {r:Int} (h:law14_index (m+1) a0 a1=some r):FX Tryd.prog 26 [(.dat 9 (.str a0)),(.dat 3 (.int a1))] [] (.dat 3 (.int r)) []:=
 FX_of (q:=((.dat 3 (.int r)),[])) (E:=env) (m:=m+1) (dec:=d27) jn_ok (hct _) mixed Tryd.func26 rfl (Nat.le_of_ble_eq_true rfl) (fun b hb=>d27_sim hb) ((law14_index_eq m a0 a1).trans h)
theorem ref02_count_fx (m:Nat) (hct:∀R,CallOK (R:=R) Tryd.prog (ct m)) (a0:Dt) (a1 a2:Int) {r:Int} (h:ref02_count (m+1) a0 a1 a2=some r):FX Tryd.prog 28 [(.dat 25 a0),(.dat 3 (.int a1)),(.dat 3 (.int a2))] [] (.dat 3 (.int r)) []:=
 FX_of (q:=((.dat 3 (.int r)),[])) (E:=env) (m:=m+1) (dec:=d34) jn_ok (hct _) mixed Tryd.func28 rfl (Nat.le_of_ble_eq_true rfl) (fun b hb=>d34_sim hb) ((ref02_count_eq m a0 a1 a2).trans h)
theorem ref02_Few_fx (m:Nat) (hct:∀R,CallOK (R:=R) Tryd.prog (ct m)) (a0:Dt) (a1:Int) {r:Bool} (h:ref02_Few (m+1) a0 a1=some r):FX Tryd.prog 15 [(.dat 25 a0),(.dat 3 (.int a1))] [] (.dat 4 (.bool r)) []:=
 FX_of (q:=((.dat 4 (.bool r)),[])) (E:=env) (m:=m+1) (dec:=d8) jn_ok (hct _) mixed Tryd.func15 rfl (Nat.le_of_ble_eq_true rfl) (fun b hb=>d8_sim hb) ((ref02_Few_eq m a0 a1).trans h)
theorem law14_few_fx (m:Nat) (hct:∀R,CallOK (R:=R) Tryd.prog (ct m)) (a0 a1:Dt) {r:Bool} (h:law14_few (m+1) a0 a1=some r):FX Tryd.prog 11 [(.dat 30 a0),(.dat 25 a1)] [] (.dat 4 (.bool r)) []:=
 FX_of (q:=((.dat 4 (.bool r)),[])) (E:=env) (m:=m+1) (dec:=d1) jn_ok (hct _) mixed Tryd.func11 rfl (Nat.le_of_ble_eq_true rfl) (fun b hb=>d1_sim hb) ((law14_few_eq m a0 a1).trans h)
theorem i44_fx (m:Nat) (hct:∀R,CallOK (R:=R) Tryd.prog (ct m)) (a0 a1 a2:Int) (a3:List Dt) {r:List Dt} (h:i44 (m+1) a0 a1 a2 a3=some r):FX Tryd.prog 106 [(.row 0),(.dat 3 (.int a0)),(.dat 3 (.int a1)),(.dat 3 (.int a2)),(.fn 43 [])] [(.row 22 a3)] (.tup []) [(.row 22 r)]:=
 FX_of (q:=((.tup []),[(.row 22 r)])) (E:=env) (m:=m+1) (dec:=d44) jn_ok (hct _) mixed Tryd.func106 rfl (Nat.le_of_ble_eq_true rfl) (fun b hb=>d44_sim hb) ((i44_eq m a0 a1 a2 a3).trans h)
theorem i43_fx (m:Nat) (hct:∀R,CallOK (R:=R) Tryd.prog (ct m)) (a0 a1 a2:Int) (a3:List Dt) {r:List Dt} (h:i43 (m+1) a0 a1 a2 a3=some r):FX Tryd.prog 100 [(.row 0),(.dat 3 (.int a0)),(.dat 3 (.int a1)),(.dat 3 (.int a2)),(.fn 43 [])] [(.row 22 a3)] (.tup []) [(.row 22 r)]:=
 FX_of (q:=((.tup []),[(.row 22 r)])) (E:=env) (m:=m+1) (dec:=d43) jn_ok (hct _) mixed Tryd.func100 rfl (Nat.le_of_ble_eq_true rfl) (fun b hb=>d43_sim hb) ((i43_eq m a0 a1 a2 a3).trans h)
theorem ref01_at_fx (m:Nat) (hct:∀R,CallOK (R:=R) Tryd.prog (ct m)) (a0:Dt) (a1:ByteArray) {r:Int} (h:ref01_at (m+1) a0 a1=some r):FX Tryd.prog 50 [(.dat 25 a0),(.dat 9 (.str a1))] [] (.dat 3 (.int r)) []:=
 FX_of (q:=((.dat 3 (.int r)),[])) (E:=env) (m:=m+1) (dec:=d45) jn_ok (hct _) mixed Tryd.func50 rfl (Nat.le_of_ble_eq_true rfl) (fun b hb=>d45_sim hb) ((ref01_at_eq m a0 a1).trans h)
theorem ref01_Get_fx (m:Nat) (hct:∀R,CallOK (R:=R) Tryd.prog (ct m)) (a0:Dt) (a1:ByteArray) {r:Dt×Bool} (h:ref01_Get (m+1) a0 a1=some r):FX Tryd.prog 27 [(.dat 25 a0),(.dat 9 (.str a1))] [] (.tup [(.dat 25 r.1),(.dat 4 (.bool r.2))]) []:=
 FX_of (q:=((.tup [(.dat 25 r.1),(.dat 4 (.bool r.2))]),[])) (E:=env) (m:=m+1) (dec:=d28) jn_ok (hct _) mixed Tryd.func27 rfl (Nat.le_of_ble_eq_true rfl) (fun b hb=>d28_sim hb) ((ref01_Get_eq m a0 a1).trans h)
theorem law14_walk_fx (m:Nat) (hct:∀R,CallOK (R:=R) Tryd.prog (ct m)) (a0:Dt) (a1:List Dt) {r:Bool} (h:law14_walk (m+1) a0 a1=some r):FX Tryd.prog 14 [(.dat 25 a0),(.dat 26 (.lst a1))] [] (.dat 4 (.bool r)) []:=
 FX_of (q:=((.dat 4 (.bool r)),[])) (E:=env) (m:=m+1) (dec:=d4) jn_ok (hct _) mixed Tryd.func14 rfl (Nat.le_of_ble_eq_true rfl) (fun b hb=>d4_sim hb) ((law14_walk_eq m a0 a1).trans h)
theorem schema_isName_fx (m:Nat) (hct:∀R,CallOK (R:=R) Tryd.prog (ct m)) (a0:ByteArray) {r:Bool} (h:schema_isName (m+1) a0=some r):FX Tryd.prog 56 [(.dat 9 (.str a0))] [] (.dat 4 (.bool r)) []:=
 FX_of (q:=((.dat 4 (.bool r)),[])) (E:=env) (m:=m+1) (dec:=d46) jn_ok (hct _) mixed Tryd.func56 rfl (Nat.le_of_ble_eq_true rfl) (fun b hb=>d46_sim hb) ((schema_isName_eq m a0).trans h)
theorem cmp_isNaN_fx (m:Nat) (hct:∀R,CallOK (R:=R) Tryd.prog (ct m)) (a0:Int) {r:Bool} (h:cmp_isNaN (m+1) a0=some r):FX Tryd.prog 81 [(.dat 3 (.int a0))] [] (.dat 4 (.bool r)) []:=
 FX_of (q:=((.dat 4 (.bool r)),[])) (E:=env) (m:=m+1) (dec:=d53) jn_ok (hct _) mixed Tryd.func81 rfl (Nat.le_of_ble_eq_true rfl) (fun b hb=>d53_sim hb) ((cmp_isNaN_eq m a0).trans h)
theorem cmp_Compare_fx (m:Nat) (hct:∀R,CallOK (R:=R) Tryd.prog (ct m)) (a0 a1:Int) {r:Int} (h:cmp_Compare (m+1) a0 a1=some r):FX Tryd.prog 66 [(.dat 3 (.int a0)),(.dat 3 (.int a1))] [] (.dat 3 (.int r)) []:=
 FX_of (q:=((.dat 3 (.int r)),[])) (E:=env) (m:=m+1) (dec:=d36) jn_ok (hct _) mixed Tryd.func66 rfl (Nat.le_of_ble_eq_true rfl) (fun b hb=>d36_sim hb) ((cmp_Compare_eq m a0 a1).trans h)
theorem value_Compare_fx (m:Nat) (hct:∀R,CallOK (R:=R) Tryd.prog (ct m)) (a0 a1:Dt) {r:Int} (h:value_Compare (m+1) a0 a1=some r):FX Tryd.prog 43 [(.dat 25 a0),(.dat 25 a1)] [] (.dat 3 (.int r)) []:=
 FX_of (q:=((.dat 3 (.int r)),[])) (E:=env) (m:=m+1) (dec:=d18) jn_ok (hct _) mixed Tryd.func43 rfl (Nat.le_of_ble_eq_true rfl) (fun b hb=>d18_sim hb) ((value_Compare_eq m a0 a1).trans h)
theorem value_Equal_fx (m:Nat) (hct:∀R,CallOK (R:=R) Tryd.prog (ct m)) (a0 a1:Dt) {r:Bool} (h:value_Equal (m+1) a0 a1=some r):FX Tryd.prog 40 [(.dat 25 a0),(.dat 25 a1)] [] (.dat 4 (.bool r)) []:=
 FX_of (q:=((.dat 4 (.bool r)),[])) (E:=env) (m:=m+1) (dec:=d16) jn_ok (hct _) mixed Tryd.func40 rfl (Nat.le_of_ble_eq_true rfl) (fun b hb=>d16_sim hb) ((value_Equal_eq m a0 a1).trans h)
theorem i15_fx (m:Nat) (hct:∀R,CallOK (R:=R) Tryd.prog (ct m)) (a0 a1:Dt) {r:Bool} (h:i15 (m+1) a0 a1=some r):FX Tryd.prog 39 [(.dat 25 a0),(.rptr 25 a1)] [] (.dat 4 (.bool r)) []:=
 FX_of (q:=((.dat 4 (.bool r)),[])) (E:=env) (m:=m+1) (dec:=d15) jn_ok (hct _) mixed Tryd.func39 rfl (Nat.le_of_ble_eq_true rfl) (fun b hb=>d15_sim hb) ((i15_eq m a0 a1).trans h)
theorem i14_fx (m:Nat) (hct:∀R,CallOK (R:=R) Tryd.prog (ct m)) (a0:List Dt) (a1:Dt) {r:Int} (h:i14 (m+1) a0 a1=some r):FX Tryd.prog 65 [(.dat 22 (.lst a0)),(.fn 39 [(.rptr 25 a1)])] [] (.dat 3 (.int r)) []:=
 FX_of (q:=((.dat 3 (.int r)),[])) (E:=env) (m:=m+1) (dec:=d14) jn_ok (hct _) mixed Tryd.func65 rfl (Nat.le_of_ble_eq_true rfl) (fun b hb=>d14_sim hb) ((i14_eq m a0 a1).trans h)
theorem i13_fx (m:Nat) (hct:∀R,CallOK (R:=R) Tryd.prog (ct m)) (a0:List Dt) (a1:Dt) {r:Bool} (h:i13 (m+1) a0 a1=some r):FX Tryd.prog 42 [(.dat 22 (.lst a0)),(.fn 39 [(.rptr 25 a1)])] [] (.dat 4 (.bool r)) []:=
 FX_of (q:=((.dat 4 (.bool r)),[])) (E:=env) (m:=m+1) (dec:=d13) jn_ok (hct _) mixed Tryd.func42 rfl (Nat.le_of_ble_eq_true rfl) (fun b hb=>d13_sim hb) ((i13_eq m a0 a1).trans h)
theorem i41_fx (m:Nat) (hct:∀R,CallOK (R:=R) Tryd.prog (ct m)) (a0 a1:Int) (a2:List Dt) {r:List Dt} (h:i41 (m+1) a0 a1 a2=some r):FX Tryd.prog 92 [(.row 0),(.dat 3 (.int a0)),(.dat 3 (.int a1)),(.fn 43 [])] [(.row 22 a2)] (.tup []) [(.row 22 r)]:=
 FX_of (q:=((.tup []),[(.row 22 r)])) (E:=env) (m:=m+1) (dec:=d41) jn_ok (hct _) mixed Tryd.func92 rfl (Nat.le_of_ble_eq_true rfl) (fun b hb=>d41_sim hb) ((i41_eq m a0 a1 a2).trans h)
theorem i42_fx (m:Nat) (hct:∀R,CallOK (R:=R) Tryd.prog (ct m)) (a0 a1 a2:Int) (a3:List Dt) {r:List Dt} (h:i42 (m+1) a0 a1 a2 a3=some r):FX Tryd.prog 93 [(.row 0),(.dat 3 (.int a0)),(.dat 3 (.int a1)),(.dat 3 (.int a2)),(.fn 43 [])] [(.row 22 a3)] (.tup []) [(.row 22 r)]:=
 FX_of (q:=((.tup []),[(.row 22 r)])) (E:=env) (m:=m+1) (dec:=d42) jn_ok (hct _) mixed Tryd.func93 rfl (Nat.le_of_ble_eq_true rfl) (fun b hb=>d42_sim hb) ((i42_eq m a0 a1 a2 a3).trans h)
theorem i40_fx (m:Nat) (hct:∀R,CallOK (R:=R) Tryd.prog (ct m)) (a0:Int) (a1:List Dt) {r:List Dt} (h:i40 (m+1) a0 a1=some r):FX Tryd.prog 83 [(.row 0),(.dat 3 (.int a0)),(.fn 43 [])] [(.row 22 a1)] (.tup []) [(.row 22 r)]:=
 FX_of (q:=((.tup []),[(.row 22 r)])) (E:=env) (m:=m+1) (dec:=d40) jn_ok (hct _) mixed Tryd.func83 rfl (Nat.le_of_ble_eq_true rfl) (fun b hb=>d40_sim hb) ((i40_eq m a0 a1).trans h)
theorem i39_fx (m:Nat) (hct:∀R,CallOK (R:=R) Tryd.prog (ct m)) (a0:List Dt) {r:List Dt} (h:i39 (m+1) a0=some r):FX Tryd.prog 70 [(.row 0),(.fn 43 [])] [(.row 22 a0)] (.tup []) [(.row 22 r)]:=
 FX_of (q:=((.tup []),[(.row 22 r)])) (E:=env) (m:=m+1) (dec:=d39) jn_ok (hct _) mixed Tryd.func70 rfl (Nat.le_of_ble_eq_true rfl) (fun b hb=>d39_sim hb) ((i39_eq m a0).trans h)
theorem schema_repeats_fx (m:Nat) (hct:∀R,CallOK (R:=R) Tryd.prog (ct m)) (a0:List Dt) {r:Bool} (h:schema_repeats (m+1) a0=some r):FX Tryd.prog 48 [(.dat 22 (.lst a0))] [] (.dat 4 (.bool r)) []:=
 FX_of (q:=((.dat 4 (.bool r)),[])) (E:=env) (m:=m+1) (dec:=d25) jn_ok (hct _) mixed Tryd.func48 rfl (Nat.le_of_ble_eq_true rfl) (fun b hb=>d25_sim hb) ((schema_repeats_eq m a0).trans h)
theorem i24_fx (m:Nat) (hct:∀R,CallOK (R:=R) Tryd.prog (ct m)) (a0 a1:Dt) (a2 a3:List Dt) {r:List Dt} (h:i24 (m+1) a0 a1 a2 a3=some r):FX Tryd.prog 25 [(.row 0),(.dat 30 a0),(.dat 25 a1),(.dat 26 (.lst a2))] [(.row 38 a3)] (.row 1) [.gone,(.row 38 r)]:=
 FX_of (q:=((.row 1),[.gone,(.row 38 r)])) (E:=env) (m:=m+1) (dec:=d24) jn_ok (hct _) mixed Tryd.func25 rfl (Nat.le_of_ble_eq_true rfl) (fun b hb=>d24_sim hb) ((i24_eq m a0 a1 a2 a3).trans h)
theorem i9_fx (m:Nat) (hct:∀R,CallOK (R:=R) Tryd.prog (ct m)) (a0 a1:Dt) (a2 a3:List Dt) {r:List Dt×List Dt} (h:i9 (m+1) a0 a1 a2 a3=some r):FX Tryd.prog 25 [(.row 0),(.dat 30 a0),(.dat 25 a1),(.row 1)] [(.row 38 a2),(.row 26 a3)] (.row 2) [.gone,(.frz 26 r.1),(.row 38 r.2)]:=
 FX_of (q:=((.row 2),[.gone,(.frz 26 r.1),(.row 38 r.2)])) (E:=env) (m:=m+1) (dec:=d9) jn_ok (hct _) mixed Tryd.func25 rfl (Nat.le_of_ble_eq_true rfl) (fun b hb=>d9_sim hb) ((i9_eq m a0 a1 a2 a3).trans h)
theorem ref01_Parts_fx (m:Nat) (hct:∀R,CallOK (R:=R) Tryd.prog (ct m)) (a0:Dt) {r:List Dt} (h:ref01_Parts (m+1) a0=some r):FX Tryd.prog 60 [(.dat 25 a0)] [] (.dat 22 (.lst r)) []:=
 FX_of (q:=((.dat 22 (.lst r)),[])) (E:=env) (m:=m+1) (dec:=d57) jn_ok (hct _) mixed Tryd.func60 rfl (Nat.le_of_ble_eq_true rfl) (fun b hb=>d57_sim hb) ((ref01_Parts_eq m a0).trans h)
theorem ref01_levels_fx (m:Nat) (hct:∀R,CallOK (R:=R) Tryd.prog (ct m)) (a0:Dt) (a1:Int) {r:Int} (h:ref01_levels (m+1) a0 a1=some r):FX Tryd.prog 33 [(.dat 25 a0),(.dat 3 (.int a1))] [] (.dat 3 (.int r)) []:=
 FX_of (q:=((.dat 3 (.int r)),[])) (E:=env) (m:=m+1) (dec:=d49) jn_ok (hct _) mixed Tryd.func33 rfl (Nat.le_of_ble_eq_true rfl) (fun b hb=>d49_sim hb) ((ref01_levels_eq m a0 a1).trans h)
theorem ref01_Depth_fx (m:Nat) (hct:∀R,CallOK (R:=R) Tryd.prog (ct m)) (a0:Dt) {r:Int} (h:ref01_Depth (m+1) a0=some r):FX Tryd.prog 22 [(.dat 25 a0)] [] (.dat 3 (.int r)) []:=
 FX_of (q:=((.dat 3 (.int r)),[])) (E:=env) (m:=m+1) (dec:=d31) jn_ok (hct _) mixed Tryd.func22 rfl (Nat.le_of_ble_eq_true rfl) (fun b hb=>d31_sim hb) ((ref01_Depth_eq m a0).trans h)
theorem ref01_count_fx (m:Nat) (hct:∀R,CallOK (R:=R) Tryd.prog (ct m)) (a0:Dt) (a1:Int) {r:Int} (h:ref01_count (m+1) a0 a1=some r):FX Tryd.prog 34 [(.dat 25 a0),(.dat 3 (.int a1))] [] (.dat 3 (.int r)) []:=
 FX_of (q:=((.dat 3 (.int r)),[])) (E:=env) (m:=m+1) (dec:=d50) jn_ok (hct _) mixed Tryd.func34 rfl (Nat.le_of_ble_eq_true rfl) (fun b hb=>d50_sim hb) ((ref01_count_eq m a0 a1).trans h)
theorem ref01_Nodes_fx (m:Nat) (hct:∀R,CallOK (R:=R) Tryd.prog (ct m)) (a0:Dt) {r:Int} (h:ref01_Nodes (m+1) a0=some r):FX Tryd.prog 23 [(.dat 25 a0)] [] (.dat 3 (.int r)) []:=
 FX_of (q:=((.dat 3 (.int r)),[])) (E:=env) (m:=m+1) (dec:=d32) jn_ok (hct _) mixed Tryd.func23 rfl (Nat.le_of_ble_eq_true rfl) (fun b hb=>d32_sim hb) ((ref01_Nodes_eq m a0).trans h)
theorem ref01_tail_fx (m:Nat) (hct:∀R,CallOK (R:=R) Tryd.prog (ct m)) (a0:ByteArray) (a1 a2:Int) {r:Bool} (h:ref01_tail (m+1) a0 a1 a2=some r):FX Tryd.prog 61 [(.dat 9 (.str a0)),(.dat 3 (.int a1)),(.dat 3 (.int a2))] [] (.dat 4 (.bool r)) []:=
 FX_of (q:=((.dat 4 (.bool r)),[])) (E:=env) (m:=m+1) (dec:=d58) jn_ok (hct _) mixed Tryd.func61 rfl (Nat.le_of_ble_eq_true rfl) (fun b hb=>d58_sim hb) ((ref01_tail_eq m a0 a1 a2).trans h)
theorem ref01_UTF8_fx (m:Nat) (hct:∀R,CallOK (R:=R) Tryd.prog (ct m)) (a0:ByteArray) {r:Bool} (h:ref01_UTF8 (m+1) a0=some r):FX Tryd.prog 35 [(.dat 9 (.str a0))] [] (.dat 4 (.bool r)) []:=
 FX_of (q:=((.dat 4 (.bool r)),[])) (E:=env) (m:=m+1) (dec:=d51) jn_ok (hct _) mixed Tryd.func35 rfl (Nat.le_of_ble_eq_true rfl) (fun b hb=>d51_sim hb) ((ref01_UTF8_eq m a0).trans h)
theorem ref01_Name_fx (m:Nat) (hct:∀R,CallOK (R:=R) Tryd.prog (ct m)) (a0:ByteArray) {r:Bool} (h:ref01_Name (m+1) a0=some r):FX Tryd.prog 62 [(.dat 9 (.str a0))] [] (.dat 4 (.bool r)) []:=
 FX_of (q:=((.dat 4 (.bool r)),[])) (E:=env) (m:=m+1) (dec:=d59) jn_ok (hct _) mixed Tryd.func62 rfl (Nat.le_of_ble_eq_true rfl) (fun b hb=>d59_sim hb) ((ref01_Name_eq m a0).trans h)
theorem ref01_wide_fx (m:Nat) (hct:∀R,CallOK (R:=R) Tryd.prog (ct m)) (a0:ByteArray) {r:Bool} (h:ref01_wide (m+1) a0=some r):FX Tryd.prog 63 [(.dat 9 (.str a0))] [] (.dat 4 (.bool r)) []:=
 FX_of (q:=((.dat 4 (.bool r)),[])) (E:=env) (m:=m+1) (dec:=d60) jn_ok (hct _) mixed Tryd.func63 rfl (Nat.le_of_ble_eq_true rfl) (fun b hb=>d60_sim hb) ((ref01_wide_eq m a0).trans h)
theorem ref01_formed_fx (m:Nat) (hct:∀R,CallOK (R:=R) Tryd.prog (ct m)) (a0:Dt) (a1:Bool) {r:Bool} (h:ref01_formed (m+1) a0 a1=some r):FX Tryd.prog 24 [(.dat 25 a0),(.dat 4 (.bool a1))] [] (.dat 4 (.bool r)) []:=
 FX_of (q:=((.dat 4 (.bool r)),[])) (E:=env) (m:=m+1) (dec:=d33) jn_ok (hct _) mixed Tryd.func24 rfl (Nat.le_of_ble_eq_true rfl) (fun b hb=>d33_sim hb) ((ref01_formed_eq m a0 a1).trans h)
theorem ref01_fields_fx (m:Nat) (hct:∀R,CallOK (R:=R) Tryd.prog (ct m)) (a0:Dt) (a1:Bool) {r:Bool} (h:ref01_fields (m+1) a0 a1=some r):FX Tryd.prog 36 [(.dat 25 a0),(.dat 4 (.bool a1))] [] (.dat 4 (.bool r)) []:=
 FX_of (q:=((.dat 4 (.bool r)),[])) (E:=env) (m:=m+1) (dec:=d52) jn_ok (hct _) mixed Tryd.func36 rfl (Nat.le_of_ble_eq_true rfl) (fun b hb=>d52_sim hb) ((ref01_fields_eq m a0 a1).trans h)
theorem ref01_Valid_fx (m:Nat) (hct:∀R,CallOK (R:=R) Tryd.prog (ct m)) (a0:Dt) {r:Bool} (h:ref01_Valid (m+1) a0=some r):FX Tryd.prog 12 [(.dat 25 a0)] [] (.dat 4 (.bool r)) []:=
 FX_of (q:=((.dat 4 (.bool r)),[])) (E:=env) (m:=m+1) (dec:=d6) jn_ok (hct _) mixed Tryd.func12 rfl (Nat.le_of_ble_eq_true rfl) (fun b hb=>d6_sim hb) ((ref01_Valid_eq m a0).trans h)
theorem value_nodes_fx (m:Nat) (hct:∀R,CallOK (R:=R) Tryd.prog (ct m)) (a0:Dt) (a1:Int) {r:Int} (h:value_nodes (m+1) a0 a1=some r):FX Tryd.prog 72 [(.dat 25 a0),(.dat 3 (.int a1))] [] (.dat 3 (.int r)) []:=
 FX_of (q:=((.dat 3 (.int r)),[])) (E:=env) (m:=m+1) (dec:=d61) jn_ok (hct _) mixed Tryd.func72 rfl (Nat.le_of_ble_eq_true rfl) (fun b hb=>d61_sim hb) ((value_nodes_eq m a0 a1).trans h)
theorem i65_fx (m:Nat) (hct:∀R,CallOK (R:=R) Tryd.prog (ct m)) (a0:Dt) (a1 a2:Int) {r:Int×Int} (h:i65 (m+1) a0 a1 a2=some r):FX Tryd.prog 85 [(.dat 25 a0),(.fn 86 [(.ptr 0 [] 0),(.ptr 1 [] 0)])] [(.box 3 (.dat 3 (.int a1))),(.box 3 (.dat 3 (.int a2)))] (.tup []) [(.box 3 (.dat 3 (.int r.1))),(.box 3 (.dat 3 (.int r.2)))]:=
 FX_of (q:=((.tup []),[(.box 3 (.dat 3 (.int r.1))),(.box 3 (.dat 3 (.int r.2)))])) (E:=env) (m:=m+1) (dec:=d65) jn_ok (hct _) mixed Tryd.func85 rfl (Nat.le_of_ble_eq_true rfl) (fun b hb=>d65_sim hb) ((i65_eq m a0 a1 a2).trans h)
theorem i66_fx (m:Nat) (hct:∀R,CallOK (R:=R) Tryd.prog (ct m)) (a0:Dt) (a1 a2:Int) {r:Bool×Int×Int} (h:i66 (m+1) a0 a1 a2=some r):FX Tryd.prog 86 [(.dat 25 a0),(.ptr 0 [] 0),(.ptr 1 [] 0)] [(.box 3 (.dat 3 (.int a1))),(.box 3 (.dat 3 (.int a2)))] (.dat 4 (.bool r.1)) [(.box 3 (.dat 3 (.int r.2.1))),(.box 3 (.dat 3 (.int r.2.2)))]:=
 FX_of (q:=((.dat 4 (.bool r.1)),[(.box 3 (.dat 3 (.int r.2.1))),(.box 3 (.dat 3 (.int r.2.2)))])) (E:=env) (m:=m+1) (dec:=d66) jn_ok (hct _) mixed Tryd.func86 rfl (Nat.le_of_ble_eq_true rfl) (fun b hb=>d66_sim hb) ((i66_eq m a0 a1 a2).trans h)
theorem value_Nodes_fx (m:Nat) (hct:∀R,CallOK (R:=R) Tryd.prog (ct m)) (a0:Dt) {r:Int} (h:value_Nodes (m+1) a0=some r):FX Tryd.prog 51 [(.dat 25 a0)] [] (.dat 3 (.int r)) []:=
 FX_of (q:=((.dat 3 (.int r)),[])) (E:=env) (m:=m+1) (dec:=d54) jn_ok (hct _) mixed Tryd.func51 rfl (Nat.le_of_ble_eq_true rfl) (fun b hb=>d54_sim hb) ((value_Nodes_eq m a0).trans h)
theorem value_depth_fx (m:Nat) (hct:∀R,CallOK (R:=R) Tryd.prog (ct m)) (a0:Dt) (a1:Int) {r:Int} (h:value_depth (m+1) a0 a1=some r):FX Tryd.prog 73 [(.dat 25 a0),(.dat 3 (.int a1))] [] (.dat 3 (.int r)) []:=
 FX_of (q:=((.dat 3 (.int r)),[])) (E:=env) (m:=m+1) (dec:=d62) jn_ok (hct _) mixed Tryd.func73 rfl (Nat.le_of_ble_eq_true rfl) (fun b hb=>d62_sim hb) ((value_depth_eq m a0 a1).trans h)
theorem i67_fx (m:Nat) (hct:∀R,CallOK (R:=R) Tryd.prog (ct m)) (a0:Dt) (a1 a2:Int) {r:Int×Int} (h:i67 (m+1) a0 a1 a2=some r):FX Tryd.prog 85 [(.dat 25 a0),(.fn 87 [(.ptr 0 [] 0),(.ptr 1 [] 0)])] [(.box 3 (.dat 3 (.int a1))),(.box 3 (.dat 3 (.int a2)))] (.tup []) [(.box 3 (.dat 3 (.int r.1))),(.box 3 (.dat 3 (.int r.2)))]:=
 FX_of (q:=((.tup []),[(.box 3 (.dat 3 (.int r.1))),(.box 3 (.dat 3 (.int r.2)))])) (E:=env) (m:=m+1) (dec:=d67) jn_ok (hct _) mixed Tryd.func85 rfl (Nat.le_of_ble_eq_true rfl) (fun b hb=>d67_sim hb) ((i67_eq m a0 a1 a2).trans h)
theorem i68_fx (m:Nat) (hct:∀R,CallOK (R:=R) Tryd.prog (ct m)) (a0:Dt) (a1 a2:Int) {r:Bool×Int×Int} (h:i68 (m+1) a0 a1 a2=some r):FX Tryd.prog 87 [(.dat 25 a0),(.ptr 0 [] 0),(.ptr 1 [] 0)] [(.box 3 (.dat 3 (.int a1))),(.box 3 (.dat 3 (.int a2)))] (.dat 4 (.bool r.1)) [(.box 3 (.dat 3 (.int r.2.1))),(.box 3 (.dat 3 (.int r.2.2)))]:=
 FX_of (q:=((.dat 4 (.bool r.1)),[(.box 3 (.dat 3 (.int r.2.1))),(.box 3 (.dat 3 (.int r.2.2)))])) (E:=env) (m:=m+1) (dec:=d68) jn_ok (hct _) mixed Tryd.func87 rfl (Nat.le_of_ble_eq_true rfl) (fun b hb=>d68_sim hb) ((i68_eq m a0 a1 a2).trans h)
theorem value_Depth_fx (m:Nat) (hct:∀R,CallOK (R:=R) Tryd.prog (ct m)) (a0:Dt) {r:Int} (h:value_Depth (m+1) a0=some r):FX Tryd.prog 52 [(.dat 25 a0)] [] (.dat 3 (.int r)) []:=
 FX_of (q:=((.dat 3 (.int r)),[])) (E:=env) (m:=m+1) (dec:=d55) jn_ok (hct _) mixed Tryd.func52 rfl (Nat.le_of_ble_eq_true rfl) (fun b hb=>d55_sim hb) ((value_Depth_eq m a0).trans h)
theorem value_isName_fx (m:Nat) (hct:∀R,CallOK (R:=R) Tryd.prog (ct m)) (a0:ByteArray) {r:Bool} (h:value_isName (m+1) a0=some r):FX Tryd.prog 99 [(.dat 9 (.str a0))] [] (.dat 4 (.bool r)) []:=
 FX_of (q:=((.dat 4 (.bool r)),[])) (E:=env) (m:=m+1) (dec:=d69) jn_ok (hct _) mixed Tryd.func99 rfl (Nat.le_of_ble_eq_true rfl) (fun b hb=>d69_sim hb) ((value_isName_eq m a0).trans h)
theorem value_sound_fx (m:Nat) (hct:∀R,CallOK (R:=R) Tryd.prog (ct m)) (a0:Dt) {r:Bool} (h:value_sound (m+1) a0=some r):FX Tryd.prog 75 [(.dat 25 a0)] [] (.dat 4 (.bool r)) []:=
 FX_of (q:=((.dat 4 (.bool r)),[])) (E:=env) (m:=m+1) (dec:=d56) jn_ok (hct _) mixed Tryd.func75 rfl (Nat.le_of_ble_eq_true rfl) (fun b hb=>d56_sim hb) ((value_sound_eq m a0).trans h)
theorem value_soundFields_fx (m:Nat) (hct:∀R,CallOK (R:=R) Tryd.prog (ct m)) (a0:List Dt) {r:Bool} (h:value_soundFields (m+1) a0=some r):FX Tryd.prog 89 [(.dat 23 (.lst a0))] [] (.dat 4 (.bool r)) []:=
 FX_of (q:=((.dat 4 (.bool r)),[])) (E:=env) (m:=m+1) (dec:=d64) jn_ok (hct _) mixed Tryd.func89 rfl (Nat.le_of_ble_eq_true rfl) (fun b hb=>d64_sim hb) ((value_soundFields_eq m a0).trans h)
theorem value_Valid_fx (m:Nat) (hct:∀R,CallOK (R:=R) Tryd.prog (ct m)) (a0:Dt) {r:Bool} (h:value_Valid (m+1) a0=some r):FX Tryd.prog 54 [(.dat 25 a0)] [] (.dat 4 (.bool r)) []:=
 FX_of (q:=((.dat 4 (.bool r)),[])) (E:=env) (m:=m+1) (dec:=d48) jn_ok (hct _) mixed Tryd.func54 rfl (Nat.le_of_ble_eq_true rfl) (fun b hb=>d48_sim hb) ((value_Valid_eq m a0).trans h)
theorem schema_bound_fx (m:Nat) (hct:∀R,CallOK (R:=R) Tryd.prog (ct m)) (a0:Bool) (a1:Dt) {r:Bool} (h:schema_bound (m+1) a0 a1=some r):FX Tryd.prog 57 [(.dat 4 (.bool a0)),(.dat 25 a1)] [] (.dat 4 (.bool r)) []:=
 FX_of (q:=((.dat 4 (.bool r)),[])) (E:=env) (m:=m+1) (dec:=d47) jn_ok (hct _) mixed Tryd.func57 rfl (Nat.le_of_ble_eq_true rfl) (fun b hb=>d47_sim hb) ((schema_bound_eq m a0 a1).trans h)
theorem schema_checkOne_fx (m:Nat) (hct:∀R,CallOK (R:=R) Tryd.prog (ct m)) (a0:Dt) {r:Int} (h:schema_checkOne (m+1) a0=some r):FX Tryd.prog 31 [(.dat 30 a0)] [] (.dat 33 (.int r)) []:=
 FX_of (q:=((.dat 33 (.int r)),[])) (E:=env) (m:=m+1) (dec:=d30) jn_ok (hct _) mixed Tryd.func31 rfl (Nat.le_of_ble_eq_true rfl) (fun b hb=>d30_sim hb) ((schema_checkOne_eq m a0).trans h)
theorem i29_fx (m:Nat) (hct:∀R,CallOK (R:=R) Tryd.prog (ct m)) (a0:Dt) (a1 a2:Int) {r:Int×Int} (h:i29 (m+1) a0 a1 a2=some r):FX Tryd.prog 20 [(.dat 30 a0),(.dat 3 (.int a1)),(.ptr 0 [] 0)] [(.box 3 (.dat 3 (.int a2)))] (.dat 33 (.int r.1)) [(.box 3 (.dat 3 (.int r.2)))]:=
 FX_of (q:=((.dat 33 (.int r.1)),[(.box 3 (.dat 3 (.int r.2)))])) (E:=env) (m:=m+1) (dec:=d29) jn_ok (hct _) mixed Tryd.func20 rfl (Nat.le_of_ble_eq_true rfl) (fun b hb=>d29_sim hb) ((i29_eq m a0 a1 a2).trans h)
theorem schema_Valid_fx (m:Nat) (hct:∀R,CallOK (R:=R) Tryd.prog (ct m)) (a0:Dt) {r:Int} (h:schema_Valid (m+1) a0=some r):FX Tryd.prog 9 [(.dat 30 a0)] [] (.dat 33 (.int r)) []:=
 FX_of (q:=((.dat 33 (.int r)),[])) (E:=env) (m:=m+1) (dec:=d5) jn_ok (hct _) mixed Tryd.func9 rfl (Nat.le_of_ble_eq_true rfl) (fun b hb=>d5_sim hb) ((schema_Valid_eq m a0).trans h)
theorem schema_Check_fx (m:Nat) (hct:∀R,CallOK (R:=R) Tryd.prog (ct m)) (a0 a1:Dt) {r:List Dt} (h:schema_Check (m+1) a0 a1=some r):FX Tryd.prog 13 [(.dat 30 a0),(.dat 25 a1)] [] (.dat 38 (.lst r)) []:=
 FX_of (q:=((.dat 38 (.lst r)),[])) (E:=env) (m:=m+1) (dec:=d3) jn_ok (hct _) mixed Tryd.func13 rfl (Nat.le_of_ble_eq_true rfl) (fun b hb=>d3_sim hb) ((schema_Check_eq m a0 a1).trans h)
theorem law14_SchemaPaths_fx (m:Nat) (hct:∀R,CallOK (R:=R) Tryd.prog (ct m)) (a0 a1:Dt) {r:Bool} (h:law14_SchemaPaths (m+1) a0 a1=some r):FX Tryd.prog 4 [(.dat 30 a0),(.dat 25 a1)] [] (.dat 4 (.bool r)) []:=
 FX_of (q:=((.dat 4 (.bool r)),[])) (E:=env) (m:=m+1) (dec:=d0) jn_ok (hct _) mixed Tryd.func4 rfl (Nat.le_of_ble_eq_true rfl) (fun b hb=>d0_sim hb) ((law14_SchemaPaths_eq m a0 a1).trans h)
theorem ct4_ok (m:Nat) (hct:∀k,k<m→∀R,CallOK (R:=R) Tryd.prog (ct k)) {R:Type} {args:List AV} {objs:List Ob} {K:Res→Option R} {r:R} (h:ct4 m args objs K=some r):∃q:Res,K q=some r∧FX Tryd.prog 4 args objs q.1 q.2∧HasBody Tryd.prog 4:=by
 unfold ct4 at h
 split at h
 ·rename_i l hl
  obtain⟨x,hx,hk⟩:=Option.bind_eq_some_iff.1 h
  obtain⟨h1,h2⟩:=sel0_ok hl
  cases m with
  |zero=>cases hx
  |succ m=>exact⟨_,hk,(law14_SchemaPaths_fx m (hct m (Nat.lt_succ_self m)) _ _ hx).conv h1 h2,⟨_,Tryd.func4,rfl,by decide⟩⟩
 cases h
theorem ct11_ok (m:Nat) (hct:∀k,k<m→∀R,CallOK (R:=R) Tryd.prog (ct k)) {R:Type} {args:List AV} {objs:List Ob} {K:Res→Option R} {r:R} (h:ct11 m args objs K=some r):∃q:Res,K q=some r∧FX Tryd.prog 11 args objs q.1 q.2∧HasBody Tryd.prog 11:=by
 unfold ct11 at h
 split at h
 ·rename_i l hl
  obtain⟨x,hx,hk⟩:=Option.bind_eq_some_iff.1 h
  obtain⟨h1,h2⟩:=sel1_ok hl
  cases m with
  |zero=>cases hx
  |succ m=>exact⟨_,hk,(law14_few_fx m (hct m (Nat.lt_succ_self m)) _ _ hx).conv h1 h2,⟨_,Tryd.func11,rfl,by decide⟩⟩
 cases h
theorem ct8_ok (m:Nat) (hct:∀k,k<m→∀R,CallOK (R:=R) Tryd.prog (ct k)) {R:Type} {args:List AV} {objs:List Ob} {K:Res→Option R} {r:R} (h:ct8 m args objs K=some r):∃q:Res,K q=some r∧FX Tryd.prog 8 args objs q.1 q.2∧HasBody Tryd.prog 8:=by
 unfold ct8 at h
 split at h
 ·rename_i l hl
  obtain⟨x,hx,hk⟩:=Option.bind_eq_some_iff.1 h
  obtain⟨h1,h2⟩:=sel2_ok hl
  exact⟨_,hk,(awakeC_fx hx).conv h1 h2,⟨_,Tryd.func8,rfl,by decide⟩⟩
 cases h
theorem ct13_ok (m:Nat) (hct:∀k,k<m→∀R,CallOK (R:=R) Tryd.prog (ct k)) {R:Type} {args:List AV} {objs:List Ob} {K:Res→Option R} {r:R} (h:ct13 m args objs K=some r):∃q:Res,K q=some r∧FX Tryd.prog 13 args objs q.1 q.2∧HasBody Tryd.prog 13:=by
 unfold ct13 at h
 split at h
 ·rename_i l hl
  obtain⟨x,hx,hk⟩:=Option.bind_eq_some_iff.1 h
  obtain⟨h1,h2⟩:=sel3_ok hl
  cases m with
  |zero=>cases hx
  |succ m=>exact⟨_,hk,(schema_Check_fx m (hct m (Nat.lt_succ_self m)) _ _ hx).conv h1 h2,⟨_,Tryd.func13,rfl,by decide⟩⟩
 cases h
theorem ct14_ok (m:Nat) (hct:∀k,k<m→∀R,CallOK (R:=R) Tryd.prog (ct k)) {R:Type} {args:List AV} {objs:List Ob} {K:Res→Option R} {r:R} (h:ct14 m args objs K=some r):∃q:Res,K q=some r∧FX Tryd.prog 14 args objs q.1 q.2∧HasBody Tryd.prog 14:=by
 unfold ct14 at h
 split at h
 ·rename_i l hl
  obtain⟨x,hx,hk⟩:=Option.bind_eq_some_iff.1 h
  obtain⟨h1,h2⟩:=sel4_ok hl
  cases m with
  |zero=>cases hx
  |succ m=>exact⟨_,hk,(law14_walk_fx m (hct m (Nat.lt_succ_self m)) _ _ hx).conv h1 h2,⟨_,Tryd.func14,rfl,by decide⟩⟩
 cases h
theorem ct9_ok (m:Nat) (hct:∀k,k<m→∀R,CallOK (R:=R) Tryd.prog (ct k)) {R:Type} {args:List AV} {objs:List Ob} {K:Res→Option R} {r:R} (h:ct9 m args objs K=some r):∃q:Res,K q=some r∧FX Tryd.prog 9 args objs q.1 q.2∧HasBody Tryd.prog 9:=by
 unfold ct9 at h
 split at h
 ·rename_i l hl
  obtain⟨x,hx,hk⟩:=Option.bind_eq_some_iff.1 h
  obtain⟨h1,h2⟩:=sel5_ok hl
  cases m with
  |zero=>cases hx
  |succ m=>exact⟨_,hk,(schema_Valid_fx m (hct m (Nat.lt_succ_self m)) _ hx).conv h1 h2,⟨_,Tryd.func9,rfl,by decide⟩⟩
 cases h
theorem ct12_ok (m:Nat) (hct:∀k,k<m→∀R,CallOK (R:=R) Tryd.prog (ct k)) {R:Type} {args:List AV} {objs:List Ob} {K:Res→Option R} {r:R} (h:ct12 m args objs K=some r):∃q:Res,K q=some r∧FX Tryd.prog 12 args objs q.1 q.2∧HasBody Tryd.prog 12:=by
 unfold ct12 at h
 split at h
 ·rename_i l hl
  obtain⟨x,hx,hk⟩:=Option.bind_eq_some_iff.1 h
  obtain⟨h1,h2⟩:=sel6_ok hl
  cases m with
  |zero=>cases hx
  |succ m=>exact⟨_,hk,(ref01_Valid_fx m (hct m (Nat.lt_succ_self m)) _ hx).conv h1 h2,⟨_,Tryd.func12,rfl,by decide⟩⟩
 cases h
theorem ct7_ok (m:Nat) (hct:∀k,k<m→∀R,CallOK (R:=R) Tryd.prog (ct k)) {R:Type} {args:List AV} {objs:List Ob} {K:Res→Option R} {r:R} (h:ct7 m args objs K=some r):∃q:Res,K q=some r∧FX Tryd.prog 7 args objs q.1 q.2∧HasBody Tryd.prog 7:=by
 unfold ct7 at h
 split at h
 ·rename_i l hl
  obtain⟨x,hx,hk⟩:=Option.bind_eq_some_iff.1 h
  obtain⟨h1,h2⟩:=sel7_ok hl
  cases m with
  |zero=>cases hx
  |succ m=>exact⟨_,hk,(ref14_Count_fx m (hct m (Nat.lt_succ_self m)) _ _ hx).conv h1 h2,⟨_,Tryd.func7,rfl,by decide⟩⟩
 cases h
theorem ct15_ok (m:Nat) (hct:∀k,k<m→∀R,CallOK (R:=R) Tryd.prog (ct k)) {R:Type} {args:List AV} {objs:List Ob} {K:Res→Option R} {r:R} (h:ct15 m args objs K=some r):∃q:Res,K q=some r∧FX Tryd.prog 15 args objs q.1 q.2∧HasBody Tryd.prog 15:=by
 unfold ct15 at h
 split at h
 ·rename_i l hl
  obtain⟨x,hx,hk⟩:=Option.bind_eq_some_iff.1 h
  obtain⟨h1,h2⟩:=sel8_ok hl
  cases m with
  |zero=>cases hx
  |succ m=>exact⟨_,hk,(ref02_Few_fx m (hct m (Nat.lt_succ_self m)) _ _ hx).conv h1 h2,⟨_,Tryd.func15,rfl,by decide⟩⟩
 cases h
theorem ct25_ok (m:Nat) (hct:∀k,k<m→∀R,CallOK (R:=R) Tryd.prog (ct k)) {R:Type} {args:List AV} {objs:List Ob} {K:Res→Option R} {r:R} (h:ct25 m args objs K=some r):∃q:Res,K q=some r∧FX Tryd.prog 25 args objs q.1 q.2∧HasBody Tryd.prog 25:=by
 unfold ct25 at h
 split at h
 ·rename_i l hl
  obtain⟨x,hx,hk⟩:=Option.bind_eq_some_iff.1 h
  obtain⟨h1,h2⟩:=sel9_ok hl
  cases m with
  |zero=>cases hx
  |succ m=>exact⟨_,hk,(i9_fx m (hct m (Nat.lt_succ_self m)) _ _ _ _ hx).conv h1 h2,⟨_,Tryd.func25,rfl,by decide⟩⟩
 split at h
 ·rename_i l hl
  obtain⟨x,hx,hk⟩:=Option.bind_eq_some_iff.1 h
  obtain⟨h1,h2⟩:=sel24_ok hl
  cases m with
  |zero=>cases hx
  |succ m=>exact⟨_,hk,(i24_fx m (hct m (Nat.lt_succ_self m)) _ _ _ _ hx).conv h1 h2,⟨_,Tryd.func25,rfl,by decide⟩⟩
 cases h
theorem ct41_ok (m:Nat) (hct:∀k,k<m→∀R,CallOK (R:=R) Tryd.prog (ct k)) {R:Type} {args:List AV} {objs:List Ob} {K:Res→Option R} {r:R} (h:ct41 m args objs K=some r):∃q:Res,K q=some r∧FX Tryd.prog 41 args objs q.1 q.2∧HasBody Tryd.prog 41:=by
 unfold ct41 at h
 split at h
 ·rename_i l hl
  obtain⟨x,hx,hk⟩:=Option.bind_eq_some_iff.1 h
  obtain⟨h1,h2⟩:=sel10_ok hl
  cases m with
  |zero=>cases hx
  |succ m=>exact⟨_,hk,(schema_hasKind_fx m (hct m (Nat.lt_succ_self m)) _ _ hx).conv h1 h2,⟨_,Tryd.func41,rfl,by decide⟩⟩
 cases h
theorem ct37_ok (m:Nat) (hct:∀k,k<m→∀R,CallOK (R:=R) Tryd.prog (ct k)) {R:Type} {args:List AV} {objs:List Ob} {K:Res→Option R} {r:R} (h:ct37 m args objs K=some r):∃q:Res,K q=some r∧FX Tryd.prog 37 args objs q.1 q.2∧HasBody Tryd.prog 37:=by
 unfold ct37 at h
 split at h
 ·rename_i l hl
  obtain⟨x,hx,hk⟩:=Option.bind_eq_some_iff.1 h
  obtain⟨h1,h2⟩:=sel11_ok hl
  cases m with
  |zero=>cases hx
  |succ m=>exact⟨_,hk,(i11_fx m (hct m (Nat.lt_succ_self m)) _ _ _ _ _ hx).conv h1 h2,⟨_,Tryd.func37,rfl,by decide⟩⟩
 split at h
 ·rename_i l hl
  obtain⟨x,hx,hk⟩:=Option.bind_eq_some_iff.1 h
  obtain⟨h1,h2⟩:=sel17_ok hl
  cases m with
  |zero=>cases hx
  |succ m=>exact⟨_,hk,(i17_fx m (hct m (Nat.lt_succ_self m)) _ _ _ _ _ hx).conv h1 h2,⟨_,Tryd.func37,rfl,by decide⟩⟩
 cases h
theorem ct38_ok (m:Nat) (hct:∀k,k<m→∀R,CallOK (R:=R) Tryd.prog (ct k)) {R:Type} {args:List AV} {objs:List Ob} {K:Res→Option R} {r:R} (h:ct38 m args objs K=some r):∃q:Res,K q=some r∧FX Tryd.prog 38 args objs q.1 q.2∧HasBody Tryd.prog 38:=by
 unfold ct38 at h
 split at h
 ·rename_i l hl
  obtain⟨x,hx,hk⟩:=Option.bind_eq_some_iff.1 h
  obtain⟨h1,h2⟩:=sel12_ok hl
  cases m with
  |zero=>cases hx
  |succ m=>exact⟨_,hk,(slices_Concat_fx m (hct m (Nat.lt_succ_self m)) _ hx).conv h1 h2,⟨_,Tryd.func38,rfl,by decide⟩⟩
 cases h
theorem ct42_ok (m:Nat) (hct:∀k,k<m→∀R,CallOK (R:=R) Tryd.prog (ct k)) {R:Type} {args:List AV} {objs:List Ob} {K:Res→Option R} {r:R} (h:ct42 m args objs K=some r):∃q:Res,K q=some r∧FX Tryd.prog 42 args objs q.1 q.2∧HasBody Tryd.prog 42:=by
 unfold ct42 at h
 split at h
 ·rename_i l hl
  obtain⟨x,hx,hk⟩:=Option.bind_eq_some_iff.1 h
  obtain⟨h1,h2⟩:=sel13_ok hl
  cases m with
  |zero=>cases hx
  |succ m=>exact⟨_,hk,(i13_fx m (hct m (Nat.lt_succ_self m)) _ _ hx).conv h1 h2,⟨_,Tryd.func42,rfl,by decide⟩⟩
 cases h
theorem ct65_ok (m:Nat) (hct:∀k,k<m→∀R,CallOK (R:=R) Tryd.prog (ct k)) {R:Type} {args:List AV} {objs:List Ob} {K:Res→Option R} {r:R} (h:ct65 m args objs K=some r):∃q:Res,K q=some r∧FX Tryd.prog 65 args objs q.1 q.2∧HasBody Tryd.prog 65:=by
 unfold ct65 at h
 split at h
 ·rename_i l hl
  obtain⟨x,hx,hk⟩:=Option.bind_eq_some_iff.1 h
  obtain⟨h1,h2⟩:=sel14_ok hl
  cases m with
  |zero=>cases hx
  |succ m=>exact⟨_,hk,(i14_fx m (hct m (Nat.lt_succ_self m)) _ _ hx).conv h1 h2,⟨_,Tryd.func65,rfl,by decide⟩⟩
 cases h
theorem ct39_ok (m:Nat) (hct:∀k,k<m→∀R,CallOK (R:=R) Tryd.prog (ct k)) {R:Type} {args:List AV} {objs:List Ob} {K:Res→Option R} {r:R} (h:ct39 m args objs K=some r):∃q:Res,K q=some r∧FX Tryd.prog 39 args objs q.1 q.2∧HasBody Tryd.prog 39:=by
 unfold ct39 at h
 split at h
 ·rename_i l hl
  obtain⟨x,hx,hk⟩:=Option.bind_eq_some_iff.1 h
  obtain⟨h1,h2⟩:=sel15_ok hl
  cases m with
  |zero=>cases hx
  |succ m=>exact⟨_,hk,(i15_fx m (hct m (Nat.lt_succ_self m)) _ _ hx).conv h1 h2,⟨_,Tryd.func39,rfl,by decide⟩⟩
 cases h
theorem ct40_ok (m:Nat) (hct:∀k,k<m→∀R,CallOK (R:=R) Tryd.prog (ct k)) {R:Type} {args:List AV} {objs:List Ob} {K:Res→Option R} {r:R} (h:ct40 m args objs K=some r):∃q:Res,K q=some r∧FX Tryd.prog 40 args objs q.1 q.2∧HasBody Tryd.prog 40:=by
 unfold ct40 at h
 split at h
 ·rename_i l hl
  obtain⟨x,hx,hk⟩:=Option.bind_eq_some_iff.1 h
  obtain⟨h1,h2⟩:=sel16_ok hl
  cases m with
  |zero=>cases hx
  |succ m=>exact⟨_,hk,(value_Equal_fx m (hct m (Nat.lt_succ_self m)) _ _ hx).conv h1 h2,⟨_,Tryd.func40,rfl,by decide⟩⟩
 cases h
theorem ct43_ok (m:Nat) (hct:∀k,k<m→∀R,CallOK (R:=R) Tryd.prog (ct k)) {R:Type} {args:List AV} {objs:List Ob} {K:Res→Option R} {r:R} (h:ct43 m args objs K=some r):∃q:Res,K q=some r∧FX Tryd.prog 43 args objs q.1 q.2∧HasBody Tryd.prog 43:=by
 unfold ct43 at h
 split at h
 ·rename_i l hl
  obtain⟨x,hx,hk⟩:=Option.bind_eq_some_iff.1 h
  obtain⟨h1,h2⟩:=sel18_ok hl
  cases m with
  |zero=>cases hx
  |succ m=>exact⟨_,hk,(value_Compare_fx m (hct m (Nat.lt_succ_self m)) _ _ hx).conv h1 h2,⟨_,Tryd.func43,rfl,by decide⟩⟩
 cases h
theorem ct44_ok (m:Nat) (hct:∀k,k<m→∀R,CallOK (R:=R) Tryd.prog (ct k)) {R:Type} {args:List AV} {objs:List Ob} {K:Res→Option R} {r:R} (h:ct44 m args objs K=some r):∃q:Res,K q=some r∧FX Tryd.prog 44 args objs q.1 q.2∧HasBody Tryd.prog 44:=by
 unfold ct44 at h
 split at h
 ·rename_i l hl
  obtain⟨x,hx,hk⟩:=Option.bind_eq_some_iff.1 h
  obtain⟨h1,h2⟩:=sel19_ok hl
  cases m with
  |zero=>cases hx
  |succ m=>exact⟨_,hk,(schema_length_fx m (hct m (Nat.lt_succ_self m)) _ hx).conv h1 h2,⟨_,Tryd.func44,rfl,by decide⟩⟩
 cases h
theorem ct45_ok (m:Nat) (hct:∀k,k<m→∀R,CallOK (R:=R) Tryd.prog (ct k)) {R:Type} {args:List AV} {objs:List Ob} {K:Res→Option R} {r:R} (h:ct45 m args objs K=some r):∃q:Res,K q=some r∧FX Tryd.prog 45 args objs q.1 q.2∧HasBody Tryd.prog 45:=by
 unfold ct45 at h
 split at h
 ·rename_i l hl
  obtain⟨x,hx,hk⟩:=Option.bind_eq_some_iff.1 h
  obtain⟨h1,h2⟩:=sel20_ok hl
  cases m with
  |zero=>cases hx
  |succ m=>exact⟨_,hk,(schema_field_fx m (hct m (Nat.lt_succ_self m)) _ _ hx).conv h1 h2,⟨_,Tryd.func45,rfl,by decide⟩⟩
 cases h
theorem ct47_ok (m:Nat) (hct:∀k,k<m→∀R,CallOK (R:=R) Tryd.prog (ct k)) {R:Type} {args:List AV} {objs:List Ob} {K:Res→Option R} {r:R} (h:ct47 m args objs K=some r):∃q:Res,K q=some r∧FX Tryd.prog 47 args objs q.1 q.2∧HasBody Tryd.prog 47:=by
 unfold ct47 at h
 split at h
 ·rename_i l hl
  obtain⟨x,hx,hk⟩:=Option.bind_eq_some_iff.1 h
  obtain⟨h1,h2⟩:=sel21_ok hl
  cases m with
  |zero=>cases hx
  |succ m=>exact⟨_,hk,(i21_fx m (hct m (Nat.lt_succ_self m)) _ _ hx).conv h1 h2,⟨_,Tryd.func47,rfl,by decide⟩⟩
 cases h
theorem ct68_ok (m:Nat) (hct:∀k,k<m→∀R,CallOK (R:=R) Tryd.prog (ct k)) {R:Type} {args:List AV} {objs:List Ob} {K:Res→Option R} {r:R} (h:ct68 m args objs K=some r):∃q:Res,K q=some r∧FX Tryd.prog 68 args objs q.1 q.2∧HasBody Tryd.prog 68:=by
 unfold ct68 at h
 split at h
 ·rename_i l hl
  obtain⟨x,hx,hk⟩:=Option.bind_eq_some_iff.1 h
  obtain⟨h1,h2⟩:=sel22_ok hl
  cases m with
  |zero=>cases hx
  |succ m=>exact⟨_,hk,(i22_fx m (hct m (Nat.lt_succ_self m)) _ _ hx).conv h1 h2,⟨_,Tryd.func68,rfl,by decide⟩⟩
 cases h
theorem ct46_ok (m:Nat) (hct:∀k,k<m→∀R,CallOK (R:=R) Tryd.prog (ct k)) {R:Type} {args:List AV} {objs:List Ob} {K:Res→Option R} {r:R} (h:ct46 m args objs K=some r):∃q:Res,K q=some r∧FX Tryd.prog 46 args objs q.1 q.2∧HasBody Tryd.prog 46:=by
 unfold ct46 at h
 split at h
 ·rename_i l hl
  obtain⟨x,hx,hk⟩:=Option.bind_eq_some_iff.1 h
  obtain⟨h1,h2⟩:=sel23_ok hl
  cases m with
  |zero=>cases hx
  |succ m=>exact⟨_,hk,(i23_fx m (hct m (Nat.lt_succ_self m)) _ _ hx).conv h1 h2,⟨_,Tryd.func46,rfl,by decide⟩⟩
 cases h
theorem ct48_ok (m:Nat) (hct:∀k,k<m→∀R,CallOK (R:=R) Tryd.prog (ct k)) {R:Type} {args:List AV} {objs:List Ob} {K:Res→Option R} {r:R} (h:ct48 m args objs K=some r):∃q:Res,K q=some r∧FX Tryd.prog 48 args objs q.1 q.2∧HasBody Tryd.prog 48:=by
 unfold ct48 at h
 split at h
 ·rename_i l hl
  obtain⟨x,hx,hk⟩:=Option.bind_eq_some_iff.1 h
  obtain⟨h1,h2⟩:=sel25_ok hl
  cases m with
  |zero=>cases hx
  |succ m=>exact⟨_,hk,(schema_repeats_fx m (hct m (Nat.lt_succ_self m)) _ hx).conv h1 h2,⟨_,Tryd.func48,rfl,by decide⟩⟩
 cases h
theorem ct49_ok (m:Nat) (hct:∀k,k<m→∀R,CallOK (R:=R) Tryd.prog (ct k)) {R:Type} {args:List AV} {objs:List Ob} {K:Res→Option R} {r:R} (h:ct49 m args objs K=some r):∃q:Res,K q=some r∧FX Tryd.prog 49 args objs q.1 q.2∧HasBody Tryd.prog 49:=by
 unfold ct49 at h
 split at h
 ·rename_i l hl
  obtain⟨x,hx,hk⟩:=Option.bind_eq_some_iff.1 h
  obtain⟨h1,h2⟩:=sel26_ok hl
  exact⟨_,hk,(Itoa_fx hx).conv h1 h2,⟨_,Tryd.func49,rfl,by decide⟩⟩
 cases h
theorem ct26_ok (m:Nat) (hct:∀k,k<m→∀R,CallOK (R:=R) Tryd.prog (ct k)) {R:Type} {args:List AV} {objs:List Ob} {K:Res→Option R} {r:R} (h:ct26 m args objs K=some r):∃q:Res,K q=some r∧FX Tryd.prog 26 args objs q.1 q.2∧HasBody Tryd.prog 26:=by
 unfold ct26 at h
 split at h
 ·rename_i l hl
  obtain⟨x,hx,hk⟩:=Option.bind_eq_some_iff.1 h
  obtain⟨h1,h2⟩:=sel27_ok hl
  cases m with
  |zero=>cases hx
  |succ m=>exact⟨_,hk,(law14_index_fx m (hct m (Nat.lt_succ_self m)) _ _ hx).conv h1 h2,⟨_,Tryd.func26,rfl,by decide⟩⟩
 cases h
theorem ct27_ok (m:Nat) (hct:∀k,k<m→∀R,CallOK (R:=R) Tryd.prog (ct k)) {R:Type} {args:List AV} {objs:List Ob} {K:Res→Option R} {r:R} (h:ct27 m args objs K=some r):∃q:Res,K q=some r∧FX Tryd.prog 27 args objs q.1 q.2∧HasBody Tryd.prog 27:=by
 unfold ct27 at h
 split at h
 ·rename_i l hl
  obtain⟨x,hx,hk⟩:=Option.bind_eq_some_iff.1 h
  obtain⟨h1,h2⟩:=sel28_ok hl
  cases m with
  |zero=>cases hx
  |succ m=>exact⟨_,hk,(ref01_Get_fx m (hct m (Nat.lt_succ_self m)) _ _ hx).conv h1 h2,⟨_,Tryd.func27,rfl,by decide⟩⟩
 cases h
theorem ct20_ok (m:Nat) (hct:∀k,k<m→∀R,CallOK (R:=R) Tryd.prog (ct k)) {R:Type} {args:List AV} {objs:List Ob} {K:Res→Option R} {r:R} (h:ct20 m args objs K=some r):∃q:Res,K q=some r∧FX Tryd.prog 20 args objs q.1 q.2∧HasBody Tryd.prog 20:=by
 unfold ct20 at h
 split at h
 ·rename_i l hl
  obtain⟨x,hx,hk⟩:=Option.bind_eq_some_iff.1 h
  obtain⟨h1,h2⟩:=sel29_ok hl
  cases m with
  |zero=>cases hx
  |succ m=>exact⟨_,hk,(i29_fx m (hct m (Nat.lt_succ_self m)) _ _ _ hx).conv h1 h2,⟨_,Tryd.func20,rfl,by decide⟩⟩
 cases h
theorem ct31_ok (m:Nat) (hct:∀k,k<m→∀R,CallOK (R:=R) Tryd.prog (ct k)) {R:Type} {args:List AV} {objs:List Ob} {K:Res→Option R} {r:R} (h:ct31 m args objs K=some r):∃q:Res,K q=some r∧FX Tryd.prog 31 args objs q.1 q.2∧HasBody Tryd.prog 31:=by
 unfold ct31 at h
 split at h
 ·rename_i l hl
  obtain⟨x,hx,hk⟩:=Option.bind_eq_some_iff.1 h
  obtain⟨h1,h2⟩:=sel30_ok hl
  cases m with
  |zero=>cases hx
  |succ m=>exact⟨_,hk,(schema_checkOne_fx m (hct m (Nat.lt_succ_self m)) _ hx).conv h1 h2,⟨_,Tryd.func31,rfl,by decide⟩⟩
 cases h
theorem ct22_ok (m:Nat) (hct:∀k,k<m→∀R,CallOK (R:=R) Tryd.prog (ct k)) {R:Type} {args:List AV} {objs:List Ob} {K:Res→Option R} {r:R} (h:ct22 m args objs K=some r):∃q:Res,K q=some r∧FX Tryd.prog 22 args objs q.1 q.2∧HasBody Tryd.prog 22:=by
 unfold ct22 at h
 split at h
 ·rename_i l hl
  obtain⟨x,hx,hk⟩:=Option.bind_eq_some_iff.1 h
  obtain⟨h1,h2⟩:=sel31_ok hl
  cases m with
  |zero=>cases hx
  |succ m=>exact⟨_,hk,(ref01_Depth_fx m (hct m (Nat.lt_succ_self m)) _ hx).conv h1 h2,⟨_,Tryd.func22,rfl,by decide⟩⟩
 cases h
theorem ct23_ok (m:Nat) (hct:∀k,k<m→∀R,CallOK (R:=R) Tryd.prog (ct k)) {R:Type} {args:List AV} {objs:List Ob} {K:Res→Option R} {r:R} (h:ct23 m args objs K=some r):∃q:Res,K q=some r∧FX Tryd.prog 23 args objs q.1 q.2∧HasBody Tryd.prog 23:=by
 unfold ct23 at h
 split at h
 ·rename_i l hl
  obtain⟨x,hx,hk⟩:=Option.bind_eq_some_iff.1 h
  obtain⟨h1,h2⟩:=sel32_ok hl
  cases m with
  |zero=>cases hx
  |succ m=>exact⟨_,hk,(ref01_Nodes_fx m (hct m (Nat.lt_succ_self m)) _ hx).conv h1 h2,⟨_,Tryd.func23,rfl,by decide⟩⟩
 cases h
theorem ct24_ok (m:Nat) (hct:∀k,k<m→∀R,CallOK (R:=R) Tryd.prog (ct k)) {R:Type} {args:List AV} {objs:List Ob} {K:Res→Option R} {r:R} (h:ct24 m args objs K=some r):∃q:Res,K q=some r∧FX Tryd.prog 24 args objs q.1 q.2∧HasBody Tryd.prog 24:=by
 unfold ct24 at h
 split at h
 ·rename_i l hl
  obtain⟨x,hx,hk⟩:=Option.bind_eq_some_iff.1 h
  obtain⟨h1,h2⟩:=sel33_ok hl
  cases m with
  |zero=>cases hx
  |succ m=>exact⟨_,hk,(ref01_formed_fx m (hct m (Nat.lt_succ_self m)) _ _ hx).conv h1 h2,⟨_,Tryd.func24,rfl,by decide⟩⟩
 cases h
theorem ct28_ok (m:Nat) (hct:∀k,k<m→∀R,CallOK (R:=R) Tryd.prog (ct k)) {R:Type} {args:List AV} {objs:List Ob} {K:Res→Option R} {r:R} (h:ct28 m args objs K=some r):∃q:Res,K q=some r∧FX Tryd.prog 28 args objs q.1 q.2∧HasBody Tryd.prog 28:=by
 unfold ct28 at h
 split at h
 ·rename_i l hl
  obtain⟨x,hx,hk⟩:=Option.bind_eq_some_iff.1 h
  obtain⟨h1,h2⟩:=sel34_ok hl
  cases m with
  |zero=>cases hx
  |succ m=>exact⟨_,hk,(ref02_count_fx m (hct m (Nat.lt_succ_self m)) _ _ _ hx).conv h1 h2,⟨_,Tryd.func28,rfl,by decide⟩⟩
 cases h
theorem ct64_ok (m:Nat) (hct:∀k,k<m→∀R,CallOK (R:=R) Tryd.prog (ct k)) {R:Type} {args:List AV} {objs:List Ob} {K:Res→Option R} {r:R} (h:ct64 m args objs K=some r):∃q:Res,K q=some r∧FX Tryd.prog 64 args objs q.1 q.2∧HasBody Tryd.prog 64:=by
 unfold ct64 at h
 split at h
 ·rename_i l hl
  obtain⟨x,hx,hk⟩:=Option.bind_eq_some_iff.1 h
  obtain⟨h1,h2⟩:=sel35_ok hl
  exact⟨_,hk,(Grow_fx hx).conv h1 h2,⟨_,Tryd.func64,rfl,by decide⟩⟩
 cases h
theorem ct66_ok (m:Nat) (hct:∀k,k<m→∀R,CallOK (R:=R) Tryd.prog (ct k)) {R:Type} {args:List AV} {objs:List Ob} {K:Res→Option R} {r:R} (h:ct66 m args objs K=some r):∃q:Res,K q=some r∧FX Tryd.prog 66 args objs q.1 q.2∧HasBody Tryd.prog 66:=by
 unfold ct66 at h
 split at h
 ·rename_i l hl
  obtain⟨x,hx,hk⟩:=Option.bind_eq_some_iff.1 h
  obtain⟨h1,h2⟩:=sel36_ok hl
  cases m with
  |zero=>cases hx
  |succ m=>exact⟨_,hk,(cmp_Compare_fx m (hct m (Nat.lt_succ_self m)) _ _ hx).conv h1 h2,⟨_,Tryd.func66,rfl,by decide⟩⟩
 cases h
theorem ct67_ok (m:Nat) (hct:∀k,k<m→∀R,CallOK (R:=R) Tryd.prog (ct k)) {R:Type} {args:List AV} {objs:List Ob} {K:Res→Option R} {r:R} (h:ct67 m args objs K=some r):∃q:Res,K q=some r∧FX Tryd.prog 67 args objs q.1 q.2∧HasBody Tryd.prog 67:=by
 unfold ct67 at h
 split at h
 ·rename_i l hl
  obtain⟨x,hx,hk⟩:=Option.bind_eq_some_iff.1 h
  obtain⟨h1,h2⟩:=sel37_ok hl
  exact⟨_,hk,(Compare_fx hx).conv h1 h2,⟨_,Tryd.func67,rfl,by decide⟩⟩
 cases h
theorem ct69_ok (m:Nat) (hct:∀k,k<m→∀R,CallOK (R:=R) Tryd.prog (ct k)) {R:Type} {args:List AV} {objs:List Ob} {K:Res→Option R} {r:R} (h:ct69 m args objs K=some r):∃q:Res,K q=some r∧FX Tryd.prog 69 args objs q.1 q.2∧HasBody Tryd.prog 69:=by
 unfold ct69 at h
 split at h
 ·rename_i l hl
  obtain⟨x,hx,hk⟩:=Option.bind_eq_some_iff.1 h
  obtain⟨h1,h2⟩:=sel38_ok hl
  exact⟨_,hk,(Clone_fx hx).conv h1 h2,⟨_,Tryd.func69,rfl,by decide⟩⟩
 cases h
theorem ct70_ok (m:Nat) (hct:∀k,k<m→∀R,CallOK (R:=R) Tryd.prog (ct k)) {R:Type} {args:List AV} {objs:List Ob} {K:Res→Option R} {r:R} (h:ct70 m args objs K=some r):∃q:Res,K q=some r∧FX Tryd.prog 70 args objs q.1 q.2∧HasBody Tryd.prog 70:=by
 unfold ct70 at h
 split at h
 ·rename_i l hl
  obtain⟨x,hx,hk⟩:=Option.bind_eq_some_iff.1 h
  obtain⟨h1,h2⟩:=sel39_ok hl
  cases m with
  |zero=>cases hx
  |succ m=>exact⟨_,hk,(i39_fx m (hct m (Nat.lt_succ_self m)) _ hx).conv h1 h2,⟨_,Tryd.func70,rfl,by decide⟩⟩
 cases h
theorem ct83_ok (m:Nat) (hct:∀k,k<m→∀R,CallOK (R:=R) Tryd.prog (ct k)) {R:Type} {args:List AV} {objs:List Ob} {K:Res→Option R} {r:R} (h:ct83 m args objs K=some r):∃q:Res,K q=some r∧FX Tryd.prog 83 args objs q.1 q.2∧HasBody Tryd.prog 83:=by
 unfold ct83 at h
 split at h
 ·rename_i l hl
  obtain⟨x,hx,hk⟩:=Option.bind_eq_some_iff.1 h
  obtain⟨h1,h2⟩:=sel40_ok hl
  cases m with
  |zero=>cases hx
  |succ m=>exact⟨_,hk,(i40_fx m (hct m (Nat.lt_succ_self m)) _ _ hx).conv h1 h2,⟨_,Tryd.func83,rfl,by decide⟩⟩
 cases h
theorem ct92_ok (m:Nat) (hct:∀k,k<m→∀R,CallOK (R:=R) Tryd.prog (ct k)) {R:Type} {args:List AV} {objs:List Ob} {K:Res→Option R} {r:R} (h:ct92 m args objs K=some r):∃q:Res,K q=some r∧FX Tryd.prog 92 args objs q.1 q.2∧HasBody Tryd.prog 92:=by
 unfold ct92 at h
 split at h
 ·rename_i l hl
  obtain⟨x,hx,hk⟩:=Option.bind_eq_some_iff.1 h
  obtain⟨h1,h2⟩:=sel41_ok hl
  cases m with
  |zero=>cases hx
  |succ m=>exact⟨_,hk,(i41_fx m (hct m (Nat.lt_succ_self m)) _ _ _ hx).conv h1 h2,⟨_,Tryd.func92,rfl,by decide⟩⟩
 cases h
theorem ct93_ok (m:Nat) (hct:∀k,k<m→∀R,CallOK (R:=R) Tryd.prog (ct k)) {R:Type} {args:List AV} {objs:List Ob} {K:Res→Option R} {r:R} (h:ct93 m args objs K=some r):∃q:Res,K q=some r∧FX Tryd.prog 93 args objs q.1 q.2∧HasBody Tryd.prog 93:=by
 unfold ct93 at h
 split at h
 ·rename_i l hl
  obtain⟨x,hx,hk⟩:=Option.bind_eq_some_iff.1 h
  obtain⟨h1,h2⟩:=sel42_ok hl
  cases m with
  |zero=>cases hx
  |succ m=>exact⟨_,hk,(i42_fx m (hct m (Nat.lt_succ_self m)) _ _ _ _ hx).conv h1 h2,⟨_,Tryd.func93,rfl,by decide⟩⟩
 cases h
theorem ct100_ok (m:Nat) (hct:∀k,k<m→∀R,CallOK (R:=R) Tryd.prog (ct k)) {R:Type} {args:List AV} {objs:List Ob} {K:Res→Option R} {r:R} (h:ct100 m args objs K=some r):∃q:Res,K q=some r∧FX Tryd.prog 100 args objs q.1 q.2∧HasBody Tryd.prog 100:=by
 unfold ct100 at h
 split at h
 ·rename_i l hl
  obtain⟨x,hx,hk⟩:=Option.bind_eq_some_iff.1 h
  obtain⟨h1,h2⟩:=sel43_ok hl
  cases m with
  |zero=>cases hx
  |succ m=>exact⟨_,hk,(i43_fx m (hct m (Nat.lt_succ_self m)) _ _ _ _ hx).conv h1 h2,⟨_,Tryd.func100,rfl,by decide⟩⟩
 cases h
theorem ct106_ok (m:Nat) (hct:∀k,k<m→∀R,CallOK (R:=R) Tryd.prog (ct k)) {R:Type} {args:List AV} {objs:List Ob} {K:Res→Option R} {r:R} (h:ct106 m args objs K=some r):∃q:Res,K q=some r∧FX Tryd.prog 106 args objs q.1 q.2∧HasBody Tryd.prog 106:=by
 unfold ct106 at h
 split at h
 ·rename_i l hl
  obtain⟨x,hx,hk⟩:=Option.bind_eq_some_iff.1 h
  obtain⟨h1,h2⟩:=sel44_ok hl
  cases m with
  |zero=>cases hx
  |succ m=>exact⟨_,hk,(i44_fx m (hct m (Nat.lt_succ_self m)) _ _ _ _ hx).conv h1 h2,⟨_,Tryd.func106,rfl,by decide⟩⟩
 cases h
theorem ct50_ok (m:Nat) (hct:∀k,k<m→∀R,CallOK (R:=R) Tryd.prog (ct k)) {R:Type} {args:List AV} {objs:List Ob} {K:Res→Option R} {r:R} (h:ct50 m args objs K=some r):∃q:Res,K q=some r∧FX Tryd.prog 50 args objs q.1 q.2∧HasBody Tryd.prog 50:=by
 unfold ct50 at h
 split at h
 ·rename_i l hl
  obtain⟨x,hx,hk⟩:=Option.bind_eq_some_iff.1 h
  obtain⟨h1,h2⟩:=sel45_ok hl
  cases m with
  |zero=>cases hx
  |succ m=>exact⟨_,hk,(ref01_at_fx m (hct m (Nat.lt_succ_self m)) _ _ hx).conv h1 h2,⟨_,Tryd.func50,rfl,by decide⟩⟩
 cases h
theorem ct56_ok (m:Nat) (hct:∀k,k<m→∀R,CallOK (R:=R) Tryd.prog (ct k)) {R:Type} {args:List AV} {objs:List Ob} {K:Res→Option R} {r:R} (h:ct56 m args objs K=some r):∃q:Res,K q=some r∧FX Tryd.prog 56 args objs q.1 q.2∧HasBody Tryd.prog 56:=by
 unfold ct56 at h
 split at h
 ·rename_i l hl
  obtain⟨x,hx,hk⟩:=Option.bind_eq_some_iff.1 h
  obtain⟨h1,h2⟩:=sel46_ok hl
  cases m with
  |zero=>cases hx
  |succ m=>exact⟨_,hk,(schema_isName_fx m (hct m (Nat.lt_succ_self m)) _ hx).conv h1 h2,⟨_,Tryd.func56,rfl,by decide⟩⟩
 cases h
theorem ct57_ok (m:Nat) (hct:∀k,k<m→∀R,CallOK (R:=R) Tryd.prog (ct k)) {R:Type} {args:List AV} {objs:List Ob} {K:Res→Option R} {r:R} (h:ct57 m args objs K=some r):∃q:Res,K q=some r∧FX Tryd.prog 57 args objs q.1 q.2∧HasBody Tryd.prog 57:=by
 unfold ct57 at h
 split at h
 ·rename_i l hl
  obtain⟨x,hx,hk⟩:=Option.bind_eq_some_iff.1 h
  obtain⟨h1,h2⟩:=sel47_ok hl
  cases m with
  |zero=>cases hx
  |succ m=>exact⟨_,hk,(schema_bound_fx m (hct m (Nat.lt_succ_self m)) _ _ hx).conv h1 h2,⟨_,Tryd.func57,rfl,by decide⟩⟩
 cases h
theorem ct54_ok (m:Nat) (hct:∀k,k<m→∀R,CallOK (R:=R) Tryd.prog (ct k)) {R:Type} {args:List AV} {objs:List Ob} {K:Res→Option R} {r:R} (h:ct54 m args objs K=some r):∃q:Res,K q=some r∧FX Tryd.prog 54 args objs q.1 q.2∧HasBody Tryd.prog 54:=by
 unfold ct54 at h
 split at h
 ·rename_i l hl
  obtain⟨x,hx,hk⟩:=Option.bind_eq_some_iff.1 h
  obtain⟨h1,h2⟩:=sel48_ok hl
  cases m with
  |zero=>cases hx
  |succ m=>exact⟨_,hk,(value_Valid_fx m (hct m (Nat.lt_succ_self m)) _ hx).conv h1 h2,⟨_,Tryd.func54,rfl,by decide⟩⟩
 cases h
theorem ct33_ok (m:Nat) (hct:∀k,k<m→∀R,CallOK (R:=R) Tryd.prog (ct k)) {R:Type} {args:List AV} {objs:List Ob} {K:Res→Option R} {r:R} (h:ct33 m args objs K=some r):∃q:Res,K q=some r∧FX Tryd.prog 33 args objs q.1 q.2∧HasBody Tryd.prog 33:=by
 unfold ct33 at h
 split at h
 ·rename_i l hl
  obtain⟨x,hx,hk⟩:=Option.bind_eq_some_iff.1 h
  obtain⟨h1,h2⟩:=sel49_ok hl
  cases m with
  |zero=>cases hx
  |succ m=>exact⟨_,hk,(ref01_levels_fx m (hct m (Nat.lt_succ_self m)) _ _ hx).conv h1 h2,⟨_,Tryd.func33,rfl,by decide⟩⟩
 cases h
theorem ct34_ok (m:Nat) (hct:∀k,k<m→∀R,CallOK (R:=R) Tryd.prog (ct k)) {R:Type} {args:List AV} {objs:List Ob} {K:Res→Option R} {r:R} (h:ct34 m args objs K=some r):∃q:Res,K q=some r∧FX Tryd.prog 34 args objs q.1 q.2∧HasBody Tryd.prog 34:=by
 unfold ct34 at h
 split at h
 ·rename_i l hl
  obtain⟨x,hx,hk⟩:=Option.bind_eq_some_iff.1 h
  obtain⟨h1,h2⟩:=sel50_ok hl
  cases m with
  |zero=>cases hx
  |succ m=>exact⟨_,hk,(ref01_count_fx m (hct m (Nat.lt_succ_self m)) _ _ hx).conv h1 h2,⟨_,Tryd.func34,rfl,by decide⟩⟩
 cases h
theorem ct35_ok (m:Nat) (hct:∀k,k<m→∀R,CallOK (R:=R) Tryd.prog (ct k)) {R:Type} {args:List AV} {objs:List Ob} {K:Res→Option R} {r:R} (h:ct35 m args objs K=some r):∃q:Res,K q=some r∧FX Tryd.prog 35 args objs q.1 q.2∧HasBody Tryd.prog 35:=by
 unfold ct35 at h
 split at h
 ·rename_i l hl
  obtain⟨x,hx,hk⟩:=Option.bind_eq_some_iff.1 h
  obtain⟨h1,h2⟩:=sel51_ok hl
  cases m with
  |zero=>cases hx
  |succ m=>exact⟨_,hk,(ref01_UTF8_fx m (hct m (Nat.lt_succ_self m)) _ hx).conv h1 h2,⟨_,Tryd.func35,rfl,by decide⟩⟩
 cases h
theorem ct36_ok (m:Nat) (hct:∀k,k<m→∀R,CallOK (R:=R) Tryd.prog (ct k)) {R:Type} {args:List AV} {objs:List Ob} {K:Res→Option R} {r:R} (h:ct36 m args objs K=some r):∃q:Res,K q=some r∧FX Tryd.prog 36 args objs q.1 q.2∧HasBody Tryd.prog 36:=by
 unfold ct36 at h
 split at h
 ·rename_i l hl
  obtain⟨x,hx,hk⟩:=Option.bind_eq_some_iff.1 h
  obtain⟨h1,h2⟩:=sel52_ok hl
  cases m with
  |zero=>cases hx
  |succ m=>exact⟨_,hk,(ref01_fields_fx m (hct m (Nat.lt_succ_self m)) _ _ hx).conv h1 h2,⟨_,Tryd.func36,rfl,by decide⟩⟩
 cases h
theorem ct81_ok (m:Nat) (hct:∀k,k<m→∀R,CallOK (R:=R) Tryd.prog (ct k)) {R:Type} {args:List AV} {objs:List Ob} {K:Res→Option R} {r:R} (h:ct81 m args objs K=some r):∃q:Res,K q=some r∧FX Tryd.prog 81 args objs q.1 q.2∧HasBody Tryd.prog 81:=by
 unfold ct81 at h
 split at h
 ·rename_i l hl
  obtain⟨x,hx,hk⟩:=Option.bind_eq_some_iff.1 h
  obtain⟨h1,h2⟩:=sel53_ok hl
  cases m with
  |zero=>cases hx
  |succ m=>exact⟨_,hk,(cmp_isNaN_fx m (hct m (Nat.lt_succ_self m)) _ hx).conv h1 h2,⟨_,Tryd.func81,rfl,by decide⟩⟩
 cases h
theorem ct51_ok (m:Nat) (hct:∀k,k<m→∀R,CallOK (R:=R) Tryd.prog (ct k)) {R:Type} {args:List AV} {objs:List Ob} {K:Res→Option R} {r:R} (h:ct51 m args objs K=some r):∃q:Res,K q=some r∧FX Tryd.prog 51 args objs q.1 q.2∧HasBody Tryd.prog 51:=by
 unfold ct51 at h
 split at h
 ·rename_i l hl
  obtain⟨x,hx,hk⟩:=Option.bind_eq_some_iff.1 h
  obtain⟨h1,h2⟩:=sel54_ok hl
  cases m with
  |zero=>cases hx
  |succ m=>exact⟨_,hk,(value_Nodes_fx m (hct m (Nat.lt_succ_self m)) _ hx).conv h1 h2,⟨_,Tryd.func51,rfl,by decide⟩⟩
 cases h
theorem ct52_ok (m:Nat) (hct:∀k,k<m→∀R,CallOK (R:=R) Tryd.prog (ct k)) {R:Type} {args:List AV} {objs:List Ob} {K:Res→Option R} {r:R} (h:ct52 m args objs K=some r):∃q:Res,K q=some r∧FX Tryd.prog 52 args objs q.1 q.2∧HasBody Tryd.prog 52:=by
 unfold ct52 at h
 split at h
 ·rename_i l hl
  obtain⟨x,hx,hk⟩:=Option.bind_eq_some_iff.1 h
  obtain⟨h1,h2⟩:=sel55_ok hl
  cases m with
  |zero=>cases hx
  |succ m=>exact⟨_,hk,(value_Depth_fx m (hct m (Nat.lt_succ_self m)) _ hx).conv h1 h2,⟨_,Tryd.func52,rfl,by decide⟩⟩
 cases h
theorem ct75_ok (m:Nat) (hct:∀k,k<m→∀R,CallOK (R:=R) Tryd.prog (ct k)) {R:Type} {args:List AV} {objs:List Ob} {K:Res→Option R} {r:R} (h:ct75 m args objs K=some r):∃q:Res,K q=some r∧FX Tryd.prog 75 args objs q.1 q.2∧HasBody Tryd.prog 75:=by
 unfold ct75 at h
 split at h
 ·rename_i l hl
  obtain⟨x,hx,hk⟩:=Option.bind_eq_some_iff.1 h
  obtain⟨h1,h2⟩:=sel56_ok hl
  cases m with
  |zero=>cases hx
  |succ m=>exact⟨_,hk,(value_sound_fx m (hct m (Nat.lt_succ_self m)) _ hx).conv h1 h2,⟨_,Tryd.func75,rfl,by decide⟩⟩
 cases h
theorem ct60_ok (m:Nat) (hct:∀k,k<m→∀R,CallOK (R:=R) Tryd.prog (ct k)) {R:Type} {args:List AV} {objs:List Ob} {K:Res→Option R} {r:R} (h:ct60 m args objs K=some r):∃q:Res,K q=some r∧FX Tryd.prog 60 args objs q.1 q.2∧HasBody Tryd.prog 60:=by
 unfold ct60 at h
 split at h
 ·rename_i l hl
  obtain⟨x,hx,hk⟩:=Option.bind_eq_some_iff.1 h
  obtain⟨h1,h2⟩:=sel57_ok hl
  cases m with
  |zero=>cases hx
  |succ m=>exact⟨_,hk,(ref01_Parts_fx m (hct m (Nat.lt_succ_self m)) _ hx).conv h1 h2,⟨_,Tryd.func60,rfl,by decide⟩⟩
 cases h
theorem ct61_ok (m:Nat) (hct:∀k,k<m→∀R,CallOK (R:=R) Tryd.prog (ct k)) {R:Type} {args:List AV} {objs:List Ob} {K:Res→Option R} {r:R} (h:ct61 m args objs K=some r):∃q:Res,K q=some r∧FX Tryd.prog 61 args objs q.1 q.2∧HasBody Tryd.prog 61:=by
 unfold ct61 at h
 split at h
 ·rename_i l hl
  obtain⟨x,hx,hk⟩:=Option.bind_eq_some_iff.1 h
  obtain⟨h1,h2⟩:=sel58_ok hl
  cases m with
  |zero=>cases hx
  |succ m=>exact⟨_,hk,(ref01_tail_fx m (hct m (Nat.lt_succ_self m)) _ _ _ hx).conv h1 h2,⟨_,Tryd.func61,rfl,by decide⟩⟩
 cases h
theorem ct62_ok (m:Nat) (hct:∀k,k<m→∀R,CallOK (R:=R) Tryd.prog (ct k)) {R:Type} {args:List AV} {objs:List Ob} {K:Res→Option R} {r:R} (h:ct62 m args objs K=some r):∃q:Res,K q=some r∧FX Tryd.prog 62 args objs q.1 q.2∧HasBody Tryd.prog 62:=by
 unfold ct62 at h
 split at h
 ·rename_i l hl
  obtain⟨x,hx,hk⟩:=Option.bind_eq_some_iff.1 h
  obtain⟨h1,h2⟩:=sel59_ok hl
  cases m with
  |zero=>cases hx
  |succ m=>exact⟨_,hk,(ref01_Name_fx m (hct m (Nat.lt_succ_self m)) _ hx).conv h1 h2,⟨_,Tryd.func62,rfl,by decide⟩⟩
 cases h
theorem ct63_ok (m:Nat) (hct:∀k,k<m→∀R,CallOK (R:=R) Tryd.prog (ct k)) {R:Type} {args:List AV} {objs:List Ob} {K:Res→Option R} {r:R} (h:ct63 m args objs K=some r):∃q:Res,K q=some r∧FX Tryd.prog 63 args objs q.1 q.2∧HasBody Tryd.prog 63:=by
 unfold ct63 at h
 split at h
 ·rename_i l hl
  obtain⟨x,hx,hk⟩:=Option.bind_eq_some_iff.1 h
  obtain⟨h1,h2⟩:=sel60_ok hl
  cases m with
  |zero=>cases hx
  |succ m=>exact⟨_,hk,(ref01_wide_fx m (hct m (Nat.lt_succ_self m)) _ hx).conv h1 h2,⟨_,Tryd.func63,rfl,by decide⟩⟩
 cases h
theorem ct72_ok (m:Nat) (hct:∀k,k<m→∀R,CallOK (R:=R) Tryd.prog (ct k)) {R:Type} {args:List AV} {objs:List Ob} {K:Res→Option R} {r:R} (h:ct72 m args objs K=some r):∃q:Res,K q=some r∧FX Tryd.prog 72 args objs q.1 q.2∧HasBody Tryd.prog 72:=by
 unfold ct72 at h
 split at h
 ·rename_i l hl
  obtain⟨x,hx,hk⟩:=Option.bind_eq_some_iff.1 h
  obtain⟨h1,h2⟩:=sel61_ok hl
  cases m with
  |zero=>cases hx
  |succ m=>exact⟨_,hk,(value_nodes_fx m (hct m (Nat.lt_succ_self m)) _ _ hx).conv h1 h2,⟨_,Tryd.func72,rfl,by decide⟩⟩
 cases h
theorem ct73_ok (m:Nat) (hct:∀k,k<m→∀R,CallOK (R:=R) Tryd.prog (ct k)) {R:Type} {args:List AV} {objs:List Ob} {K:Res→Option R} {r:R} (h:ct73 m args objs K=some r):∃q:Res,K q=some r∧FX Tryd.prog 73 args objs q.1 q.2∧HasBody Tryd.prog 73:=by
 unfold ct73 at h
 split at h
 ·rename_i l hl
  obtain⟨x,hx,hk⟩:=Option.bind_eq_some_iff.1 h
  obtain⟨h1,h2⟩:=sel62_ok hl
  cases m with
  |zero=>cases hx
  |succ m=>exact⟨_,hk,(value_depth_fx m (hct m (Nat.lt_succ_self m)) _ _ hx).conv h1 h2,⟨_,Tryd.func73,rfl,by decide⟩⟩
 cases h
theorem ct88_ok (m:Nat) (hct:∀k,k<m→∀R,CallOK (R:=R) Tryd.prog (ct k)) {R:Type} {args:List AV} {objs:List Ob} {K:Res→Option R} {r:R} (h:ct88 m args objs K=some r):∃q:Res,K q=some r∧FX Tryd.prog 88 args objs q.1 q.2∧HasBody Tryd.prog 88:=by
 unfold ct88 at h
 split at h
 ·rename_i l hl
  obtain⟨x,hx,hk⟩:=Option.bind_eq_some_iff.1 h
  obtain⟨h1,h2⟩:=sel63_ok hl
  exact⟨_,hk,(ValidString_fx hx).conv h1 h2,⟨_,Tryd.func88,rfl,by decide⟩⟩
 cases h
theorem ct89_ok (m:Nat) (hct:∀k,k<m→∀R,CallOK (R:=R) Tryd.prog (ct k)) {R:Type} {args:List AV} {objs:List Ob} {K:Res→Option R} {r:R} (h:ct89 m args objs K=some r):∃q:Res,K q=some r∧FX Tryd.prog 89 args objs q.1 q.2∧HasBody Tryd.prog 89:=by
 unfold ct89 at h
 split at h
 ·rename_i l hl
  obtain⟨x,hx,hk⟩:=Option.bind_eq_some_iff.1 h
  obtain⟨h1,h2⟩:=sel64_ok hl
  cases m with
  |zero=>cases hx
  |succ m=>exact⟨_,hk,(value_soundFields_fx m (hct m (Nat.lt_succ_self m)) _ hx).conv h1 h2,⟨_,Tryd.func89,rfl,by decide⟩⟩
 cases h
theorem ct85_ok (m:Nat) (hct:∀k,k<m→∀R,CallOK (R:=R) Tryd.prog (ct k)) {R:Type} {args:List AV} {objs:List Ob} {K:Res→Option R} {r:R} (h:ct85 m args objs K=some r):∃q:Res,K q=some r∧FX Tryd.prog 85 args objs q.1 q.2∧HasBody Tryd.prog 85:=by
 unfold ct85 at h
 split at h
 ·rename_i l hl
  obtain⟨x,hx,hk⟩:=Option.bind_eq_some_iff.1 h
  obtain⟨h1,h2⟩:=sel65_ok hl
  cases m with
  |zero=>cases hx
  |succ m=>exact⟨_,hk,(i65_fx m (hct m (Nat.lt_succ_self m)) _ _ _ hx).conv h1 h2,⟨_,Tryd.func85,rfl,by decide⟩⟩
 split at h
 ·rename_i l hl
  obtain⟨x,hx,hk⟩:=Option.bind_eq_some_iff.1 h
  obtain⟨h1,h2⟩:=sel67_ok hl
  cases m with
  |zero=>cases hx
  |succ m=>exact⟨_,hk,(i67_fx m (hct m (Nat.lt_succ_self m)) _ _ _ hx).conv h1 h2,⟨_,Tryd.func85,rfl,by decide⟩⟩
 cases h
theorem ct86_ok (m:Nat) (hct:∀k,k<m→∀R,CallOK (R:=R) Tryd.prog (ct k)) {R:Type} {args:List AV} {objs:List Ob} {K:Res→Option R} {r:R} (h:ct86 m args objs K=some r):∃q:Res,K q=some r∧FX Tryd.prog 86 args objs q.1 q.2∧HasBody Tryd.prog 86:=by
 unfold ct86 at h
 split at h
 ·rename_i l hl
  obtain⟨x,hx,hk⟩:=Option.bind_eq_some_iff.1 h
  obtain⟨h1,h2⟩:=sel66_ok hl
  cases m with
  |zero=>cases hx
  |succ m=>exact⟨_,hk,(i66_fx m (hct m (Nat.lt_succ_self m)) _ _ _ hx).conv h1 h2,⟨_,Tryd.func86,rfl,by decide⟩⟩
 cases h
theorem ct87_ok (m:Nat) (hct:∀k,k<m→∀R,CallOK (R:=R) Tryd.prog (ct k)) {R:Type} {args:List AV} {objs:List Ob} {K:Res→Option R} {r:R} (h:ct87 m args objs K=some r):∃q:Res,K q=some r∧FX Tryd.prog 87 args objs q.1 q.2∧HasBody Tryd.prog 87:=by
 unfold ct87 at h
 split at h
 ·rename_i l hl
  obtain⟨x,hx,hk⟩:=Option.bind_eq_some_iff.1 h
  obtain⟨h1,h2⟩:=sel68_ok hl
  cases m with
  |zero=>cases hx
  |succ m=>exact⟨_,hk,(i68_fx m (hct m (Nat.lt_succ_self m)) _ _ _ hx).conv h1 h2,⟨_,Tryd.func87,rfl,by decide⟩⟩
 cases h
theorem ct99_ok (m:Nat) (hct:∀k,k<m→∀R,CallOK (R:=R) Tryd.prog (ct k)) {R:Type} {args:List AV} {objs:List Ob} {K:Res→Option R} {r:R} (h:ct99 m args objs K=some r):∃q:Res,K q=some r∧FX Tryd.prog 99 args objs q.1 q.2∧HasBody Tryd.prog 99:=by
 unfold ct99 at h
 split at h
 ·rename_i l hl
  obtain⟨x,hx,hk⟩:=Option.bind_eq_some_iff.1 h
  obtain⟨h1,h2⟩:=sel69_ok hl
  cases m with
  |zero=>cases hx
  |succ m=>exact⟨_,hk,(value_isName_fx m (hct m (Nat.lt_succ_self m)) _ hx).conv h1 h2,⟨_,Tryd.func99,rfl,by decide⟩⟩
 cases h
set_option maxHeartbeats 4000000 in
theorem ct_ok:∀(m:Nat) (R:Type),CallOK (R:=R) Tryd.prog (ct m):=by
 intro m
 induction m using Nat.strongRecOn with
 |_ m ih=>
  intro R f args objs K r h
  unfold ct at h
  rcases bset_some h with⟨hb,h1⟩| ⟨_,h⟩
  · have e:=beq_eq hb
    subst e
    exact ct4_ok m ih h1
  rcases bset_some h with⟨hb,h1⟩| ⟨_,h⟩
  · have e:=beq_eq hb
    subst e
    exact ct11_ok m ih h1
  rcases bset_some h with⟨hb,h1⟩| ⟨_,h⟩
  · have e:=beq_eq hb
    subst e
    exact ct8_ok m ih h1
  rcases bset_some h with⟨hb,h1⟩| ⟨_,h⟩
  · have e:=beq_eq hb
    subst e
    exact ct13_ok m ih h1
  rcases bset_some h with⟨hb,h1⟩| ⟨_,h⟩
  · have e:=beq_eq hb
    subst e
    exact ct14_ok m ih h1
  rcases bset_some h with⟨hb,h1⟩| ⟨_,h⟩
  · have e:=beq_eq hb
    subst e
    exact ct9_ok m ih h1
  rcases bset_some h with⟨hb,h1⟩| ⟨_,h⟩
  · have e:=beq_eq hb
    subst e
    exact ct12_ok m ih h1
  rcases bset_some h with⟨hb,h1⟩| ⟨_,h⟩
  · have e:=beq_eq hb
    subst e
    exact ct7_ok m ih h1
  rcases bset_some h with⟨hb,h1⟩| ⟨_,h⟩
  · have e:=beq_eq hb
    subst e
    exact ct15_ok m ih h1
  rcases bset_some h with⟨hb,h1⟩| ⟨_,h⟩
  · have e:=beq_eq hb
    subst e
    exact ct25_ok m ih h1
  rcases bset_some h with⟨hb,h1⟩| ⟨_,h⟩
  · have e:=beq_eq hb
    subst e
    exact ct41_ok m ih h1
  rcases bset_some h with⟨hb,h1⟩| ⟨_,h⟩
  · have e:=beq_eq hb
    subst e
    exact ct37_ok m ih h1
  rcases bset_some h with⟨hb,h1⟩| ⟨_,h⟩
  · have e:=beq_eq hb
    subst e
    exact ct38_ok m ih h1
  rcases bset_some h with⟨hb,h1⟩| ⟨_,h⟩
  · have e:=beq_eq hb
    subst e
    exact ct42_ok m ih h1
  rcases bset_some h with⟨hb,h1⟩| ⟨_,h⟩
  · have e:=beq_eq hb
    subst e
    exact ct65_ok m ih h1
  rcases bset_some h with⟨hb,h1⟩| ⟨_,h⟩
  · have e:=beq_eq hb
    subst e
    exact ct39_ok m ih h1
  rcases bset_some h with⟨hb,h1⟩| ⟨_,h⟩
  · have e:=beq_eq hb
    subst e
    exact ct40_ok m ih h1
  rcases bset_some h with⟨hb,h1⟩| ⟨_,h⟩
  · have e:=beq_eq hb
    subst e
    exact ct43_ok m ih h1
  rcases bset_some h with⟨hb,h1⟩| ⟨_,h⟩
  · have e:=beq_eq hb
    subst e
    exact ct44_ok m ih h1
  rcases bset_some h with⟨hb,h1⟩| ⟨_,h⟩
  · have e:=beq_eq hb
    subst e
    exact ct45_ok m ih h1
  rcases bset_some h with⟨hb,h1⟩| ⟨_,h⟩
  · have e:=beq_eq hb
    subst e
    exact ct47_ok m ih h1
  rcases bset_some h with⟨hb,h1⟩| ⟨_,h⟩
  · have e:=beq_eq hb
    subst e
    exact ct68_ok m ih h1
  rcases bset_some h with⟨hb,h1⟩| ⟨_,h⟩
  · have e:=beq_eq hb
    subst e
    exact ct46_ok m ih h1
  rcases bset_some h with⟨hb,h1⟩| ⟨_,h⟩
  · have e:=beq_eq hb
    subst e
    exact ct48_ok m ih h1
  rcases bset_some h with⟨hb,h1⟩| ⟨_,h⟩
  · have e:=beq_eq hb
    subst e
    exact ct49_ok m ih h1
  rcases bset_some h with⟨hb,h1⟩| ⟨_,h⟩
  · have e:=beq_eq hb
    subst e
    exact ct26_ok m ih h1
  rcases bset_some h with⟨hb,h1⟩| ⟨_,h⟩
  · have e:=beq_eq hb
    subst e
    exact ct27_ok m ih h1
  rcases bset_some h with⟨hb,h1⟩| ⟨_,h⟩
  · have e:=beq_eq hb
    subst e
    exact ct20_ok m ih h1
  rcases bset_some h with⟨hb,h1⟩| ⟨_,h⟩
  · have e:=beq_eq hb
    subst e
    exact ct31_ok m ih h1
  rcases bset_some h with⟨hb,h1⟩| ⟨_,h⟩
  · have e:=beq_eq hb
    subst e
    exact ct22_ok m ih h1
  rcases bset_some h with⟨hb,h1⟩| ⟨_,h⟩
  · have e:=beq_eq hb
    subst e
    exact ct23_ok m ih h1
  rcases bset_some h with⟨hb,h1⟩| ⟨_,h⟩
  · have e:=beq_eq hb
    subst e
    exact ct24_ok m ih h1
  rcases bset_some h with⟨hb,h1⟩| ⟨_,h⟩
  · have e:=beq_eq hb
    subst e
    exact ct28_ok m ih h1
  rcases bset_some h with⟨hb,h1⟩| ⟨_,h⟩
  · have e:=beq_eq hb
    subst e
    exact ct64_ok m ih h1
  rcases bset_some h with⟨hb,h1⟩| ⟨_,h⟩
  · have e:=beq_eq hb
    subst e
    exact ct66_ok m ih h1
  rcases bset_some h with⟨hb,h1⟩| ⟨_,h⟩
  · have e:=beq_eq hb
    subst e
    exact ct67_ok m ih h1
  rcases bset_some h with⟨hb,h1⟩| ⟨_,h⟩
  · have e:=beq_eq hb
    subst e
    exact ct69_ok m ih h1
  rcases bset_some h with⟨hb,h1⟩| ⟨_,h⟩
  · have e:=beq_eq hb
    subst e
    exact ct70_ok m ih h1
  rcases bset_some h with⟨hb,h1⟩| ⟨_,h⟩
  · have e:=beq_eq hb
    subst e
    exact ct83_ok m ih h1
  rcases bset_some h with⟨hb,h1⟩| ⟨_,h⟩
  · have e:=beq_eq hb
    subst e
    exact ct92_ok m ih h1
  rcases bset_some h with⟨hb,h1⟩| ⟨_,h⟩
  · have e:=beq_eq hb
    subst e
    exact ct93_ok m ih h1
  rcases bset_some h with⟨hb,h1⟩| ⟨_,h⟩
  · have e:=beq_eq hb
    subst e
    exact ct100_ok m ih h1
  rcases bset_some h with⟨hb,h1⟩| ⟨_,h⟩
  · have e:=beq_eq hb
    subst e
    exact ct106_ok m ih h1
  rcases bset_some h with⟨hb,h1⟩| ⟨_,h⟩
  · have e:=beq_eq hb
    subst e
    exact ct50_ok m ih h1
  rcases bset_some h with⟨hb,h1⟩| ⟨_,h⟩
  · have e:=beq_eq hb
    subst e
    exact ct56_ok m ih h1
  rcases bset_some h with⟨hb,h1⟩| ⟨_,h⟩
  · have e:=beq_eq hb
    subst e
    exact ct57_ok m ih h1
  rcases bset_some h with⟨hb,h1⟩| ⟨_,h⟩
  · have e:=beq_eq hb
    subst e
    exact ct54_ok m ih h1
  rcases bset_some h with⟨hb,h1⟩| ⟨_,h⟩
  · have e:=beq_eq hb
    subst e
    exact ct33_ok m ih h1
  rcases bset_some h with⟨hb,h1⟩| ⟨_,h⟩
  · have e:=beq_eq hb
    subst e
    exact ct34_ok m ih h1
  rcases bset_some h with⟨hb,h1⟩| ⟨_,h⟩
  · have e:=beq_eq hb
    subst e
    exact ct35_ok m ih h1
  rcases bset_some h with⟨hb,h1⟩| ⟨_,h⟩
  · have e:=beq_eq hb
    subst e
    exact ct36_ok m ih h1
  rcases bset_some h with⟨hb,h1⟩| ⟨_,h⟩
  · have e:=beq_eq hb
    subst e
    exact ct81_ok m ih h1
  rcases bset_some h with⟨hb,h1⟩| ⟨_,h⟩
  · have e:=beq_eq hb
    subst e
    exact ct51_ok m ih h1
  rcases bset_some h with⟨hb,h1⟩| ⟨_,h⟩
  · have e:=beq_eq hb
    subst e
    exact ct52_ok m ih h1
  rcases bset_some h with⟨hb,h1⟩| ⟨_,h⟩
  · have e:=beq_eq hb
    subst e
    exact ct75_ok m ih h1
  rcases bset_some h with⟨hb,h1⟩| ⟨_,h⟩
  · have e:=beq_eq hb
    subst e
    exact ct60_ok m ih h1
  rcases bset_some h with⟨hb,h1⟩| ⟨_,h⟩
  · have e:=beq_eq hb
    subst e
    exact ct61_ok m ih h1
  rcases bset_some h with⟨hb,h1⟩| ⟨_,h⟩
  · have e:=beq_eq hb
    subst e
    exact ct62_ok m ih h1
  rcases bset_some h with⟨hb,h1⟩| ⟨_,h⟩
  · have e:=beq_eq hb
    subst e
    exact ct63_ok m ih h1
  rcases bset_some h with⟨hb,h1⟩| ⟨_,h⟩
  · have e:=beq_eq hb
    subst e
    exact ct72_ok m ih h1
  rcases bset_some h with⟨hb,h1⟩| ⟨_,h⟩
  · have e:=beq_eq hb
    subst e
    exact ct73_ok m ih h1
  rcases bset_some h with⟨hb,h1⟩| ⟨_,h⟩
  · have e:=beq_eq hb
    subst e
    exact ct88_ok m ih h1
  rcases bset_some h with⟨hb,h1⟩| ⟨_,h⟩
  · have e:=beq_eq hb
    subst e
    exact ct89_ok m ih h1
  rcases bset_some h with⟨hb,h1⟩| ⟨_,h⟩
  · have e:=beq_eq hb
    subst e
    exact ct85_ok m ih h1
  rcases bset_some h with⟨hb,h1⟩| ⟨_,h⟩
  · have e:=beq_eq hb
    subst e
    exact ct86_ok m ih h1
  rcases bset_some h with⟨hb,h1⟩| ⟨_,h⟩
  · have e:=beq_eq hb
    subst e
    exact ct87_ok m ih h1
  rcases bset_some h with⟨hb,h1⟩| ⟨_,h⟩
  · have e:=beq_eq hb
    subst e
    exact ct99_ok m ih h1
  cases h
end Go.Proofs.YtfneddmmeadacaaDoor
