/- Generated: the contracts. -/
import Derived.Test.YtmejbpmceflcjaaGreatDoorEq0
import Derived.Test.YtmejbpmceflcjaaGreatDoorEq1
set_option linter.unusedVariables false
set_option linter.unusedSimpArgs false
namespace Go.Proofs.YtmejbpmceflcjaaGreatDoor
open Go.Am
set_option maxRecDepth 100000
theorem mixed:Tryz.prog.follows .mixedOrders=true:=by kernel_rfl
theorem i6_fx (m:Nat) (hct:∀R,CallOK (R:=R) Tryz.prog (ct m)) (a0:Dt) {r:Int×Dt} (h:i6 (m+1) a0=some r):FX Tryz.prog 42 [(.ptr 0 [] 0)] [(.box 46 (.dat 46 a0))] (.dat 3 (.int r.1)) [(.box 46 (.dat 46 r.2))]:=
 FX_of (q:=((.dat 3 (.int r.1)),[(.box 46 (.dat 46 r.2))])) (E:=env) (m:=m+1) (dec:=d6) jn_ok (hct _) mixed Tryz.func42 rfl (Nat.le_of_ble_eq_true rfl) (fun b hb=>d6_sim hb) ((i6_eq m a0).trans h)
theorem i5_fx (m:Nat) (hct:∀R,CallOK (R:=R) Tryz.prog (ct m)) (a0:Dt) {r:Dt} (h:i5 (m+1) a0=some r):FX Tryz.prog 19 [(.ptr 0 [] 0)] [(.box 46 (.dat 46 a0))] (.tup []) [(.box 46 (.dat 46 r))]:=
 FX_of (q:=((.tup []),[(.box 46 (.dat 46 r))])) (E:=env) (m:=m+1) (dec:=d5) jn_ok (hct _) mixed Tryz.func19 rfl (Nat.le_of_ble_eq_true rfl) (fun b hb=>d5_sim hb) ((i5_eq m a0).trans h)
theorem i9_fx (m:Nat) (hct:∀R,CallOK (R:=R) Tryz.prog (ct m)) (a0 a1:Int) (a2:Dt) {r:Bool×Dt} (h:i9 (m+1) a0 a1 a2=some r):FX Tryz.prog 21 [(.ptr 0 [] 0),(.dat 28 (.int a0)),(.dat 3 (.int a1))] [(.box 46 (.dat 46 a2))] (.dat 4 (.bool r.1)) [(.box 46 (.dat 46 r.2))]:=
 FX_of (q:=((.dat 4 (.bool r.1)),[(.box 46 (.dat 46 r.2))])) (E:=env) (m:=m+1) (dec:=d9) jn_ok (hct _) mixed Tryz.func21 rfl (Nat.le_of_ble_eq_true rfl) (fun b hb=>d9_sim hb) ((i9_eq m a0 a1 a2).trans h)
theorem i8_fx (m:Nat) (hct:∀R,CallOK (R:=R) Tryz.prog (ct m)) (a0 a1:Int) (a2:Dt) {r:Bool×Dt} (h:i8 (m+1) a0 a1 a2=some r):FX Tryz.prog 43 [(.ptr 0 [] 0),(.dat 3 (.int a0)),(.dat 3 (.int a1))] [(.box 46 (.dat 46 a2))] (.dat 4 (.bool r.1)) [(.box 46 (.dat 46 r.2))]:=
 FX_of (q:=((.dat 4 (.bool r.1)),[(.box 46 (.dat 46 r.2))])) (E:=env) (m:=m+1) (dec:=d9) jn_ok (hct _) mixed Tryz.func43 rfl (Nat.le_of_ble_eq_true rfl) (fun b hb=>d9_sim hb) ((i8_eq m a0 a1 a2).trans h)
theorem i13_fx (m:Nat) (hct:∀R,CallOK (R:=R) Tryz.prog (ct m)) (a0:Dt) {r:Int×Bool×Dt} (h:i13 (m+1) a0=some r):FX Tryz.prog 103 [(.ptr 0 [] 0)] [(.box 46 (.dat 46 a0))] (.tup [(.dat 21 (.int r.1)),(.dat 4 (.bool r.2.1))]) [(.box 46 (.dat 46 r.2.2))]:=
 FX_of (q:=((.tup [(.dat 21 (.int r.1)),(.dat 4 (.bool r.2.1))]),[(.box 46 (.dat 46 r.2.2))])) (E:=env) (m:=m+1) (dec:=d13) jn_ok (hct _) mixed Tryz.func103 rfl (Nat.le_of_ble_eq_true rfl) (fun b hb=>d13_sim hb) ((i13_eq m a0).trans h)
theorem i12_fx (m:Nat) (hct:∀R,CallOK (R:=R) Tryz.prog (ct m)) (a0:Dt) {r:Int×Bool×Dt} (h:i12 (m+1) a0=some r):FX Tryz.prog 89 [(.ptr 0 [] 0)] [(.box 46 (.dat 46 a0))] (.tup [(.dat 21 (.int r.1)),(.dat 4 (.bool r.2.1))]) [(.box 46 (.dat 46 r.2.2))]:=
 FX_of (q:=((.tup [(.dat 21 (.int r.1)),(.dat 4 (.bool r.2.1))]),[(.box 46 (.dat 46 r.2.2))])) (E:=env) (m:=m+1) (dec:=d13) jn_ok (hct _) mixed Tryz.func89 rfl (Nat.le_of_ble_eq_true rfl) (fun b hb=>d13_sim hb) ((i12_eq m a0).trans h)
theorem i15_fx (m:Nat) (hct:∀R,CallOK (R:=R) Tryz.prog (ct m)) (a0:Int) (a1:List Dt) {r:List Dt} (h:i15 (m+1) a0 a1=some r):FX Tryz.prog 104 [(.row 0),(.dat 21 (.int a0))] [(.row 40 a1)] (.row 1) [.gone,(.row 40 r)]:=
 FX_of (q:=((.row 1),[.gone,(.row 40 r)])) (E:=env) (m:=m+1) (dec:=d15) jn_ok (hct _) mixed Tryz.func104 rfl (Nat.le_of_ble_eq_true rfl) (fun b hb=>d15_sim hb) ((i15_eq m a0 a1).trans h)
theorem i14_fx (m:Nat) (hct:∀R,CallOK (R:=R) Tryz.prog (ct m)) (a0:Int) (a1:List Dt) {r:List Dt} (h:i14 (m+1) a0 a1=some r):FX Tryz.prog 90 [(.row 0),(.dat 21 (.int a0))] [(.row 40 a1)] (.row 1) [.gone,(.row 40 r)]:=
 FX_of (q:=((.row 1),[.gone,(.row 40 r)])) (E:=env) (m:=m+1) (dec:=d15) jn_ok (hct _) mixed Tryz.func90 rfl (Nat.le_of_ble_eq_true rfl) (fun b hb=>d15_sim hb) ((i14_eq m a0 a1).trans h)
theorem i11_fx (m:Nat) (hct:∀R,CallOK (R:=R) Tryz.prog (ct m)) (a0:Dt) {r:ByteArray×Bool×Dt} (h:i11 (m+1) a0=some r):FX Tryz.prog 69 [(.ptr 0 [] 0)] [(.box 46 (.dat 46 a0))] (.tup [(.dat 9 (.str r.1)),(.dat 4 (.bool r.2.1))]) [(.box 46 (.dat 46 r.2.2))]:=
 FX_of (q:=((.tup [(.dat 9 (.str r.1)),(.dat 4 (.bool r.2.1))]),[(.box 46 (.dat 46 r.2.2))])) (E:=env) (m:=m+1) (dec:=d11) jn_ok (hct _) mixed Tryz.func69 rfl (Nat.le_of_ble_eq_true rfl) (fun b hb=>d11_sim hb) ((i11_eq m a0).trans h)
theorem i10_fx (m:Nat) (hct:∀R,CallOK (R:=R) Tryz.prog (ct m)) (a0:Dt) {r:Dt×Bool×Dt} (h:i10 (m+1) a0=some r):FX Tryz.prog 44 [(.ptr 0 [] 0)] [(.box 46 (.dat 46 a0))] (.tup [(.dat 25 r.1),(.dat 4 (.bool r.2.1))]) [(.box 46 (.dat 46 r.2.2))]:=
 FX_of (q:=((.tup [(.dat 25 r.1),(.dat 4 (.bool r.2.1))]),[(.box 46 (.dat 46 r.2.2))])) (E:=env) (m:=m+1) (dec:=d10) jn_ok (hct _) mixed Tryz.func44 rfl (Nat.le_of_ble_eq_true rfl) (fun b hb=>d10_sim hb) ((i10_eq m a0).trans h)
theorem notation_isField_fx (m:Nat) (hct:∀R,CallOK (R:=R) Tryz.prog (ct m)) (a0:ByteArray) {r:Bool} (h:notation_isField (m+1) a0=some r):FX Tryz.prog 57 [(.dat 9 (.str a0))] [] (.dat 4 (.bool r)) []:=
 FX_of (q:=((.dat 4 (.bool r)),[])) (E:=env) (m:=m+1) (dec:=d20) jn_ok (hct _) mixed Tryz.func57 rfl (Nat.le_of_ble_eq_true rfl) (fun b hb=>d20_sim hb) ((notation_isField_eq m a0).trans h)
theorem i19_fx (m:Nat) (hct:∀R,CallOK (R:=R) Tryz.prog (ct m)) (a0:Dt) (a1:List Dt) {r:ByteArray×Bool×Dt×List Dt} (h:i19 (m+1) a0 a1=some r):FX Tryz.prog 71 [(.ptr 0 [] 0),(.row 1)] [(.box 46 (.dat 46 a0)),(.map 76 a1)] (.tup [(.dat 9 (.str r.1)),(.dat 4 (.bool r.2.1))]) [(.box 46 (.dat 46 r.2.2.1)),(.map 76 r.2.2.2)]:=
 FX_of (q:=((.tup [(.dat 9 (.str r.1)),(.dat 4 (.bool r.2.1))]),[(.box 46 (.dat 46 r.2.2.1)),(.map 76 r.2.2.2)])) (E:=env) (m:=m+1) (dec:=d19) jn_ok (hct _) mixed Tryz.func71 rfl (Nat.le_of_ble_eq_true rfl) (fun b hb=>d19_sim hb) ((i19_eq m a0 a1).trans h)
theorem notation_isSpecial_fx (m:Nat) (hct:∀R,CallOK (R:=R) Tryz.prog (ct m)) (a0:ByteArray) {r:Bool} (h:notation_isSpecial (m+1) a0=some r):FX Tryz.prog 72 [(.dat 9 (.str a0))] [] (.dat 4 (.bool r)) []:=
 FX_of (q:=((.dat 4 (.bool r)),[])) (E:=env) (m:=m+1) (dec:=d20) jn_ok (hct _) mixed Tryz.func72 rfl (Nat.le_of_ble_eq_true rfl) (fun b hb=>d20_sim hb) ((notation_isSpecial_eq m a0).trans h)
theorem notation_fromHex_fx (m:Nat) (hct:∀R,CallOK (R:=R) Tryz.prog (ct m)) (a0:Dt) {r:ByteArray×Bool} (h:notation_fromHex (m+1) a0=some r):FX Tryz.prog 85 [(.dat 25 a0)] [] (.tup [(.dat 9 (.str r.1)),(.dat 4 (.bool r.2))]) []:=
 FX_of (q:=((.tup [(.dat 9 (.str r.1)),(.dat 4 (.bool r.2))]),[])) (E:=env) (m:=m+1) (dec:=d23) jn_ok (hct _) mixed Tryz.func85 rfl (Nat.le_of_ble_eq_true rfl) (fun b hb=>d23_sim hb) ((notation_fromHex_eq m a0).trans h)
theorem i22_fx (m:Nat) (hct:∀R,CallOK (R:=R) Tryz.prog (ct m)) (a0:List Dt) {r:Dt×Bool×List Dt} (h:i22 (m+1) a0=some r):FX Tryz.prog 62 [(.row 0)] [(.row 23 a0)] (.tup [(.dat 25 r.1),(.dat 4 (.bool r.2.1))]) [(.row 23 r.2.2)]:=
 FX_of (q:=((.tup [(.dat 25 r.1),(.dat 4 (.bool r.2.1))]),[(.row 23 r.2.2)])) (E:=env) (m:=m+1) (dec:=d22) jn_ok (hct _) mixed Tryz.func62 rfl (Nat.le_of_ble_eq_true rfl) (fun b hb=>d22_sim hb) ((i22_eq m a0).trans h)
theorem i24_fx (m:Nat) (hct:∀R,CallOK (R:=R) Tryz.prog (ct m)) (a0:ByteArray) (a1:Dt) {r:Bool×Dt} (h:i24 (m+1) a0 a1=some r):FX Tryz.prog 47 [(.ptr 0 [] 0),(.dat 9 (.str a0))] [(.box 46 (.dat 46 a1))] (.dat 4 (.bool r.1)) [(.box 46 (.dat 46 r.2))]:=
 FX_of (q:=((.dat 4 (.bool r.1)),[(.box 46 (.dat 46 r.2))])) (E:=env) (m:=m+1) (dec:=d9) jn_ok (hct _) mixed Tryz.func47 rfl (Nat.le_of_ble_eq_true rfl) (fun b hb=>d9_sim hb) ((i24_eq m a0 a1).trans h)
theorem i25_fx (m:Nat) (hct:∀R,CallOK (R:=R) Tryz.prog (ct m)) (a0:Dt) {r:Dt×Bool×Dt} (h:i25 (m+1) a0=some r):FX Tryz.prog 48 [(.ptr 0 [] 0)] [(.box 46 (.dat 46 a0))] (.tup [(.dat 25 r.1),(.dat 4 (.bool r.2.1))]) [(.box 46 (.dat 46 r.2.2))]:=
 FX_of (q:=((.tup [(.dat 25 r.1),(.dat 4 (.bool r.2.1))]),[(.box 46 (.dat 46 r.2.2))])) (E:=env) (m:=m+1) (dec:=d10) jn_ok (hct _) mixed Tryz.func48 rfl (Nat.le_of_ble_eq_true rfl) (fun b hb=>d10_sim hb) ((i25_eq m a0).trans h)
theorem i7_fx (m:Nat) (hct:∀R,CallOK (R:=R) Tryz.prog (ct m)) (a0:Int) (a1:Bool) (a2:Dt) {r:Dt×Bool×Dt} (h:i7 (m+1) a0 a1 a2=some r):FX Tryz.prog 20 [(.ptr 0 [] 0),(.dat 3 (.int a0)),(.dat 4 (.bool a1))] [(.box 46 (.dat 46 a2))] (.tup [(.dat 25 r.1),(.dat 4 (.bool r.2.1))]) [(.box 46 (.dat 46 r.2.2))]:=
 FX_of (q:=((.tup [(.dat 25 r.1),(.dat 4 (.bool r.2.1))]),[(.box 46 (.dat 46 r.2.2))])) (E:=env) (m:=m+1) (dec:=d10) jn_ok (hct _) mixed Tryz.func20 rfl (Nat.le_of_ble_eq_true rfl) (fun b hb=>d10_sim hb) ((i7_eq m a0 a1 a2).trans h)
theorem i17_fx (m:Nat) (hct:∀R,CallOK (R:=R) Tryz.prog (ct m)) (a0:Int) (a1:Dt) {r:Dt×Bool×Dt} (h:i17 (m+1) a0 a1=some r):FX Tryz.prog 45 [(.ptr 0 [] 0),(.dat 3 (.int a0))] [(.box 46 (.dat 46 a1))] (.tup [(.dat 25 r.1),(.dat 4 (.bool r.2.1))]) [(.box 46 (.dat 46 r.2.2))]:=
 FX_of (q:=((.tup [(.dat 25 r.1),(.dat 4 (.bool r.2.1))]),[(.box 46 (.dat 46 r.2.2))])) (E:=env) (m:=m+1) (dec:=d10) jn_ok (hct _) mixed Tryz.func45 rfl (Nat.le_of_ble_eq_true rfl) (fun b hb=>d10_sim hb) ((i17_eq m a0 a1).trans h)
theorem i18_fx (m:Nat) (hct:∀R,CallOK (R:=R) Tryz.prog (ct m)) (a0:Int) (a1:Dt) {r:Dt×Bool×Dt} (h:i18 (m+1) a0 a1=some r):FX Tryz.prog 46 [(.ptr 0 [] 0),(.dat 3 (.int a0))] [(.box 46 (.dat 46 a1))] (.tup [(.dat 25 r.1),(.dat 4 (.bool r.2.1))]) [(.box 46 (.dat 46 r.2.2))]:=
 FX_of (q:=((.tup [(.dat 25 r.1),(.dat 4 (.bool r.2.1))]),[(.box 46 (.dat 46 r.2.2))])) (E:=env) (m:=m+1) (dec:=d10) jn_ok (hct _) mixed Tryz.func46 rfl (Nat.le_of_ble_eq_true rfl) (fun b hb=>d10_sim hb) ((i18_eq m a0 a1).trans h)
theorem notation_Parse_fx (m:Nat) (hct:∀R,CallOK (R:=R) Tryz.prog (ct m)) (a0:ByteArray) {r:Dt×Int×Int} (h:notation_Parse (m+1) a0=some r):FX Tryz.prog 9 [(.dat 9 (.str a0))] [] (.tup [(.dat 25 r.1),(.dat 3 (.int r.2.1)),(.dat 28 (.int r.2.2))]) []:=
 FX_of (q:=((.tup [(.dat 25 r.1),(.dat 3 (.int r.2.1)),(.dat 28 (.int r.2.2))]),[])) (E:=env) (m:=m+1) (dec:=d2) jn_ok (hct _) mixed Tryz.func9 rfl (Nat.le_of_ble_eq_true rfl) (fun b hb=>d2_sim hb) ((notation_Parse_eq m a0).trans h)
theorem i27_fx (m:Nat) (hct:∀R,CallOK (R:=R) Tryz.prog (ct m)) (a0:Dt) {r:Dt} (h:i27 (m+1) a0=some r):FX Tryz.prog 22 [(.ptr 0 [] 0)] [(.box 51 (.dat 51 a0))] (.tup []) [(.box 51 (.dat 51 r))]:=
 FX_of (q:=((.tup []),[(.box 51 (.dat 51 r))])) (E:=env) (m:=m+1) (dec:=d27) jn_ok (hct _) mixed Tryz.func22 rfl (Nat.le_of_ble_eq_true rfl) (fun b hb=>d27_sim hb) ((i27_eq m a0).trans h)
theorem i29_fx (m:Nat) (hct:∀R,CallOK (R:=R) Tryz.prog (ct m)) (a0:Dt) {r:Int×Dt} (h:i29 (m+1) a0=some r):FX Tryz.prog 50 [(.ptr 0 [] 0)] [(.box 51 (.dat 51 a0))] (.dat 5 (.int r.1)) [(.box 51 (.dat 51 r.2))]:=
 FX_of (q:=((.dat 5 (.int r.1)),[(.box 51 (.dat 51 r.2))])) (E:=env) (m:=m+1) (dec:=d29) jn_ok (hct _) mixed Tryz.func50 rfl (Nat.le_of_ble_eq_true rfl) (fun b hb=>d29_sim hb) ((i29_eq m a0).trans h)
theorem ref05_opens_fx (m:Nat) (hct:∀R,CallOK (R:=R) Tryz.prog (ct m)) (a0:Int) {r:Bool} (h:ref05_opens (m+1) a0=some r):FX Tryz.prog 49 [(.dat 5 (.int a0))] [] (.dat 4 (.bool r)) []:=
 FX_of (q:=((.dat 4 (.bool r)),[])) (E:=env) (m:=m+1) (dec:=d20) jn_ok (hct _) mixed Tryz.func49 rfl (Nat.le_of_ble_eq_true rfl) (fun b hb=>d20_sim hb) ((ref05_opens_eq m a0).trans h)
theorem i31_fx (m:Nat) (hct:∀R,CallOK (R:=R) Tryz.prog (ct m)) (a0 a1:Int) (a2:Dt) {r:Dt} (h:i31 (m+1) a0 a1 a2=some r):FX Tryz.prog 24 [(.ptr 0 [] 0),(.dat 28 (.int a0)),(.dat 3 (.int a1))] [(.box 51 (.dat 51 a2))] (.tup []) [(.box 51 (.dat 51 r))]:=
 FX_of (q:=((.tup []),[(.box 51 (.dat 51 r))])) (E:=env) (m:=m+1) (dec:=d27) jn_ok (hct _) mixed Tryz.func24 rfl (Nat.le_of_ble_eq_true rfl) (fun b hb=>d27_sim hb) ((i31_eq m a0 a1 a2).trans h)
theorem i32_fx (m:Nat) (hct:∀R,CallOK (R:=R) Tryz.prog (ct m)) (a0 a1:Int) (a2:Dt) {r:Dt} (h:i32 (m+1) a0 a1 a2=some r):FX Tryz.prog 51 [(.ptr 0 [] 0),(.dat 3 (.int a0)),(.dat 3 (.int a1))] [(.box 51 (.dat 51 a2))] (.tup []) [(.box 51 (.dat 51 r))]:=
 FX_of (q:=((.tup []),[(.box 51 (.dat 51 r))])) (E:=env) (m:=m+1) (dec:=d27) jn_ok (hct _) mixed Tryz.func51 rfl (Nat.le_of_ble_eq_true rfl) (fun b hb=>d27_sim hb) ((i32_eq m a0 a1 a2).trans h)
theorem i34_fx (m:Nat) (hct:∀R,CallOK (R:=R) Tryz.prog (ct m)) (a0:Int) (a1:Dt) {r:Dt} (h:i34 (m+1) a0 a1=some r):FX Tryz.prog 74 [(.ptr 0 [] 0),(.dat 5 (.int a0))] [(.box 51 (.dat 51 a1))] (.tup []) [(.box 51 (.dat 51 r))]:=
 FX_of (q:=((.tup []),[(.box 51 (.dat 51 r))])) (E:=env) (m:=m+1) (dec:=d27) jn_ok (hct _) mixed Tryz.func74 rfl (Nat.le_of_ble_eq_true rfl) (fun b hb=>d27_sim hb) ((i34_eq m a0 a1).trans h)
theorem ref05_utf_fx (m:Nat) (hct:∀R,CallOK (R:=R) Tryz.prog (ct m)) (a0:Int) {r:ByteArray} (h:ref05_utf (m+1) a0=some r):FX Tryz.prog 124 [(.dat 3 (.int a0))] [] (.dat 9 (.str r)) []:=
 FX_of (q:=((.dat 9 (.str r)),[])) (E:=env) (m:=m+1) (dec:=d41) jn_ok (hct _) mixed Tryz.func124 rfl (Nat.le_of_ble_eq_true rfl) (fun b hb=>d41_sim hb) ((ref05_utf_eq m a0).trans h)
theorem ref05_Label_fx (m:Nat) (hct:∀R,CallOK (R:=R) Tryz.prog (ct m)) (a0:ByteArray) {r:Bool} (h:ref05_Label (m+1) a0=some r):FX Tryz.prog 66 [(.dat 9 (.str a0))] [] (.dat 4 (.bool r)) []:=
 FX_of (q:=((.dat 4 (.bool r)),[])) (E:=env) (m:=m+1) (dec:=d20) jn_ok (hct _) mixed Tryz.func66 rfl (Nat.le_of_ble_eq_true rfl) (fun b hb=>d20_sim hb) ((ref05_Label_eq m a0).trans h)
theorem i46_fx (m:Nat) (hct:∀R,CallOK (R:=R) Tryz.prog (ct m)) (a0:ByteArray) (a1 a2:Dt) {r:Dt×Dt} (h:i46 (m+1) a0 a1 a2=some r):FX Tryz.prog 76 [(.ptr 0 [] 0),(.dat 9 (.str a0)),(.dat 25 a1)] [(.box 51 (.dat 51 a2))] (.dat 25 r.1) [(.box 51 (.dat 51 r.2))]:=
 FX_of (q:=((.dat 25 r.1),[(.box 51 (.dat 51 r.2))])) (E:=env) (m:=m+1) (dec:=d46) jn_ok (hct _) mixed Tryz.func76 rfl (Nat.le_of_ble_eq_true rfl) (fun b hb=>d46_sim hb) ((i46_eq m a0 a1 a2).trans h)
theorem i48_fx (m:Nat) (hct:∀R,CallOK (R:=R) Tryz.prog (ct m)) (a0:Dt) {r:Dt×Dt} (h:i48 (m+1) a0=some r):FX Tryz.prog 78 [(.ptr 0 [] 0)] [(.box 51 (.dat 51 a0))] (.dat 25 r.1) [(.box 51 (.dat 51 r.2))]:=
 FX_of (q:=((.dat 25 r.1),[(.box 51 (.dat 51 r.2))])) (E:=env) (m:=m+1) (dec:=d46) jn_ok (hct _) mixed Tryz.func78 rfl (Nat.le_of_ble_eq_true rfl) (fun b hb=>d46_sim hb) ((i48_eq m a0).trans h)
theorem ref02_Same_fx (m:Nat) (hct:∀R,CallOK (R:=R) Tryz.prog (ct m)) (a0 a1:Dt) {r:Bool} (h:ref02_Same (m+1) a0 a1=some r):FX Tryz.prog 25 [(.dat 25 a0),(.dat 25 a1)] [] (.dat 4 (.bool r)) []:=
 FX_of (q:=((.dat 4 (.bool r)),[])) (E:=env) (m:=m+1) (dec:=d20) jn_ok (hct _) mixed Tryz.func25 rfl (Nat.le_of_ble_eq_true rfl) (fun b hb=>d20_sim hb) ((ref02_Same_eq m a0 a1).trans h)
theorem ref05_Same_fx (m:Nat) (hct:∀R,CallOK (R:=R) Tryz.prog (ct m)) (a0 a1:Dt) {r:Bool} (h:ref05_Same (m+1) a0 a1=some r):FX Tryz.prog 11 [(.dat 25 a0),(.dat 25 a1)] [] (.dat 4 (.bool r)) []:=
 FX_of (q:=((.dat 4 (.bool r)),[])) (E:=env) (m:=m+1) (dec:=d20) jn_ok (hct _) mixed Tryz.func11 rfl (Nat.le_of_ble_eq_true rfl) (fun b hb=>d20_sim hb) ((ref05_Same_eq m a0 a1).trans h)
theorem ref05_place_fx (m:Nat) (hct:∀R,CallOK (R:=R) Tryz.prog (ct m)) (a0:Int) {r:Int} (h:ref05_place (m+1) a0=some r):FX Tryz.prog 88 [(.dat 5 (.int a0))] [] (.dat 3 (.int r)) []:=
 FX_of (q:=((.dat 3 (.int r)),[])) (E:=env) (m:=m+1) (dec:=d50) jn_ok (hct _) mixed Tryz.func88 rfl (Nat.le_of_ble_eq_true rfl) (fun b hb=>d50_sim hb) ((ref05_place_eq m a0).trans h)
theorem ref05_hexadecimal_fx (m:Nat) (hct:∀R,CallOK (R:=R) Tryz.prog (ct m)) (a0:Int) {r:Int} (h:ref05_hexadecimal (m+1) a0=some r):FX Tryz.prog 123 [(.dat 5 (.int a0))] [] (.dat 3 (.int r)) []:=
 FX_of (q:=((.dat 3 (.int r)),[])) (E:=env) (m:=m+1) (dec:=d50) jn_ok (hct _) mixed Tryz.func123 rfl (Nat.le_of_ble_eq_true rfl) (fun b hb=>d50_sim hb) ((ref05_hexadecimal_eq m a0).trans h)
theorem i39_fx (m:Nat) (hct:∀R,CallOK (R:=R) Tryz.prog (ct m)) (a0:Dt) {r:ByteArray×Dt} (h:i39 (m+1) a0=some r):FX Tryz.prog 110 [(.ptr 0 [] 0)] [(.box 51 (.dat 51 a0))] (.dat 9 (.str r.1)) [(.box 51 (.dat 51 r.2))]:=
 FX_of (q:=((.dat 9 (.str r.1)),[(.box 51 (.dat 51 r.2))])) (E:=env) (m:=m+1) (dec:=d39) jn_ok (hct _) mixed Tryz.func110 rfl (Nat.le_of_ble_eq_true rfl) (fun b hb=>d39_sim hb) ((i39_eq m a0).trans h)
theorem i38_fx (m:Nat) (hct:∀R,CallOK (R:=R) Tryz.prog (ct m)) (a0:Dt) {r:ByteArray×Dt} (h:i38 (m+1) a0=some r):FX Tryz.prog 94 [(.ptr 0 [] 0)] [(.box 51 (.dat 51 a0))] (.dat 9 (.str r.1)) [(.box 51 (.dat 51 r.2))]:=
 FX_of (q:=((.dat 9 (.str r.1)),[(.box 51 (.dat 51 r.2))])) (E:=env) (m:=m+1) (dec:=d39) jn_ok (hct _) mixed Tryz.func94 rfl (Nat.le_of_ble_eq_true rfl) (fun b hb=>d39_sim hb) ((i38_eq m a0).trans h)
theorem i37_fx (m:Nat) (hct:∀R,CallOK (R:=R) Tryz.prog (ct m)) (a0:Dt) {r:ByteArray×Dt} (h:i37 (m+1) a0=some r):FX Tryz.prog 77 [(.ptr 0 [] 0)] [(.box 51 (.dat 51 a0))] (.dat 9 (.str r.1)) [(.box 51 (.dat 51 r.2))]:=
 FX_of (q:=((.dat 9 (.str r.1)),[(.box 51 (.dat 51 r.2))])) (E:=env) (m:=m+1) (dec:=d39) jn_ok (hct _) mixed Tryz.func77 rfl (Nat.le_of_ble_eq_true rfl) (fun b hb=>d39_sim hb) ((i37_eq m a0).trans h)
theorem i36_fx (m:Nat) (hct:∀R,CallOK (R:=R) Tryz.prog (ct m)) (a0:Dt) (a1:List Dt) {r:ByteArray×Dt×List Dt} (h:i36 (m+1) a0 a1=some r):FX Tryz.prog 75 [(.ptr 0 [] 0),(.row 1)] [(.box 51 (.dat 51 a0)),(.row 23 a1)] (.dat 9 (.str r.1)) [(.box 51 (.dat 51 r.2.1)),(.row 23 r.2.2)]:=
 FX_of (q:=((.dat 9 (.str r.1)),[(.box 51 (.dat 51 r.2.1)),(.row 23 r.2.2)])) (E:=env) (m:=m+1) (dec:=d36) jn_ok (hct _) mixed Tryz.func75 rfl (Nat.le_of_ble_eq_true rfl) (fun b hb=>d36_sim hb) ((i36_eq m a0 a1).trans h)
theorem ref05_unhex_fx (m:Nat) (hct:∀R,CallOK (R:=R) Tryz.prog (ct m)) (a0:ByteArray) {r:ByteArray×Bool} (h:ref05_unhex (m+1) a0=some r):FX Tryz.prog 67 [(.dat 9 (.str a0))] [] (.tup [(.dat 9 (.str r.1)),(.dat 4 (.bool r.2))]) []:=
 FX_of (q:=((.tup [(.dat 9 (.str r.1)),(.dat 4 (.bool r.2))]),[])) (E:=env) (m:=m+1) (dec:=d23) jn_ok (hct _) mixed Tryz.func67 rfl (Nat.le_of_ble_eq_true rfl) (fun b hb=>d23_sim hb) ((ref05_unhex_eq m a0).trans h)
theorem i43_fx (m:Nat) (hct:∀R,CallOK (R:=R) Tryz.prog (ct m)) (a0:List Dt) {r:Dt×Bool×List Dt} (h:i43 (m+1) a0=some r):FX Tryz.prog 38 [(.row 0)] [(.row 23 a0)] (.tup [(.dat 25 r.1),(.dat 4 (.bool r.2.1))]) [(.row 23 r.2.2)]:=
 FX_of (q:=((.tup [(.dat 25 r.1),(.dat 4 (.bool r.2.1))]),[(.row 23 r.2.2)])) (E:=env) (m:=m+1) (dec:=d22) jn_ok (hct _) mixed Tryz.func38 rfl (Nat.le_of_ble_eq_true rfl) (fun b hb=>d22_sim hb) ((i43_eq m a0).trans h)
theorem ref01_Parts_fx (m:Nat) (hct:∀R,CallOK (R:=R) Tryz.prog (ct m)) (a0:Dt) {r:List Dt} (h:ref01_Parts (m+1) a0=some r):FX Tryz.prog 86 [(.dat 25 a0)] [] (.dat 22 (.lst r)) []:=
 FX_of (q:=((.dat 22 (.lst r)),[])) (E:=env) (m:=m+1) (dec:=d58) jn_ok (hct _) mixed Tryz.func86 rfl (Nat.le_of_ble_eq_true rfl) (fun b hb=>d58_sim hb) ((ref01_Parts_eq m a0).trans h)
theorem ref01_levels_fx (m:Nat) (hct:∀R,CallOK (R:=R) Tryz.prog (ct m)) (a0:Dt) (a1:Int) {r:Int} (h:ref01_levels (m+1) a0 a1=some r):FX Tryz.prog 63 [(.dat 25 a0),(.dat 3 (.int a1))] [] (.dat 3 (.int r)) []:=
 FX_of (q:=((.dat 3 (.int r)),[])) (E:=env) (m:=m+1) (dec:=d50) jn_ok (hct _) mixed Tryz.func63 rfl (Nat.le_of_ble_eq_true rfl) (fun b hb=>d50_sim hb) ((ref01_levels_eq m a0 a1).trans h)
theorem ref01_Depth_fx (m:Nat) (hct:∀R,CallOK (R:=R) Tryz.prog (ct m)) (a0:Dt) {r:Int} (h:ref01_Depth (m+1) a0=some r):FX Tryz.prog 35 [(.dat 25 a0)] [] (.dat 3 (.int r)) []:=
 FX_of (q:=((.dat 3 (.int r)),[])) (E:=env) (m:=m+1) (dec:=d50) jn_ok (hct _) mixed Tryz.func35 rfl (Nat.le_of_ble_eq_true rfl) (fun b hb=>d50_sim hb) ((ref01_Depth_eq m a0).trans h)
theorem ref01_count_fx (m:Nat) (hct:∀R,CallOK (R:=R) Tryz.prog (ct m)) (a0:Dt) (a1:Int) {r:Int} (h:ref01_count (m+1) a0 a1=some r):FX Tryz.prog 64 [(.dat 25 a0),(.dat 3 (.int a1))] [] (.dat 3 (.int r)) []:=
 FX_of (q:=((.dat 3 (.int r)),[])) (E:=env) (m:=m+1) (dec:=d50) jn_ok (hct _) mixed Tryz.func64 rfl (Nat.le_of_ble_eq_true rfl) (fun b hb=>d50_sim hb) ((ref01_count_eq m a0 a1).trans h)
theorem ref01_Nodes_fx (m:Nat) (hct:∀R,CallOK (R:=R) Tryz.prog (ct m)) (a0:Dt) {r:Int} (h:ref01_Nodes (m+1) a0=some r):FX Tryz.prog 36 [(.dat 25 a0)] [] (.dat 3 (.int r)) []:=
 FX_of (q:=((.dat 3 (.int r)),[])) (E:=env) (m:=m+1) (dec:=d50) jn_ok (hct _) mixed Tryz.func36 rfl (Nat.le_of_ble_eq_true rfl) (fun b hb=>d50_sim hb) ((ref01_Nodes_eq m a0).trans h)
theorem ref01_tail_fx (m:Nat) (hct:∀R,CallOK (R:=R) Tryz.prog (ct m)) (a0:ByteArray) (a1 a2:Int) {r:Bool} (h:ref01_tail (m+1) a0 a1 a2=some r):FX Tryz.prog 116 [(.dat 9 (.str a0)),(.dat 3 (.int a1)),(.dat 3 (.int a2))] [] (.dat 4 (.bool r)) []:=
 FX_of (q:=((.dat 4 (.bool r)),[])) (E:=env) (m:=m+1) (dec:=d20) jn_ok (hct _) mixed Tryz.func116 rfl (Nat.le_of_ble_eq_true rfl) (fun b hb=>d20_sim hb) ((ref01_tail_eq m a0 a1 a2).trans h)
theorem ref01_UTF8_fx (m:Nat) (hct:∀R,CallOK (R:=R) Tryz.prog (ct m)) (a0:ByteArray) {r:Bool} (h:ref01_UTF8 (m+1) a0=some r):FX Tryz.prog 101 [(.dat 9 (.str a0))] [] (.dat 4 (.bool r)) []:=
 FX_of (q:=((.dat 4 (.bool r)),[])) (E:=env) (m:=m+1) (dec:=d20) jn_ok (hct _) mixed Tryz.func101 rfl (Nat.le_of_ble_eq_true rfl) (fun b hb=>d20_sim hb) ((ref01_UTF8_eq m a0).trans h)
theorem ref01_Name_fx (m:Nat) (hct:∀R,CallOK (R:=R) Tryz.prog (ct m)) (a0:ByteArray) {r:Bool} (h:ref01_Name (m+1) a0=some r):FX Tryz.prog 117 [(.dat 9 (.str a0))] [] (.dat 4 (.bool r)) []:=
 FX_of (q:=((.dat 4 (.bool r)),[])) (E:=env) (m:=m+1) (dec:=d20) jn_ok (hct _) mixed Tryz.func117 rfl (Nat.le_of_ble_eq_true rfl) (fun b hb=>d20_sim hb) ((ref01_Name_eq m a0).trans h)
theorem ref01_wide_fx (m:Nat) (hct:∀R,CallOK (R:=R) Tryz.prog (ct m)) (a0:ByteArray) {r:Bool} (h:ref01_wide (m+1) a0=some r):FX Tryz.prog 118 [(.dat 9 (.str a0))] [] (.dat 4 (.bool r)) []:=
 FX_of (q:=((.dat 4 (.bool r)),[])) (E:=env) (m:=m+1) (dec:=d20) jn_ok (hct _) mixed Tryz.func118 rfl (Nat.le_of_ble_eq_true rfl) (fun b hb=>d20_sim hb) ((ref01_wide_eq m a0).trans h)
theorem ref01_formed_fx (m:Nat) (hct:∀R,CallOK (R:=R) Tryz.prog (ct m)) (a0:Dt) (a1:Bool) {r:Bool} (h:ref01_formed (m+1) a0 a1=some r):FX Tryz.prog 87 [(.dat 25 a0),(.dat 4 (.bool a1))] [] (.dat 4 (.bool r)) []:=
 FX_of (q:=((.dat 4 (.bool r)),[])) (E:=env) (m:=m+1) (dec:=d20) jn_ok (hct _) mixed Tryz.func87 rfl (Nat.le_of_ble_eq_true rfl) (fun b hb=>d20_sim hb) ((ref01_formed_eq m a0 a1).trans h)
theorem ref01_fields_fx (m:Nat) (hct:∀R,CallOK (R:=R) Tryz.prog (ct m)) (a0:Dt) (a1:Bool) {r:Bool} (h:ref01_fields (m+1) a0 a1=some r):FX Tryz.prog 102 [(.dat 25 a0),(.dat 4 (.bool a1))] [] (.dat 4 (.bool r)) []:=
 FX_of (q:=((.dat 4 (.bool r)),[])) (E:=env) (m:=m+1) (dec:=d20) jn_ok (hct _) mixed Tryz.func102 rfl (Nat.le_of_ble_eq_true rfl) (fun b hb=>d20_sim hb) ((ref01_fields_eq m a0 a1).trans h)
theorem ref01_Valid_fx (m:Nat) (hct:∀R,CallOK (R:=R) Tryz.prog (ct m)) (a0:Dt) {r:Bool} (h:ref01_Valid (m+1) a0=some r):FX Tryz.prog 65 [(.dat 25 a0)] [] (.dat 4 (.bool r)) []:=
 FX_of (q:=((.dat 4 (.bool r)),[])) (E:=env) (m:=m+1) (dec:=d20) jn_ok (hct _) mixed Tryz.func65 rfl (Nat.le_of_ble_eq_true rfl) (fun b hb=>d20_sim hb) ((ref01_Valid_eq m a0).trans h)
theorem i45_fx (m:Nat) (hct:∀R,CallOK (R:=R) Tryz.prog (ct m)) (a0:Dt) {r:Dt×Dt} (h:i45 (m+1) a0=some r):FX Tryz.prog 54 [(.ptr 0 [] 0)] [(.box 51 (.dat 51 a0))] (.dat 25 r.1) [(.box 51 (.dat 51 r.2))]:=
 FX_of (q:=((.dat 25 r.1),[(.box 51 (.dat 51 r.2))])) (E:=env) (m:=m+1) (dec:=d46) jn_ok (hct _) mixed Tryz.func54 rfl (Nat.le_of_ble_eq_true rfl) (fun b hb=>d46_sim hb) ((i45_eq m a0).trans h)
theorem i28_fx (m:Nat) (hct:∀R,CallOK (R:=R) Tryz.prog (ct m)) (a0:Int) (a1:Bool) (a2:Dt) {r:Dt×Dt} (h:i28 (m+1) a0 a1 a2=some r):FX Tryz.prog 23 [(.ptr 0 [] 0),(.dat 3 (.int a0)),(.dat 4 (.bool a1))] [(.box 51 (.dat 51 a2))] (.dat 25 r.1) [(.box 51 (.dat 51 r.2))]:=
 FX_of (q:=((.dat 25 r.1),[(.box 51 (.dat 51 r.2))])) (E:=env) (m:=m+1) (dec:=d46) jn_ok (hct _) mixed Tryz.func23 rfl (Nat.le_of_ble_eq_true rfl) (fun b hb=>d46_sim hb) ((i28_eq m a0 a1 a2).trans h)
theorem i33_fx (m:Nat) (hct:∀R,CallOK (R:=R) Tryz.prog (ct m)) (a0:Int) (a1:Dt) {r:Dt×Dt} (h:i33 (m+1) a0 a1=some r):FX Tryz.prog 52 [(.ptr 0 [] 0),(.dat 3 (.int a0))] [(.box 51 (.dat 51 a1))] (.dat 25 r.1) [(.box 51 (.dat 51 r.2))]:=
 FX_of (q:=((.dat 25 r.1),[(.box 51 (.dat 51 r.2))])) (E:=env) (m:=m+1) (dec:=d46) jn_ok (hct _) mixed Tryz.func52 rfl (Nat.le_of_ble_eq_true rfl) (fun b hb=>d46_sim hb) ((i33_eq m a0 a1).trans h)
theorem i35_fx (m:Nat) (hct:∀R,CallOK (R:=R) Tryz.prog (ct m)) (a0:Int) (a1:Dt) {r:Dt×Dt} (h:i35 (m+1) a0 a1=some r):FX Tryz.prog 53 [(.ptr 0 [] 0),(.dat 3 (.int a0))] [(.box 51 (.dat 51 a1))] (.dat 25 r.1) [(.box 51 (.dat 51 r.2))]:=
 FX_of (q:=((.dat 25 r.1),[(.box 51 (.dat 51 r.2))])) (E:=env) (m:=m+1) (dec:=d46) jn_ok (hct _) mixed Tryz.func53 rfl (Nat.le_of_ble_eq_true rfl) (fun b hb=>d46_sim hb) ((i35_eq m a0 a1).trans h)
theorem ref05_Parse_fx (m:Nat) (hct:∀R,CallOK (R:=R) Tryz.prog (ct m)) (a0:ByteArray) {r:Dt×Int×Int} (h:ref05_Parse (m+1) a0=some r):FX Tryz.prog 10 [(.dat 9 (.str a0))] [] (.tup [(.dat 25 r.1),(.dat 3 (.int r.2.1)),(.dat 28 (.int r.2.2))]) []:=
 FX_of (q:=((.tup [(.dat 25 r.1),(.dat 3 (.int r.2.1)),(.dat 28 (.int r.2.2))]),[])) (E:=env) (m:=m+1) (dec:=d2) jn_ok (hct _) mixed Tryz.func10 rfl (Nat.le_of_ble_eq_true rfl) (fun b hb=>d2_sim hb) ((ref05_Parse_eq m a0).trans h)
theorem law05_NotationParses_fx (m:Nat) (hct:∀R,CallOK (R:=R) Tryz.prog (ct m)) (a0:ByteArray) {r:Bool} (h:law05_NotationParses (m+1) a0=some r):FX Tryz.prog 4 [(.dat 9 (.str a0))] [] (.dat 4 (.bool r)) []:=
 FX_of (q:=((.dat 4 (.bool r)),[])) (E:=env) (m:=m+1) (dec:=d20) jn_ok (hct _) mixed Tryz.func4 rfl (Nat.le_of_ble_eq_true rfl) (fun b hb=>d20_sim hb) ((law05_NotationParses_eq m a0).trans h)
theorem ct4_ok (m:Nat) (hct:∀k,k<m→∀R,CallOK (R:=R) Tryz.prog (ct k)) {R:Type} {args:List AV} {objs:List Ob} {K:Res→Option R} {r:R} (h:ct4 m args objs K=some r):∃q:Res,K q=some r∧FX Tryz.prog 4 args objs q.1 q.2∧HasBody Tryz.prog 4:=by
 unfold ct4 at h
 split at h
 ·rename_i l hl
  obtain⟨x,hx,hk⟩:=Option.bind_eq_some_iff.1 h
  obtain⟨h1,h2⟩:=sel0_ok hl
  cases m with
  |zero=>cases hx
  |succ m=>exact⟨_,hk,(law05_NotationParses_fx m (hct m (Nat.lt_succ_self m)) _ hx).conv h1 h2,⟨_,Tryz.func4,rfl,by decide⟩⟩
 cases h
theorem ct6_ok (m:Nat) (hct:∀k,k<m→∀R,CallOK (R:=R) Tryz.prog (ct k)) {R:Type} {args:List AV} {objs:List Ob} {K:Res→Option R} {r:R} (h:ct6 m args objs K=some r):∃q:Res,K q=some r∧FX Tryz.prog 6 args objs q.1 q.2∧HasBody Tryz.prog 6:=by
 unfold ct6 at h
 split at h
 ·rename_i l hl
  obtain⟨x,hx,hk⟩:=Option.bind_eq_some_iff.1 h
  obtain⟨h1,h2⟩:=sel1_ok hl
  exact⟨_,hk,(awakeC_fx hx).conv h1 h2,⟨_,Tryz.func6,rfl,by decide⟩⟩
 cases h
theorem ct9_ok (m:Nat) (hct:∀k,k<m→∀R,CallOK (R:=R) Tryz.prog (ct k)) {R:Type} {args:List AV} {objs:List Ob} {K:Res→Option R} {r:R} (h:ct9 m args objs K=some r):∃q:Res,K q=some r∧FX Tryz.prog 9 args objs q.1 q.2∧HasBody Tryz.prog 9:=by
 unfold ct9 at h
 split at h
 ·rename_i l hl
  obtain⟨x,hx,hk⟩:=Option.bind_eq_some_iff.1 h
  obtain⟨h1,h2⟩:=sel0_ok hl
  cases m with
  |zero=>cases hx
  |succ m=>exact⟨_,hk,(notation_Parse_fx m (hct m (Nat.lt_succ_self m)) _ hx).conv h1 h2,⟨_,Tryz.func9,rfl,by decide⟩⟩
 cases h
theorem ct10_ok (m:Nat) (hct:∀k,k<m→∀R,CallOK (R:=R) Tryz.prog (ct k)) {R:Type} {args:List AV} {objs:List Ob} {K:Res→Option R} {r:R} (h:ct10 m args objs K=some r):∃q:Res,K q=some r∧FX Tryz.prog 10 args objs q.1 q.2∧HasBody Tryz.prog 10:=by
 unfold ct10 at h
 split at h
 ·rename_i l hl
  obtain⟨x,hx,hk⟩:=Option.bind_eq_some_iff.1 h
  obtain⟨h1,h2⟩:=sel0_ok hl
  cases m with
  |zero=>cases hx
  |succ m=>exact⟨_,hk,(ref05_Parse_fx m (hct m (Nat.lt_succ_self m)) _ hx).conv h1 h2,⟨_,Tryz.func10,rfl,by decide⟩⟩
 cases h
theorem ct11_ok (m:Nat) (hct:∀k,k<m→∀R,CallOK (R:=R) Tryz.prog (ct k)) {R:Type} {args:List AV} {objs:List Ob} {K:Res→Option R} {r:R} (h:ct11 m args objs K=some r):∃q:Res,K q=some r∧FX Tryz.prog 11 args objs q.1 q.2∧HasBody Tryz.prog 11:=by
 unfold ct11 at h
 split at h
 ·rename_i l hl
  obtain⟨x,hx,hk⟩:=Option.bind_eq_some_iff.1 h
  obtain⟨h1,h2⟩:=sel4_ok hl
  cases m with
  |zero=>cases hx
  |succ m=>exact⟨_,hk,(ref05_Same_fx m (hct m (Nat.lt_succ_self m)) _ _ hx).conv h1 h2,⟨_,Tryz.func11,rfl,by decide⟩⟩
 cases h
theorem ct19_ok (m:Nat) (hct:∀k,k<m→∀R,CallOK (R:=R) Tryz.prog (ct k)) {R:Type} {args:List AV} {objs:List Ob} {K:Res→Option R} {r:R} (h:ct19 m args objs K=some r):∃q:Res,K q=some r∧FX Tryz.prog 19 args objs q.1 q.2∧HasBody Tryz.prog 19:=by
 unfold ct19 at h
 split at h
 ·rename_i l hl
  obtain⟨x,hx,hk⟩:=Option.bind_eq_some_iff.1 h
  obtain⟨h1,h2⟩:=sel5_ok hl
  cases m with
  |zero=>cases hx
  |succ m=>exact⟨_,hk,(i5_fx m (hct m (Nat.lt_succ_self m)) _ hx).conv h1 h2,⟨_,Tryz.func19,rfl,by decide⟩⟩
 cases h
theorem ct42_ok (m:Nat) (hct:∀k,k<m→∀R,CallOK (R:=R) Tryz.prog (ct k)) {R:Type} {args:List AV} {objs:List Ob} {K:Res→Option R} {r:R} (h:ct42 m args objs K=some r):∃q:Res,K q=some r∧FX Tryz.prog 42 args objs q.1 q.2∧HasBody Tryz.prog 42:=by
 unfold ct42 at h
 split at h
 ·rename_i l hl
  obtain⟨x,hx,hk⟩:=Option.bind_eq_some_iff.1 h
  obtain⟨h1,h2⟩:=sel5_ok hl
  cases m with
  |zero=>cases hx
  |succ m=>exact⟨_,hk,(i6_fx m (hct m (Nat.lt_succ_self m)) _ hx).conv h1 h2,⟨_,Tryz.func42,rfl,by decide⟩⟩
 cases h
theorem ct20_ok (m:Nat) (hct:∀k,k<m→∀R,CallOK (R:=R) Tryz.prog (ct k)) {R:Type} {args:List AV} {objs:List Ob} {K:Res→Option R} {r:R} (h:ct20 m args objs K=some r):∃q:Res,K q=some r∧FX Tryz.prog 20 args objs q.1 q.2∧HasBody Tryz.prog 20:=by
 unfold ct20 at h
 split at h
 ·rename_i l hl
  obtain⟨x,hx,hk⟩:=Option.bind_eq_some_iff.1 h
  obtain⟨h1,h2⟩:=sel7_ok hl
  cases m with
  |zero=>cases hx
  |succ m=>exact⟨_,hk,(i7_fx m (hct m (Nat.lt_succ_self m)) _ _ _ hx).conv h1 h2,⟨_,Tryz.func20,rfl,by decide⟩⟩
 cases h
theorem ct43_ok (m:Nat) (hct:∀k,k<m→∀R,CallOK (R:=R) Tryz.prog (ct k)) {R:Type} {args:List AV} {objs:List Ob} {K:Res→Option R} {r:R} (h:ct43 m args objs K=some r):∃q:Res,K q=some r∧FX Tryz.prog 43 args objs q.1 q.2∧HasBody Tryz.prog 43:=by
 unfold ct43 at h
 split at h
 ·rename_i l hl
  obtain⟨x,hx,hk⟩:=Option.bind_eq_some_iff.1 h
  obtain⟨h1,h2⟩:=sel8_ok hl
  cases m with
  |zero=>cases hx
  |succ m=>exact⟨_,hk,(i8_fx m (hct m (Nat.lt_succ_self m)) _ _ _ hx).conv h1 h2,⟨_,Tryz.func43,rfl,by decide⟩⟩
 cases h
theorem ct21_ok (m:Nat) (hct:∀k,k<m→∀R,CallOK (R:=R) Tryz.prog (ct k)) {R:Type} {args:List AV} {objs:List Ob} {K:Res→Option R} {r:R} (h:ct21 m args objs K=some r):∃q:Res,K q=some r∧FX Tryz.prog 21 args objs q.1 q.2∧HasBody Tryz.prog 21:=by
 unfold ct21 at h
 split at h
 ·rename_i l hl
  obtain⟨x,hx,hk⟩:=Option.bind_eq_some_iff.1 h
  obtain⟨h1,h2⟩:=sel9_ok hl
  cases m with
  |zero=>cases hx
  |succ m=>exact⟨_,hk,(i9_fx m (hct m (Nat.lt_succ_self m)) _ _ _ hx).conv h1 h2,⟨_,Tryz.func21,rfl,by decide⟩⟩
 cases h
theorem ct44_ok (m:Nat) (hct:∀k,k<m→∀R,CallOK (R:=R) Tryz.prog (ct k)) {R:Type} {args:List AV} {objs:List Ob} {K:Res→Option R} {r:R} (h:ct44 m args objs K=some r):∃q:Res,K q=some r∧FX Tryz.prog 44 args objs q.1 q.2∧HasBody Tryz.prog 44:=by
 unfold ct44 at h
 split at h
 ·rename_i l hl
  obtain⟨x,hx,hk⟩:=Option.bind_eq_some_iff.1 h
  obtain⟨h1,h2⟩:=sel5_ok hl
  cases m with
  |zero=>cases hx
  |succ m=>exact⟨_,hk,(i10_fx m (hct m (Nat.lt_succ_self m)) _ hx).conv h1 h2,⟨_,Tryz.func44,rfl,by decide⟩⟩
 cases h
theorem ct69_ok (m:Nat) (hct:∀k,k<m→∀R,CallOK (R:=R) Tryz.prog (ct k)) {R:Type} {args:List AV} {objs:List Ob} {K:Res→Option R} {r:R} (h:ct69 m args objs K=some r):∃q:Res,K q=some r∧FX Tryz.prog 69 args objs q.1 q.2∧HasBody Tryz.prog 69:=by
 unfold ct69 at h
 split at h
 ·rename_i l hl
  obtain⟨x,hx,hk⟩:=Option.bind_eq_some_iff.1 h
  obtain⟨h1,h2⟩:=sel5_ok hl
  cases m with
  |zero=>cases hx
  |succ m=>exact⟨_,hk,(i11_fx m (hct m (Nat.lt_succ_self m)) _ hx).conv h1 h2,⟨_,Tryz.func69,rfl,by decide⟩⟩
 cases h
theorem ct89_ok (m:Nat) (hct:∀k,k<m→∀R,CallOK (R:=R) Tryz.prog (ct k)) {R:Type} {args:List AV} {objs:List Ob} {K:Res→Option R} {r:R} (h:ct89 m args objs K=some r):∃q:Res,K q=some r∧FX Tryz.prog 89 args objs q.1 q.2∧HasBody Tryz.prog 89:=by
 unfold ct89 at h
 split at h
 ·rename_i l hl
  obtain⟨x,hx,hk⟩:=Option.bind_eq_some_iff.1 h
  obtain⟨h1,h2⟩:=sel5_ok hl
  cases m with
  |zero=>cases hx
  |succ m=>exact⟨_,hk,(i12_fx m (hct m (Nat.lt_succ_self m)) _ hx).conv h1 h2,⟨_,Tryz.func89,rfl,by decide⟩⟩
 cases h
theorem ct103_ok (m:Nat) (hct:∀k,k<m→∀R,CallOK (R:=R) Tryz.prog (ct k)) {R:Type} {args:List AV} {objs:List Ob} {K:Res→Option R} {r:R} (h:ct103 m args objs K=some r):∃q:Res,K q=some r∧FX Tryz.prog 103 args objs q.1 q.2∧HasBody Tryz.prog 103:=by
 unfold ct103 at h
 split at h
 ·rename_i l hl
  obtain⟨x,hx,hk⟩:=Option.bind_eq_some_iff.1 h
  obtain⟨h1,h2⟩:=sel5_ok hl
  cases m with
  |zero=>cases hx
  |succ m=>exact⟨_,hk,(i13_fx m (hct m (Nat.lt_succ_self m)) _ hx).conv h1 h2,⟨_,Tryz.func103,rfl,by decide⟩⟩
 cases h
theorem ct90_ok (m:Nat) (hct:∀k,k<m→∀R,CallOK (R:=R) Tryz.prog (ct k)) {R:Type} {args:List AV} {objs:List Ob} {K:Res→Option R} {r:R} (h:ct90 m args objs K=some r):∃q:Res,K q=some r∧FX Tryz.prog 90 args objs q.1 q.2∧HasBody Tryz.prog 90:=by
 unfold ct90 at h
 split at h
 ·rename_i l hl
  obtain⟨x,hx,hk⟩:=Option.bind_eq_some_iff.1 h
  obtain⟨h1,h2⟩:=sel14_ok hl
  cases m with
  |zero=>cases hx
  |succ m=>exact⟨_,hk,(i14_fx m (hct m (Nat.lt_succ_self m)) _ _ hx).conv h1 h2,⟨_,Tryz.func90,rfl,by decide⟩⟩
 cases h
theorem ct104_ok (m:Nat) (hct:∀k,k<m→∀R,CallOK (R:=R) Tryz.prog (ct k)) {R:Type} {args:List AV} {objs:List Ob} {K:Res→Option R} {r:R} (h:ct104 m args objs K=some r):∃q:Res,K q=some r∧FX Tryz.prog 104 args objs q.1 q.2∧HasBody Tryz.prog 104:=by
 unfold ct104 at h
 split at h
 ·rename_i l hl
  obtain⟨x,hx,hk⟩:=Option.bind_eq_some_iff.1 h
  obtain⟨h1,h2⟩:=sel14_ok hl
  cases m with
  |zero=>cases hx
  |succ m=>exact⟨_,hk,(i15_fx m (hct m (Nat.lt_succ_self m)) _ _ hx).conv h1 h2,⟨_,Tryz.func104,rfl,by decide⟩⟩
 cases h
theorem ct70_ok (m:Nat) (hct:∀k,k<m→∀R,CallOK (R:=R) Tryz.prog (ct k)) {R:Type} {args:List AV} {objs:List Ob} {K:Res→Option R} {r:R} (h:ct70 m args objs K=some r):∃q:Res,K q=some r∧FX Tryz.prog 70 args objs q.1 q.2∧HasBody Tryz.prog 70:=by
 unfold ct70 at h
 split at h
 ·rename_i l hl
  obtain⟨x,hx,hk⟩:=Option.bind_eq_some_iff.1 h
  obtain⟨h1,h2⟩:=sel0_ok hl
  exact⟨_,hk,(ValidString_fx hx).conv h1 h2,⟨_,Tryz.func70,rfl,by decide⟩⟩
 cases h
theorem ct45_ok (m:Nat) (hct:∀k,k<m→∀R,CallOK (R:=R) Tryz.prog (ct k)) {R:Type} {args:List AV} {objs:List Ob} {K:Res→Option R} {r:R} (h:ct45 m args objs K=some r):∃q:Res,K q=some r∧FX Tryz.prog 45 args objs q.1 q.2∧HasBody Tryz.prog 45:=by
 unfold ct45 at h
 split at h
 ·rename_i l hl
  obtain⟨x,hx,hk⟩:=Option.bind_eq_some_iff.1 h
  obtain⟨h1,h2⟩:=sel17_ok hl
  cases m with
  |zero=>cases hx
  |succ m=>exact⟨_,hk,(i17_fx m (hct m (Nat.lt_succ_self m)) _ _ hx).conv h1 h2,⟨_,Tryz.func45,rfl,by decide⟩⟩
 cases h
theorem ct46_ok (m:Nat) (hct:∀k,k<m→∀R,CallOK (R:=R) Tryz.prog (ct k)) {R:Type} {args:List AV} {objs:List Ob} {K:Res→Option R} {r:R} (h:ct46 m args objs K=some r):∃q:Res,K q=some r∧FX Tryz.prog 46 args objs q.1 q.2∧HasBody Tryz.prog 46:=by
 unfold ct46 at h
 split at h
 ·rename_i l hl
  obtain⟨x,hx,hk⟩:=Option.bind_eq_some_iff.1 h
  obtain⟨h1,h2⟩:=sel17_ok hl
  cases m with
  |zero=>cases hx
  |succ m=>exact⟨_,hk,(i18_fx m (hct m (Nat.lt_succ_self m)) _ _ hx).conv h1 h2,⟨_,Tryz.func46,rfl,by decide⟩⟩
 cases h
theorem ct71_ok (m:Nat) (hct:∀k,k<m→∀R,CallOK (R:=R) Tryz.prog (ct k)) {R:Type} {args:List AV} {objs:List Ob} {K:Res→Option R} {r:R} (h:ct71 m args objs K=some r):∃q:Res,K q=some r∧FX Tryz.prog 71 args objs q.1 q.2∧HasBody Tryz.prog 71:=by
 unfold ct71 at h
 split at h
 ·rename_i l hl
  obtain⟨x,hx,hk⟩:=Option.bind_eq_some_iff.1 h
  obtain⟨h1,h2⟩:=sel19_ok hl
  cases m with
  |zero=>cases hx
  |succ m=>exact⟨_,hk,(i19_fx m (hct m (Nat.lt_succ_self m)) _ _ hx).conv h1 h2,⟨_,Tryz.func71,rfl,by decide⟩⟩
 cases h
theorem ct57_ok (m:Nat) (hct:∀k,k<m→∀R,CallOK (R:=R) Tryz.prog (ct k)) {R:Type} {args:List AV} {objs:List Ob} {K:Res→Option R} {r:R} (h:ct57 m args objs K=some r):∃q:Res,K q=some r∧FX Tryz.prog 57 args objs q.1 q.2∧HasBody Tryz.prog 57:=by
 unfold ct57 at h
 split at h
 ·rename_i l hl
  obtain⟨x,hx,hk⟩:=Option.bind_eq_some_iff.1 h
  obtain⟨h1,h2⟩:=sel0_ok hl
  cases m with
  |zero=>cases hx
  |succ m=>exact⟨_,hk,(notation_isField_fx m (hct m (Nat.lt_succ_self m)) _ hx).conv h1 h2,⟨_,Tryz.func57,rfl,by decide⟩⟩
 cases h
theorem ct72_ok (m:Nat) (hct:∀k,k<m→∀R,CallOK (R:=R) Tryz.prog (ct k)) {R:Type} {args:List AV} {objs:List Ob} {K:Res→Option R} {r:R} (h:ct72 m args objs K=some r):∃q:Res,K q=some r∧FX Tryz.prog 72 args objs q.1 q.2∧HasBody Tryz.prog 72:=by
 unfold ct72 at h
 split at h
 ·rename_i l hl
  obtain⟨x,hx,hk⟩:=Option.bind_eq_some_iff.1 h
  obtain⟨h1,h2⟩:=sel0_ok hl
  cases m with
  |zero=>cases hx
  |succ m=>exact⟨_,hk,(notation_isSpecial_fx m (hct m (Nat.lt_succ_self m)) _ hx).conv h1 h2,⟨_,Tryz.func72,rfl,by decide⟩⟩
 cases h
theorem ct62_ok (m:Nat) (hct:∀k,k<m→∀R,CallOK (R:=R) Tryz.prog (ct k)) {R:Type} {args:List AV} {objs:List Ob} {K:Res→Option R} {r:R} (h:ct62 m args objs K=some r):∃q:Res,K q=some r∧FX Tryz.prog 62 args objs q.1 q.2∧HasBody Tryz.prog 62:=by
 unfold ct62 at h
 split at h
 ·rename_i l hl
  obtain⟨x,hx,hk⟩:=Option.bind_eq_some_iff.1 h
  obtain⟨h1,h2⟩:=sel22_ok hl
  cases m with
  |zero=>cases hx
  |succ m=>exact⟨_,hk,(i22_fx m (hct m (Nat.lt_succ_self m)) _ hx).conv h1 h2,⟨_,Tryz.func62,rfl,by decide⟩⟩
 cases h
theorem ct85_ok (m:Nat) (hct:∀k,k<m→∀R,CallOK (R:=R) Tryz.prog (ct k)) {R:Type} {args:List AV} {objs:List Ob} {K:Res→Option R} {r:R} (h:ct85 m args objs K=some r):∃q:Res,K q=some r∧FX Tryz.prog 85 args objs q.1 q.2∧HasBody Tryz.prog 85:=by
 unfold ct85 at h
 split at h
 ·rename_i l hl
  obtain⟨x,hx,hk⟩:=Option.bind_eq_some_iff.1 h
  obtain⟨h1,h2⟩:=sel23_ok hl
  cases m with
  |zero=>cases hx
  |succ m=>exact⟨_,hk,(notation_fromHex_fx m (hct m (Nat.lt_succ_self m)) _ hx).conv h1 h2,⟨_,Tryz.func85,rfl,by decide⟩⟩
 cases h
theorem ct47_ok (m:Nat) (hct:∀k,k<m→∀R,CallOK (R:=R) Tryz.prog (ct k)) {R:Type} {args:List AV} {objs:List Ob} {K:Res→Option R} {r:R} (h:ct47 m args objs K=some r):∃q:Res,K q=some r∧FX Tryz.prog 47 args objs q.1 q.2∧HasBody Tryz.prog 47:=by
 unfold ct47 at h
 split at h
 ·rename_i l hl
  obtain⟨x,hx,hk⟩:=Option.bind_eq_some_iff.1 h
  obtain⟨h1,h2⟩:=sel24_ok hl
  cases m with
  |zero=>cases hx
  |succ m=>exact⟨_,hk,(i24_fx m (hct m (Nat.lt_succ_self m)) _ _ hx).conv h1 h2,⟨_,Tryz.func47,rfl,by decide⟩⟩
 cases h
theorem ct48_ok (m:Nat) (hct:∀k,k<m→∀R,CallOK (R:=R) Tryz.prog (ct k)) {R:Type} {args:List AV} {objs:List Ob} {K:Res→Option R} {r:R} (h:ct48 m args objs K=some r):∃q:Res,K q=some r∧FX Tryz.prog 48 args objs q.1 q.2∧HasBody Tryz.prog 48:=by
 unfold ct48 at h
 split at h
 ·rename_i l hl
  obtain⟨x,hx,hk⟩:=Option.bind_eq_some_iff.1 h
  obtain⟨h1,h2⟩:=sel5_ok hl
  cases m with
  |zero=>cases hx
  |succ m=>exact⟨_,hk,(i25_fx m (hct m (Nat.lt_succ_self m)) _ hx).conv h1 h2,⟨_,Tryz.func48,rfl,by decide⟩⟩
 cases h
theorem ct73_ok (m:Nat) (hct:∀k,k<m→∀R,CallOK (R:=R) Tryz.prog (ct k)) {R:Type} {args:List AV} {objs:List Ob} {K:Res→Option R} {r:R} (h:ct73 m args objs K=some r):∃q:Res,K q=some r∧FX Tryz.prog 73 args objs q.1 q.2∧HasBody Tryz.prog 73:=by
 unfold ct73 at h
 split at h
 ·rename_i l hl
  obtain⟨x,hx,hk⟩:=Option.bind_eq_some_iff.1 h
  obtain⟨h1,h2⟩:=sel26_ok hl
  exact⟨_,hk,(ParseInt_fx hx).conv h1 h2,⟨_,Tryz.func73,rfl,by decide⟩⟩
 cases h
theorem ct22_ok (m:Nat) (hct:∀k,k<m→∀R,CallOK (R:=R) Tryz.prog (ct k)) {R:Type} {args:List AV} {objs:List Ob} {K:Res→Option R} {r:R} (h:ct22 m args objs K=some r):∃q:Res,K q=some r∧FX Tryz.prog 22 args objs q.1 q.2∧HasBody Tryz.prog 22:=by
 unfold ct22 at h
 split at h
 ·rename_i l hl
  obtain⟨x,hx,hk⟩:=Option.bind_eq_some_iff.1 h
  obtain⟨h1,h2⟩:=sel27_ok hl
  cases m with
  |zero=>cases hx
  |succ m=>exact⟨_,hk,(i27_fx m (hct m (Nat.lt_succ_self m)) _ hx).conv h1 h2,⟨_,Tryz.func22,rfl,by decide⟩⟩
 cases h
theorem ct23_ok (m:Nat) (hct:∀k,k<m→∀R,CallOK (R:=R) Tryz.prog (ct k)) {R:Type} {args:List AV} {objs:List Ob} {K:Res→Option R} {r:R} (h:ct23 m args objs K=some r):∃q:Res,K q=some r∧FX Tryz.prog 23 args objs q.1 q.2∧HasBody Tryz.prog 23:=by
 unfold ct23 at h
 split at h
 ·rename_i l hl
  obtain⟨x,hx,hk⟩:=Option.bind_eq_some_iff.1 h
  obtain⟨h1,h2⟩:=sel28_ok hl
  cases m with
  |zero=>cases hx
  |succ m=>exact⟨_,hk,(i28_fx m (hct m (Nat.lt_succ_self m)) _ _ _ hx).conv h1 h2,⟨_,Tryz.func23,rfl,by decide⟩⟩
 cases h
theorem ct50_ok (m:Nat) (hct:∀k,k<m→∀R,CallOK (R:=R) Tryz.prog (ct k)) {R:Type} {args:List AV} {objs:List Ob} {K:Res→Option R} {r:R} (h:ct50 m args objs K=some r):∃q:Res,K q=some r∧FX Tryz.prog 50 args objs q.1 q.2∧HasBody Tryz.prog 50:=by
 unfold ct50 at h
 split at h
 ·rename_i l hl
  obtain⟨x,hx,hk⟩:=Option.bind_eq_some_iff.1 h
  obtain⟨h1,h2⟩:=sel27_ok hl
  cases m with
  |zero=>cases hx
  |succ m=>exact⟨_,hk,(i29_fx m (hct m (Nat.lt_succ_self m)) _ hx).conv h1 h2,⟨_,Tryz.func50,rfl,by decide⟩⟩
 cases h
theorem ct49_ok (m:Nat) (hct:∀k,k<m→∀R,CallOK (R:=R) Tryz.prog (ct k)) {R:Type} {args:List AV} {objs:List Ob} {K:Res→Option R} {r:R} (h:ct49 m args objs K=some r):∃q:Res,K q=some r∧FX Tryz.prog 49 args objs q.1 q.2∧HasBody Tryz.prog 49:=by
 unfold ct49 at h
 split at h
 ·rename_i l hl
  obtain⟨x,hx,hk⟩:=Option.bind_eq_some_iff.1 h
  obtain⟨h1,h2⟩:=sel30_ok hl
  cases m with
  |zero=>cases hx
  |succ m=>exact⟨_,hk,(ref05_opens_fx m (hct m (Nat.lt_succ_self m)) _ hx).conv h1 h2,⟨_,Tryz.func49,rfl,by decide⟩⟩
 cases h
theorem ct24_ok (m:Nat) (hct:∀k,k<m→∀R,CallOK (R:=R) Tryz.prog (ct k)) {R:Type} {args:List AV} {objs:List Ob} {K:Res→Option R} {r:R} (h:ct24 m args objs K=some r):∃q:Res,K q=some r∧FX Tryz.prog 24 args objs q.1 q.2∧HasBody Tryz.prog 24:=by
 unfold ct24 at h
 split at h
 ·rename_i l hl
  obtain⟨x,hx,hk⟩:=Option.bind_eq_some_iff.1 h
  obtain⟨h1,h2⟩:=sel31_ok hl
  cases m with
  |zero=>cases hx
  |succ m=>exact⟨_,hk,(i31_fx m (hct m (Nat.lt_succ_self m)) _ _ _ hx).conv h1 h2,⟨_,Tryz.func24,rfl,by decide⟩⟩
 cases h
theorem ct51_ok (m:Nat) (hct:∀k,k<m→∀R,CallOK (R:=R) Tryz.prog (ct k)) {R:Type} {args:List AV} {objs:List Ob} {K:Res→Option R} {r:R} (h:ct51 m args objs K=some r):∃q:Res,K q=some r∧FX Tryz.prog 51 args objs q.1 q.2∧HasBody Tryz.prog 51:=by
 unfold ct51 at h
 split at h
 ·rename_i l hl
  obtain⟨x,hx,hk⟩:=Option.bind_eq_some_iff.1 h
  obtain⟨h1,h2⟩:=sel32_ok hl
  cases m with
  |zero=>cases hx
  |succ m=>exact⟨_,hk,(i32_fx m (hct m (Nat.lt_succ_self m)) _ _ _ hx).conv h1 h2,⟨_,Tryz.func51,rfl,by decide⟩⟩
 cases h
theorem ct52_ok (m:Nat) (hct:∀k,k<m→∀R,CallOK (R:=R) Tryz.prog (ct k)) {R:Type} {args:List AV} {objs:List Ob} {K:Res→Option R} {r:R} (h:ct52 m args objs K=some r):∃q:Res,K q=some r∧FX Tryz.prog 52 args objs q.1 q.2∧HasBody Tryz.prog 52:=by
 unfold ct52 at h
 split at h
 ·rename_i l hl
  obtain⟨x,hx,hk⟩:=Option.bind_eq_some_iff.1 h
  obtain⟨h1,h2⟩:=sel33_ok hl
  cases m with
  |zero=>cases hx
  |succ m=>exact⟨_,hk,(i33_fx m (hct m (Nat.lt_succ_self m)) _ _ hx).conv h1 h2,⟨_,Tryz.func52,rfl,by decide⟩⟩
 cases h
theorem ct74_ok (m:Nat) (hct:∀k,k<m→∀R,CallOK (R:=R) Tryz.prog (ct k)) {R:Type} {args:List AV} {objs:List Ob} {K:Res→Option R} {r:R} (h:ct74 m args objs K=some r):∃q:Res,K q=some r∧FX Tryz.prog 74 args objs q.1 q.2∧HasBody Tryz.prog 74:=by
 unfold ct74 at h
 split at h
 ·rename_i l hl
  obtain⟨x,hx,hk⟩:=Option.bind_eq_some_iff.1 h
  obtain⟨h1,h2⟩:=sel34_ok hl
  cases m with
  |zero=>cases hx
  |succ m=>exact⟨_,hk,(i34_fx m (hct m (Nat.lt_succ_self m)) _ _ hx).conv h1 h2,⟨_,Tryz.func74,rfl,by decide⟩⟩
 cases h
theorem ct53_ok (m:Nat) (hct:∀k,k<m→∀R,CallOK (R:=R) Tryz.prog (ct k)) {R:Type} {args:List AV} {objs:List Ob} {K:Res→Option R} {r:R} (h:ct53 m args objs K=some r):∃q:Res,K q=some r∧FX Tryz.prog 53 args objs q.1 q.2∧HasBody Tryz.prog 53:=by
 unfold ct53 at h
 split at h
 ·rename_i l hl
  obtain⟨x,hx,hk⟩:=Option.bind_eq_some_iff.1 h
  obtain⟨h1,h2⟩:=sel33_ok hl
  cases m with
  |zero=>cases hx
  |succ m=>exact⟨_,hk,(i35_fx m (hct m (Nat.lt_succ_self m)) _ _ hx).conv h1 h2,⟨_,Tryz.func53,rfl,by decide⟩⟩
 cases h
theorem ct75_ok (m:Nat) (hct:∀k,k<m→∀R,CallOK (R:=R) Tryz.prog (ct k)) {R:Type} {args:List AV} {objs:List Ob} {K:Res→Option R} {r:R} (h:ct75 m args objs K=some r):∃q:Res,K q=some r∧FX Tryz.prog 75 args objs q.1 q.2∧HasBody Tryz.prog 75:=by
 unfold ct75 at h
 split at h
 ·rename_i l hl
  obtain⟨x,hx,hk⟩:=Option.bind_eq_some_iff.1 h
  obtain⟨h1,h2⟩:=sel36_ok hl
  cases m with
  |zero=>cases hx
  |succ m=>exact⟨_,hk,(i36_fx m (hct m (Nat.lt_succ_self m)) _ _ hx).conv h1 h2,⟨_,Tryz.func75,rfl,by decide⟩⟩
 cases h
theorem ct77_ok (m:Nat) (hct:∀k,k<m→∀R,CallOK (R:=R) Tryz.prog (ct k)) {R:Type} {args:List AV} {objs:List Ob} {K:Res→Option R} {r:R} (h:ct77 m args objs K=some r):∃q:Res,K q=some r∧FX Tryz.prog 77 args objs q.1 q.2∧HasBody Tryz.prog 77:=by
 unfold ct77 at h
 split at h
 ·rename_i l hl
  obtain⟨x,hx,hk⟩:=Option.bind_eq_some_iff.1 h
  obtain⟨h1,h2⟩:=sel27_ok hl
  cases m with
  |zero=>cases hx
  |succ m=>exact⟨_,hk,(i37_fx m (hct m (Nat.lt_succ_self m)) _ hx).conv h1 h2,⟨_,Tryz.func77,rfl,by decide⟩⟩
 cases h
theorem ct94_ok (m:Nat) (hct:∀k,k<m→∀R,CallOK (R:=R) Tryz.prog (ct k)) {R:Type} {args:List AV} {objs:List Ob} {K:Res→Option R} {r:R} (h:ct94 m args objs K=some r):∃q:Res,K q=some r∧FX Tryz.prog 94 args objs q.1 q.2∧HasBody Tryz.prog 94:=by
 unfold ct94 at h
 split at h
 ·rename_i l hl
  obtain⟨x,hx,hk⟩:=Option.bind_eq_some_iff.1 h
  obtain⟨h1,h2⟩:=sel27_ok hl
  cases m with
  |zero=>cases hx
  |succ m=>exact⟨_,hk,(i38_fx m (hct m (Nat.lt_succ_self m)) _ hx).conv h1 h2,⟨_,Tryz.func94,rfl,by decide⟩⟩
 cases h
theorem ct110_ok (m:Nat) (hct:∀k,k<m→∀R,CallOK (R:=R) Tryz.prog (ct k)) {R:Type} {args:List AV} {objs:List Ob} {K:Res→Option R} {r:R} (h:ct110 m args objs K=some r):∃q:Res,K q=some r∧FX Tryz.prog 110 args objs q.1 q.2∧HasBody Tryz.prog 110:=by
 unfold ct110 at h
 split at h
 ·rename_i l hl
  obtain⟨x,hx,hk⟩:=Option.bind_eq_some_iff.1 h
  obtain⟨h1,h2⟩:=sel27_ok hl
  cases m with
  |zero=>cases hx
  |succ m=>exact⟨_,hk,(i39_fx m (hct m (Nat.lt_succ_self m)) _ hx).conv h1 h2,⟨_,Tryz.func110,rfl,by decide⟩⟩
 cases h
theorem ct123_ok (m:Nat) (hct:∀k,k<m→∀R,CallOK (R:=R) Tryz.prog (ct k)) {R:Type} {args:List AV} {objs:List Ob} {K:Res→Option R} {r:R} (h:ct123 m args objs K=some r):∃q:Res,K q=some r∧FX Tryz.prog 123 args objs q.1 q.2∧HasBody Tryz.prog 123:=by
 unfold ct123 at h
 split at h
 ·rename_i l hl
  obtain⟨x,hx,hk⟩:=Option.bind_eq_some_iff.1 h
  obtain⟨h1,h2⟩:=sel30_ok hl
  cases m with
  |zero=>cases hx
  |succ m=>exact⟨_,hk,(ref05_hexadecimal_fx m (hct m (Nat.lt_succ_self m)) _ hx).conv h1 h2,⟨_,Tryz.func123,rfl,by decide⟩⟩
 cases h
theorem ct124_ok (m:Nat) (hct:∀k,k<m→∀R,CallOK (R:=R) Tryz.prog (ct k)) {R:Type} {args:List AV} {objs:List Ob} {K:Res→Option R} {r:R} (h:ct124 m args objs K=some r):∃q:Res,K q=some r∧FX Tryz.prog 124 args objs q.1 q.2∧HasBody Tryz.prog 124:=by
 unfold ct124 at h
 split at h
 ·rename_i l hl
  obtain⟨x,hx,hk⟩:=Option.bind_eq_some_iff.1 h
  obtain⟨h1,h2⟩:=sel41_ok hl
  cases m with
  |zero=>cases hx
  |succ m=>exact⟨_,hk,(ref05_utf_fx m (hct m (Nat.lt_succ_self m)) _ hx).conv h1 h2,⟨_,Tryz.func124,rfl,by decide⟩⟩
 cases h
theorem ct66_ok (m:Nat) (hct:∀k,k<m→∀R,CallOK (R:=R) Tryz.prog (ct k)) {R:Type} {args:List AV} {objs:List Ob} {K:Res→Option R} {r:R} (h:ct66 m args objs K=some r):∃q:Res,K q=some r∧FX Tryz.prog 66 args objs q.1 q.2∧HasBody Tryz.prog 66:=by
 unfold ct66 at h
 split at h
 ·rename_i l hl
  obtain⟨x,hx,hk⟩:=Option.bind_eq_some_iff.1 h
  obtain⟨h1,h2⟩:=sel0_ok hl
  cases m with
  |zero=>cases hx
  |succ m=>exact⟨_,hk,(ref05_Label_fx m (hct m (Nat.lt_succ_self m)) _ hx).conv h1 h2,⟨_,Tryz.func66,rfl,by decide⟩⟩
 cases h
theorem ct38_ok (m:Nat) (hct:∀k,k<m→∀R,CallOK (R:=R) Tryz.prog (ct k)) {R:Type} {args:List AV} {objs:List Ob} {K:Res→Option R} {r:R} (h:ct38 m args objs K=some r):∃q:Res,K q=some r∧FX Tryz.prog 38 args objs q.1 q.2∧HasBody Tryz.prog 38:=by
 unfold ct38 at h
 split at h
 ·rename_i l hl
  obtain⟨x,hx,hk⟩:=Option.bind_eq_some_iff.1 h
  obtain⟨h1,h2⟩:=sel22_ok hl
  cases m with
  |zero=>cases hx
  |succ m=>exact⟨_,hk,(i43_fx m (hct m (Nat.lt_succ_self m)) _ hx).conv h1 h2,⟨_,Tryz.func38,rfl,by decide⟩⟩
 cases h
theorem ct67_ok (m:Nat) (hct:∀k,k<m→∀R,CallOK (R:=R) Tryz.prog (ct k)) {R:Type} {args:List AV} {objs:List Ob} {K:Res→Option R} {r:R} (h:ct67 m args objs K=some r):∃q:Res,K q=some r∧FX Tryz.prog 67 args objs q.1 q.2∧HasBody Tryz.prog 67:=by
 unfold ct67 at h
 split at h
 ·rename_i l hl
  obtain⟨x,hx,hk⟩:=Option.bind_eq_some_iff.1 h
  obtain⟨h1,h2⟩:=sel0_ok hl
  cases m with
  |zero=>cases hx
  |succ m=>exact⟨_,hk,(ref05_unhex_fx m (hct m (Nat.lt_succ_self m)) _ hx).conv h1 h2,⟨_,Tryz.func67,rfl,by decide⟩⟩
 cases h
theorem ct54_ok (m:Nat) (hct:∀k,k<m→∀R,CallOK (R:=R) Tryz.prog (ct k)) {R:Type} {args:List AV} {objs:List Ob} {K:Res→Option R} {r:R} (h:ct54 m args objs K=some r):∃q:Res,K q=some r∧FX Tryz.prog 54 args objs q.1 q.2∧HasBody Tryz.prog 54:=by
 unfold ct54 at h
 split at h
 ·rename_i l hl
  obtain⟨x,hx,hk⟩:=Option.bind_eq_some_iff.1 h
  obtain⟨h1,h2⟩:=sel27_ok hl
  cases m with
  |zero=>cases hx
  |succ m=>exact⟨_,hk,(i45_fx m (hct m (Nat.lt_succ_self m)) _ hx).conv h1 h2,⟨_,Tryz.func54,rfl,by decide⟩⟩
 cases h
theorem ct76_ok (m:Nat) (hct:∀k,k<m→∀R,CallOK (R:=R) Tryz.prog (ct k)) {R:Type} {args:List AV} {objs:List Ob} {K:Res→Option R} {r:R} (h:ct76 m args objs K=some r):∃q:Res,K q=some r∧FX Tryz.prog 76 args objs q.1 q.2∧HasBody Tryz.prog 76:=by
 unfold ct76 at h
 split at h
 ·rename_i l hl
  obtain⟨x,hx,hk⟩:=Option.bind_eq_some_iff.1 h
  obtain⟨h1,h2⟩:=sel46_ok hl
  cases m with
  |zero=>cases hx
  |succ m=>exact⟨_,hk,(i46_fx m (hct m (Nat.lt_succ_self m)) _ _ _ hx).conv h1 h2,⟨_,Tryz.func76,rfl,by decide⟩⟩
 cases h
theorem ct65_ok (m:Nat) (hct:∀k,k<m→∀R,CallOK (R:=R) Tryz.prog (ct k)) {R:Type} {args:List AV} {objs:List Ob} {K:Res→Option R} {r:R} (h:ct65 m args objs K=some r):∃q:Res,K q=some r∧FX Tryz.prog 65 args objs q.1 q.2∧HasBody Tryz.prog 65:=by
 unfold ct65 at h
 split at h
 ·rename_i l hl
  obtain⟨x,hx,hk⟩:=Option.bind_eq_some_iff.1 h
  obtain⟨h1,h2⟩:=sel23_ok hl
  cases m with
  |zero=>cases hx
  |succ m=>exact⟨_,hk,(ref01_Valid_fx m (hct m (Nat.lt_succ_self m)) _ hx).conv h1 h2,⟨_,Tryz.func65,rfl,by decide⟩⟩
 cases h
theorem ct78_ok (m:Nat) (hct:∀k,k<m→∀R,CallOK (R:=R) Tryz.prog (ct k)) {R:Type} {args:List AV} {objs:List Ob} {K:Res→Option R} {r:R} (h:ct78 m args objs K=some r):∃q:Res,K q=some r∧FX Tryz.prog 78 args objs q.1 q.2∧HasBody Tryz.prog 78:=by
 unfold ct78 at h
 split at h
 ·rename_i l hl
  obtain⟨x,hx,hk⟩:=Option.bind_eq_some_iff.1 h
  obtain⟨h1,h2⟩:=sel27_ok hl
  cases m with
  |zero=>cases hx
  |succ m=>exact⟨_,hk,(i48_fx m (hct m (Nat.lt_succ_self m)) _ hx).conv h1 h2,⟨_,Tryz.func78,rfl,by decide⟩⟩
 cases h
theorem ct25_ok (m:Nat) (hct:∀k,k<m→∀R,CallOK (R:=R) Tryz.prog (ct k)) {R:Type} {args:List AV} {objs:List Ob} {K:Res→Option R} {r:R} (h:ct25 m args objs K=some r):∃q:Res,K q=some r∧FX Tryz.prog 25 args objs q.1 q.2∧HasBody Tryz.prog 25:=by
 unfold ct25 at h
 split at h
 ·rename_i l hl
  obtain⟨x,hx,hk⟩:=Option.bind_eq_some_iff.1 h
  obtain⟨h1,h2⟩:=sel4_ok hl
  cases m with
  |zero=>cases hx
  |succ m=>exact⟨_,hk,(ref02_Same_fx m (hct m (Nat.lt_succ_self m)) _ _ hx).conv h1 h2,⟨_,Tryz.func25,rfl,by decide⟩⟩
 cases h
theorem ct88_ok (m:Nat) (hct:∀k,k<m→∀R,CallOK (R:=R) Tryz.prog (ct k)) {R:Type} {args:List AV} {objs:List Ob} {K:Res→Option R} {r:R} (h:ct88 m args objs K=some r):∃q:Res,K q=some r∧FX Tryz.prog 88 args objs q.1 q.2∧HasBody Tryz.prog 88:=by
 unfold ct88 at h
 split at h
 ·rename_i l hl
  obtain⟨x,hx,hk⟩:=Option.bind_eq_some_iff.1 h
  obtain⟨h1,h2⟩:=sel30_ok hl
  cases m with
  |zero=>cases hx
  |succ m=>exact⟨_,hk,(ref05_place_fx m (hct m (Nat.lt_succ_self m)) _ hx).conv h1 h2,⟨_,Tryz.func88,rfl,by decide⟩⟩
 cases h
theorem ct35_ok (m:Nat) (hct:∀k,k<m→∀R,CallOK (R:=R) Tryz.prog (ct k)) {R:Type} {args:List AV} {objs:List Ob} {K:Res→Option R} {r:R} (h:ct35 m args objs K=some r):∃q:Res,K q=some r∧FX Tryz.prog 35 args objs q.1 q.2∧HasBody Tryz.prog 35:=by
 unfold ct35 at h
 split at h
 ·rename_i l hl
  obtain⟨x,hx,hk⟩:=Option.bind_eq_some_iff.1 h
  obtain⟨h1,h2⟩:=sel23_ok hl
  cases m with
  |zero=>cases hx
  |succ m=>exact⟨_,hk,(ref01_Depth_fx m (hct m (Nat.lt_succ_self m)) _ hx).conv h1 h2,⟨_,Tryz.func35,rfl,by decide⟩⟩
 cases h
theorem ct36_ok (m:Nat) (hct:∀k,k<m→∀R,CallOK (R:=R) Tryz.prog (ct k)) {R:Type} {args:List AV} {objs:List Ob} {K:Res→Option R} {r:R} (h:ct36 m args objs K=some r):∃q:Res,K q=some r∧FX Tryz.prog 36 args objs q.1 q.2∧HasBody Tryz.prog 36:=by
 unfold ct36 at h
 split at h
 ·rename_i l hl
  obtain⟨x,hx,hk⟩:=Option.bind_eq_some_iff.1 h
  obtain⟨h1,h2⟩:=sel23_ok hl
  cases m with
  |zero=>cases hx
  |succ m=>exact⟨_,hk,(ref01_Nodes_fx m (hct m (Nat.lt_succ_self m)) _ hx).conv h1 h2,⟨_,Tryz.func36,rfl,by decide⟩⟩
 cases h
theorem ct87_ok (m:Nat) (hct:∀k,k<m→∀R,CallOK (R:=R) Tryz.prog (ct k)) {R:Type} {args:List AV} {objs:List Ob} {K:Res→Option R} {r:R} (h:ct87 m args objs K=some r):∃q:Res,K q=some r∧FX Tryz.prog 87 args objs q.1 q.2∧HasBody Tryz.prog 87:=by
 unfold ct87 at h
 split at h
 ·rename_i l hl
  obtain⟨x,hx,hk⟩:=Option.bind_eq_some_iff.1 h
  obtain⟨h1,h2⟩:=sel53_ok hl
  cases m with
  |zero=>cases hx
  |succ m=>exact⟨_,hk,(ref01_formed_fx m (hct m (Nat.lt_succ_self m)) _ _ hx).conv h1 h2,⟨_,Tryz.func87,rfl,by decide⟩⟩
 cases h
theorem ct63_ok (m:Nat) (hct:∀k,k<m→∀R,CallOK (R:=R) Tryz.prog (ct k)) {R:Type} {args:List AV} {objs:List Ob} {K:Res→Option R} {r:R} (h:ct63 m args objs K=some r):∃q:Res,K q=some r∧FX Tryz.prog 63 args objs q.1 q.2∧HasBody Tryz.prog 63:=by
 unfold ct63 at h
 split at h
 ·rename_i l hl
  obtain⟨x,hx,hk⟩:=Option.bind_eq_some_iff.1 h
  obtain⟨h1,h2⟩:=sel54_ok hl
  cases m with
  |zero=>cases hx
  |succ m=>exact⟨_,hk,(ref01_levels_fx m (hct m (Nat.lt_succ_self m)) _ _ hx).conv h1 h2,⟨_,Tryz.func63,rfl,by decide⟩⟩
 cases h
theorem ct64_ok (m:Nat) (hct:∀k,k<m→∀R,CallOK (R:=R) Tryz.prog (ct k)) {R:Type} {args:List AV} {objs:List Ob} {K:Res→Option R} {r:R} (h:ct64 m args objs K=some r):∃q:Res,K q=some r∧FX Tryz.prog 64 args objs q.1 q.2∧HasBody Tryz.prog 64:=by
 unfold ct64 at h
 split at h
 ·rename_i l hl
  obtain⟨x,hx,hk⟩:=Option.bind_eq_some_iff.1 h
  obtain⟨h1,h2⟩:=sel54_ok hl
  cases m with
  |zero=>cases hx
  |succ m=>exact⟨_,hk,(ref01_count_fx m (hct m (Nat.lt_succ_self m)) _ _ hx).conv h1 h2,⟨_,Tryz.func64,rfl,by decide⟩⟩
 cases h
theorem ct101_ok (m:Nat) (hct:∀k,k<m→∀R,CallOK (R:=R) Tryz.prog (ct k)) {R:Type} {args:List AV} {objs:List Ob} {K:Res→Option R} {r:R} (h:ct101 m args objs K=some r):∃q:Res,K q=some r∧FX Tryz.prog 101 args objs q.1 q.2∧HasBody Tryz.prog 101:=by
 unfold ct101 at h
 split at h
 ·rename_i l hl
  obtain⟨x,hx,hk⟩:=Option.bind_eq_some_iff.1 h
  obtain⟨h1,h2⟩:=sel0_ok hl
  cases m with
  |zero=>cases hx
  |succ m=>exact⟨_,hk,(ref01_UTF8_fx m (hct m (Nat.lt_succ_self m)) _ hx).conv h1 h2,⟨_,Tryz.func101,rfl,by decide⟩⟩
 cases h
theorem ct102_ok (m:Nat) (hct:∀k,k<m→∀R,CallOK (R:=R) Tryz.prog (ct k)) {R:Type} {args:List AV} {objs:List Ob} {K:Res→Option R} {r:R} (h:ct102 m args objs K=some r):∃q:Res,K q=some r∧FX Tryz.prog 102 args objs q.1 q.2∧HasBody Tryz.prog 102:=by
 unfold ct102 at h
 split at h
 ·rename_i l hl
  obtain⟨x,hx,hk⟩:=Option.bind_eq_some_iff.1 h
  obtain⟨h1,h2⟩:=sel53_ok hl
  cases m with
  |zero=>cases hx
  |succ m=>exact⟨_,hk,(ref01_fields_fx m (hct m (Nat.lt_succ_self m)) _ _ hx).conv h1 h2,⟨_,Tryz.func102,rfl,by decide⟩⟩
 cases h
theorem ct86_ok (m:Nat) (hct:∀k,k<m→∀R,CallOK (R:=R) Tryz.prog (ct k)) {R:Type} {args:List AV} {objs:List Ob} {K:Res→Option R} {r:R} (h:ct86 m args objs K=some r):∃q:Res,K q=some r∧FX Tryz.prog 86 args objs q.1 q.2∧HasBody Tryz.prog 86:=by
 unfold ct86 at h
 split at h
 ·rename_i l hl
  obtain⟨x,hx,hk⟩:=Option.bind_eq_some_iff.1 h
  obtain⟨h1,h2⟩:=sel23_ok hl
  cases m with
  |zero=>cases hx
  |succ m=>exact⟨_,hk,(ref01_Parts_fx m (hct m (Nat.lt_succ_self m)) _ hx).conv h1 h2,⟨_,Tryz.func86,rfl,by decide⟩⟩
 cases h
theorem ct116_ok (m:Nat) (hct:∀k,k<m→∀R,CallOK (R:=R) Tryz.prog (ct k)) {R:Type} {args:List AV} {objs:List Ob} {K:Res→Option R} {r:R} (h:ct116 m args objs K=some r):∃q:Res,K q=some r∧FX Tryz.prog 116 args objs q.1 q.2∧HasBody Tryz.prog 116:=by
 unfold ct116 at h
 split at h
 ·rename_i l hl
  obtain⟨x,hx,hk⟩:=Option.bind_eq_some_iff.1 h
  obtain⟨h1,h2⟩:=sel26_ok hl
  cases m with
  |zero=>cases hx
  |succ m=>exact⟨_,hk,(ref01_tail_fx m (hct m (Nat.lt_succ_self m)) _ _ _ hx).conv h1 h2,⟨_,Tryz.func116,rfl,by decide⟩⟩
 cases h
theorem ct117_ok (m:Nat) (hct:∀k,k<m→∀R,CallOK (R:=R) Tryz.prog (ct k)) {R:Type} {args:List AV} {objs:List Ob} {K:Res→Option R} {r:R} (h:ct117 m args objs K=some r):∃q:Res,K q=some r∧FX Tryz.prog 117 args objs q.1 q.2∧HasBody Tryz.prog 117:=by
 unfold ct117 at h
 split at h
 ·rename_i l hl
  obtain⟨x,hx,hk⟩:=Option.bind_eq_some_iff.1 h
  obtain⟨h1,h2⟩:=sel0_ok hl
  cases m with
  |zero=>cases hx
  |succ m=>exact⟨_,hk,(ref01_Name_fx m (hct m (Nat.lt_succ_self m)) _ hx).conv h1 h2,⟨_,Tryz.func117,rfl,by decide⟩⟩
 cases h
theorem ct118_ok (m:Nat) (hct:∀k,k<m→∀R,CallOK (R:=R) Tryz.prog (ct k)) {R:Type} {args:List AV} {objs:List Ob} {K:Res→Option R} {r:R} (h:ct118 m args objs K=some r):∃q:Res,K q=some r∧FX Tryz.prog 118 args objs q.1 q.2∧HasBody Tryz.prog 118:=by
 unfold ct118 at h
 split at h
 ·rename_i l hl
  obtain⟨x,hx,hk⟩:=Option.bind_eq_some_iff.1 h
  obtain⟨h1,h2⟩:=sel0_ok hl
  cases m with
  |zero=>cases hx
  |succ m=>exact⟨_,hk,(ref01_wide_fx m (hct m (Nat.lt_succ_self m)) _ hx).conv h1 h2,⟨_,Tryz.func118,rfl,by decide⟩⟩
 cases h
set_option maxHeartbeats 4000000 in
theorem ct_ok:∀(m:Nat) (R:Type),CallOK (R:=R) Tryz.prog (ct m):=by
 intro m
 induction m using Nat.strongRecOn with
 |_ m ih=>
  intro R f args objs K r h
  unfold ct at h
  rcases bset_some h with⟨hb,h1⟩| ⟨_,h⟩
  · have e:=beq_eq hb
    subst e
    exact ct4_ok m ih h1
  rcases bset_some h with⟨hb,h1⟩| ⟨_,h⟩
  · have e:=beq_eq hb
    subst e
    exact ct6_ok m ih h1
  rcases bset_some h with⟨hb,h1⟩| ⟨_,h⟩
  · have e:=beq_eq hb
    subst e
    exact ct9_ok m ih h1
  rcases bset_some h with⟨hb,h1⟩| ⟨_,h⟩
  · have e:=beq_eq hb
    subst e
    exact ct10_ok m ih h1
  rcases bset_some h with⟨hb,h1⟩| ⟨_,h⟩
  · have e:=beq_eq hb
    subst e
    exact ct11_ok m ih h1
  rcases bset_some h with⟨hb,h1⟩| ⟨_,h⟩
  · have e:=beq_eq hb
    subst e
    exact ct19_ok m ih h1
  rcases bset_some h with⟨hb,h1⟩| ⟨_,h⟩
  · have e:=beq_eq hb
    subst e
    exact ct42_ok m ih h1
  rcases bset_some h with⟨hb,h1⟩| ⟨_,h⟩
  · have e:=beq_eq hb
    subst e
    exact ct20_ok m ih h1
  rcases bset_some h with⟨hb,h1⟩| ⟨_,h⟩
  · have e:=beq_eq hb
    subst e
    exact ct43_ok m ih h1
  rcases bset_some h with⟨hb,h1⟩| ⟨_,h⟩
  · have e:=beq_eq hb
    subst e
    exact ct21_ok m ih h1
  rcases bset_some h with⟨hb,h1⟩| ⟨_,h⟩
  · have e:=beq_eq hb
    subst e
    exact ct44_ok m ih h1
  rcases bset_some h with⟨hb,h1⟩| ⟨_,h⟩
  · have e:=beq_eq hb
    subst e
    exact ct69_ok m ih h1
  rcases bset_some h with⟨hb,h1⟩| ⟨_,h⟩
  · have e:=beq_eq hb
    subst e
    exact ct89_ok m ih h1
  rcases bset_some h with⟨hb,h1⟩| ⟨_,h⟩
  · have e:=beq_eq hb
    subst e
    exact ct103_ok m ih h1
  rcases bset_some h with⟨hb,h1⟩| ⟨_,h⟩
  · have e:=beq_eq hb
    subst e
    exact ct90_ok m ih h1
  rcases bset_some h with⟨hb,h1⟩| ⟨_,h⟩
  · have e:=beq_eq hb
    subst e
    exact ct104_ok m ih h1
  rcases bset_some h with⟨hb,h1⟩| ⟨_,h⟩
  · have e:=beq_eq hb
    subst e
    exact ct70_ok m ih h1
  rcases bset_some h with⟨hb,h1⟩| ⟨_,h⟩
  · have e:=beq_eq hb
    subst e
    exact ct45_ok m ih h1
  rcases bset_some h with⟨hb,h1⟩| ⟨_,h⟩
  · have e:=beq_eq hb
    subst e
    exact ct46_ok m ih h1
  rcases bset_some h with⟨hb,h1⟩| ⟨_,h⟩
  · have e:=beq_eq hb
    subst e
    exact ct71_ok m ih h1
  rcases bset_some h with⟨hb,h1⟩| ⟨_,h⟩
  · have e:=beq_eq hb
    subst e
    exact ct57_ok m ih h1
  rcases bset_some h with⟨hb,h1⟩| ⟨_,h⟩
  · have e:=beq_eq hb
    subst e
    exact ct72_ok m ih h1
  rcases bset_some h with⟨hb,h1⟩| ⟨_,h⟩
  · have e:=beq_eq hb
    subst e
    exact ct62_ok m ih h1
  rcases bset_some h with⟨hb,h1⟩| ⟨_,h⟩
  · have e:=beq_eq hb
    subst e
    exact ct85_ok m ih h1
  rcases bset_some h with⟨hb,h1⟩| ⟨_,h⟩
  · have e:=beq_eq hb
    subst e
    exact ct47_ok m ih h1
  rcases bset_some h with⟨hb,h1⟩| ⟨_,h⟩
  · have e:=beq_eq hb
    subst e
    exact ct48_ok m ih h1
  rcases bset_some h with⟨hb,h1⟩| ⟨_,h⟩
  · have e:=beq_eq hb
    subst e
    exact ct73_ok m ih h1
  rcases bset_some h with⟨hb,h1⟩| ⟨_,h⟩
  · have e:=beq_eq hb
    subst e
    exact ct22_ok m ih h1
  rcases bset_some h with⟨hb,h1⟩| ⟨_,h⟩
  · have e:=beq_eq hb
    subst e
    exact ct23_ok m ih h1
  rcases bset_some h with⟨hb,h1⟩| ⟨_,h⟩
  · have e:=beq_eq hb
    subst e
    exact ct50_ok m ih h1
  rcases bset_some h with⟨hb,h1⟩| ⟨_,h⟩
  · have e:=beq_eq hb
    subst e
    exact ct49_ok m ih h1
  rcases bset_some h with⟨hb,h1⟩| ⟨_,h⟩
  · have e:=beq_eq hb
    subst e
    exact ct24_ok m ih h1
  rcases bset_some h with⟨hb,h1⟩| ⟨_,h⟩
  · have e:=beq_eq hb
    subst e
    exact ct51_ok m ih h1
  rcases bset_some h with⟨hb,h1⟩| ⟨_,h⟩
  · have e:=beq_eq hb
    subst e
    exact ct52_ok m ih h1
  rcases bset_some h with⟨hb,h1⟩| ⟨_,h⟩
  · have e:=beq_eq hb
    subst e
    exact ct74_ok m ih h1
  rcases bset_some h with⟨hb,h1⟩| ⟨_,h⟩
  · have e:=beq_eq hb
    subst e
    exact ct53_ok m ih h1
  rcases bset_some h with⟨hb,h1⟩| ⟨_,h⟩
  · have e:=beq_eq hb
    subst e
    exact ct75_ok m ih h1
  rcases bset_some h with⟨hb,h1⟩| ⟨_,h⟩
  · have e:=beq_eq hb
    subst e
    exact ct77_ok m ih h1
  rcases bset_some h with⟨hb,h1⟩| ⟨_,h⟩
  · have e:=beq_eq hb
    subst e
    exact ct94_ok m ih h1
  rcases bset_some h with⟨hb,h1⟩| ⟨_,h⟩
  · have e:=beq_eq hb
    subst e
    exact ct110_ok m ih h1
  rcases bset_some h with⟨hb,h1⟩| ⟨_,h⟩
  · have e:=beq_eq hb
    subst e
    exact ct123_ok m ih h1
  rcases bset_some h with⟨hb,h1⟩| ⟨_,h⟩
  · have e:=beq_eq hb
    subst e
    exact ct124_ok m ih h1
  rcases bset_some h with⟨hb,h1⟩| ⟨_,h⟩
  · have e:=beq_eq hb
    subst e
    exact ct66_ok m ih h1
  rcases bset_some h with⟨hb,h1⟩| ⟨_,h⟩
  · have e:=beq_eq hb
    subst e
    exact ct38_ok m ih h1
  rcases bset_some h with⟨hb,h1⟩| ⟨_,h⟩
  · have e:=beq_eq hb
    subst e
    exact ct67_ok m ih h1
  rcases bset_some h with⟨hb,h1⟩| ⟨_,h⟩
  · have e:=beq_eq hb
    subst e
    exact ct54_ok m ih h1
  rcases bset_some h with⟨hb,h1⟩| ⟨_,h⟩
  · have e:=beq_eq hb
    subst e
    exact ct76_ok m ih h1
  rcases bset_some h with⟨hb,h1⟩| ⟨_,h⟩
  · have e:=beq_eq hb
    subst e
    exact ct65_ok m ih h1
  rcases bset_some h with⟨hb,h1⟩| ⟨_,h⟩
  · have e:=beq_eq hb
    subst e
    exact ct78_ok m ih h1
  rcases bset_some h with⟨hb,h1⟩| ⟨_,h⟩
  · have e:=beq_eq hb
    subst e
    exact ct25_ok m ih h1
  rcases bset_some h with⟨hb,h1⟩| ⟨_,h⟩
  · have e:=beq_eq hb
    subst e
    exact ct88_ok m ih h1
  rcases bset_some h with⟨hb,h1⟩| ⟨_,h⟩
  · have e:=beq_eq hb
    subst e
    exact ct35_ok m ih h1
  rcases bset_some h with⟨hb,h1⟩| ⟨_,h⟩
  · have e:=beq_eq hb
    subst e
    exact ct36_ok m ih h1
  rcases bset_some h with⟨hb,h1⟩| ⟨_,h⟩
  · have e:=beq_eq hb
    subst e
    exact ct87_ok m ih h1
  rcases bset_some h with⟨hb,h1⟩| ⟨_,h⟩
  · have e:=beq_eq hb
    subst e
    exact ct63_ok m ih h1
  rcases bset_some h with⟨hb,h1⟩| ⟨_,h⟩
  · have e:=beq_eq hb
    subst e
    exact ct64_ok m ih h1
  rcases bset_some h with⟨hb,h1⟩| ⟨_,h⟩
  · have e:=beq_eq hb
    subst e
    exact ct101_ok m ih h1
  rcases bset_some h with⟨hb,h1⟩| ⟨_,h⟩
  · have e:=beq_eq hb
    subst e
    exact ct102_ok m ih h1
  rcases bset_some h with⟨hb,h1⟩| ⟨_,h⟩
  · have e:=beq_eq hb
    subst e
    exact ct86_ok m ih h1
  rcases bset_some h with⟨hb,h1⟩| ⟨_,h⟩
  · have e:=beq_eq hb
    subst e
    exact ct116_ok m ih h1
  rcases bset_some h with⟨hb,h1⟩| ⟨_,h⟩
  · have e:=beq_eq hb
    subst e
    exact ct117_ok m ih h1
  rcases bset_some h with⟨hb,h1⟩| ⟨_,h⟩
  · have e:=beq_eq hb
    subst e
    exact ct118_ok m ih h1
  cases h
end Go.Proofs.YtmejbpmceflcjaaGreatDoor
