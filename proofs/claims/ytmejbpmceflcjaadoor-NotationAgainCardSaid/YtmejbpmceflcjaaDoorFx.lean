/- Generated: the contracts. -/
import Derived.Test.YtmejbpmceflcjaaDoorEq0
import Derived.Test.YtmejbpmceflcjaaDoorEq1
set_option linter.unusedVariables false
set_option linter.unusedSimpArgs false
namespace Go.Proofs.YtmejbpmceflcjaaDoor
open Go.Am
set_option maxRecDepth 100000
theorem mixed:Tryd.prog.follows .mixedOrders=true:=by kernel_rfl
theorem ref02_count_fx (m:Nat) (hct:∀R,CallOK (R:=R) Tryd.prog (ct m)) (a0:Dt) (a1 a2:Int) {r:Int} (h:ref02_count (m+1) a0 a1 a2=some r):FX Tryd.prog 23 [(.dat 27 a0),(.dat 3 (.int a1)),(.dat 3 (.int a2))] [] (.dat 3 (.int r)) []:=
 FX_of (q:=((.dat 3 (.int r)),[])) (E:=env) (m:=m+1) (dec:=d9) jn_ok (hct _) mixed Tryd.func23 rfl (Nat.le_of_ble_eq_true rfl) (fun b hb=>d9_sim hb) ((ref02_count_eq m a0 a1 a2).trans h)
theorem ref02_Few_fx (m:Nat) (hct:∀R,CallOK (R:=R) Tryd.prog (ct m)) (a0:Dt) (a1:Int) {r:Bool} (h:ref02_Few (m+1) a0 a1=some r):FX Tryd.prog 12 [(.dat 27 a0),(.dat 3 (.int a1))] [] (.dat 4 (.bool r)) []:=
 FX_of (q:=((.dat 4 (.bool r)),[])) (E:=env) (m:=m+1) (dec:=d3) jn_ok (hct _) mixed Tryd.func12 rfl (Nat.le_of_ble_eq_true rfl) (fun b hb=>d3_sim hb) ((ref02_Few_eq m a0 a1).trans h)
theorem i13_fx (m:Nat) (hct:∀R,CallOK (R:=R) Tryd.prog (ct m)) (a0:Bool) (a1:List Dt) {r:List Dt} (h:i13 (m+1) a0 a1=some r):FX Tryd.prog 64 [(.row 0),(.dat 4 (.bool a0))] [(.row 42 a1)] (.row 1) [.gone,(.row 42 r)]:=
 FX_of (q:=((.row 1),[.gone,(.row 42 r)])) (E:=env) (m:=m+1) (dec:=d13) jn_ok (hct _) mixed Tryd.func64 rfl (Nat.le_of_ble_eq_true rfl) (fun b hb=>d13_sim hb) ((i13_eq m a0 a1).trans h)
theorem i12_fx (m:Nat) (hct:∀R,CallOK (R:=R) Tryd.prog (ct m)) (a0:Bool) (a1:List Dt) {r:List Dt} (h:i12 (m+1) a0 a1=some r):FX Tryd.prog 43 [(.row 0),(.dat 4 (.bool a0))] [(.row 42 a1)] (.row 1) [.gone,(.row 42 r)]:=
 FX_of (q:=((.row 1),[.gone,(.row 42 r)])) (E:=env) (m:=m+1) (dec:=d13) jn_ok (hct _) mixed Tryd.func43 rfl (Nat.le_of_ble_eq_true rfl) (fun b hb=>d13_sim hb) ((i12_eq m a0 a1).trans h)
theorem notation_Quote_fx (m:Nat) (hct:∀R,CallOK (R:=R) Tryd.prog (ct m)) (a0:ByteArray) {r:ByteArray} (h:notation_Quote (m+1) a0=some r):FX Tryd.prog 8 [(.dat 9 (.str a0))] [] (.dat 9 (.str r)) []:=
 FX_of (q:=((.dat 9 (.str r)),[])) (E:=env) (m:=m+1) (dec:=d15) jn_ok (hct _) mixed Tryd.func8 rfl (Nat.le_of_ble_eq_true rfl) (fun b hb=>d15_sim hb) ((notation_Quote_eq m a0).trans h)
theorem i16_fx (m:Nat) (hct:∀R,CallOK (R:=R) Tryd.prog (ct m)) (a0:ByteArray) (a1:List Dt) {r:List Dt} (h:i16 (m+1) a0 a1=some r):FX Tryd.prog 45 [(.row 0),(.dat 9 (.str a0))] [(.row 42 a1)] (.row 1) [.gone,(.row 42 r)]:=
 FX_of (q:=((.row 1),[.gone,(.row 42 r)])) (E:=env) (m:=m+1) (dec:=d13) jn_ok (hct _) mixed Tryd.func45 rfl (Nat.le_of_ble_eq_true rfl) (fun b hb=>d13_sim hb) ((i16_eq m a0 a1).trans h)
theorem i24_fx (m:Nat) (hct:∀R,CallOK (R:=R) Tryd.prog (ct m)) (a0:Dt) {r:Int×Dt} (h:i24 (m+1) a0=some r):FX Tryd.prog 28 [(.ptr 0 [] 0)] [(.box 45 (.dat 45 a0))] (.dat 3 (.int r.1)) [(.box 45 (.dat 45 r.2))]:=
 FX_of (q:=((.dat 3 (.int r.1)),[(.box 45 (.dat 45 r.2))])) (E:=env) (m:=m+1) (dec:=d24) jn_ok (hct _) mixed Tryd.func28 rfl (Nat.le_of_ble_eq_true rfl) (fun b hb=>d24_sim hb) ((i24_eq m a0).trans h)
theorem i23_fx (m:Nat) (hct:∀R,CallOK (R:=R) Tryd.prog (ct m)) (a0:Dt) {r:Dt} (h:i23 (m+1) a0=some r):FX Tryd.prog 17 [(.ptr 0 [] 0)] [(.box 45 (.dat 45 a0))] (.tup []) [(.box 45 (.dat 45 r))]:=
 FX_of (q:=((.tup []),[(.box 45 (.dat 45 r))])) (E:=env) (m:=m+1) (dec:=d23) jn_ok (hct _) mixed Tryd.func17 rfl (Nat.le_of_ble_eq_true rfl) (fun b hb=>d23_sim hb) ((i23_eq m a0).trans h)
theorem i27_fx (m:Nat) (hct:∀R,CallOK (R:=R) Tryd.prog (ct m)) (a0 a1:Int) (a2:Dt) {r:Bool×Dt} (h:i27 (m+1) a0 a1 a2=some r):FX Tryd.prog 19 [(.ptr 0 [] 0),(.dat 28 (.int a0)),(.dat 3 (.int a1))] [(.box 45 (.dat 45 a2))] (.dat 4 (.bool r.1)) [(.box 45 (.dat 45 r.2))]:=
 FX_of (q:=((.dat 4 (.bool r.1)),[(.box 45 (.dat 45 r.2))])) (E:=env) (m:=m+1) (dec:=d27) jn_ok (hct _) mixed Tryd.func19 rfl (Nat.le_of_ble_eq_true rfl) (fun b hb=>d27_sim hb) ((i27_eq m a0 a1 a2).trans h)
theorem i26_fx (m:Nat) (hct:∀R,CallOK (R:=R) Tryd.prog (ct m)) (a0 a1:Int) (a2:Dt) {r:Bool×Dt} (h:i26 (m+1) a0 a1 a2=some r):FX Tryd.prog 29 [(.ptr 0 [] 0),(.dat 3 (.int a0)),(.dat 3 (.int a1))] [(.box 45 (.dat 45 a2))] (.dat 4 (.bool r.1)) [(.box 45 (.dat 45 r.2))]:=
 FX_of (q:=((.dat 4 (.bool r.1)),[(.box 45 (.dat 45 r.2))])) (E:=env) (m:=m+1) (dec:=d27) jn_ok (hct _) mixed Tryd.func29 rfl (Nat.le_of_ble_eq_true rfl) (fun b hb=>d27_sim hb) ((i26_eq m a0 a1 a2).trans h)
theorem i31_fx (m:Nat) (hct:∀R,CallOK (R:=R) Tryd.prog (ct m)) (a0:Dt) {r:Int×Bool×Dt} (h:i31 (m+1) a0=some r):FX Tryd.prog 78 [(.ptr 0 [] 0)] [(.box 45 (.dat 45 a0))] (.tup [(.dat 21 (.int r.1)),(.dat 4 (.bool r.2.1))]) [(.box 45 (.dat 45 r.2.2))]:=
 FX_of (q:=((.tup [(.dat 21 (.int r.1)),(.dat 4 (.bool r.2.1))]),[(.box 45 (.dat 45 r.2.2))])) (E:=env) (m:=m+1) (dec:=d31) jn_ok (hct _) mixed Tryd.func78 rfl (Nat.le_of_ble_eq_true rfl) (fun b hb=>d31_sim hb) ((i31_eq m a0).trans h)
theorem i30_fx (m:Nat) (hct:∀R,CallOK (R:=R) Tryd.prog (ct m)) (a0:Dt) {r:Int×Bool×Dt} (h:i30 (m+1) a0=some r):FX Tryd.prog 66 [(.ptr 0 [] 0)] [(.box 45 (.dat 45 a0))] (.tup [(.dat 21 (.int r.1)),(.dat 4 (.bool r.2.1))]) [(.box 45 (.dat 45 r.2.2))]:=
 FX_of (q:=((.tup [(.dat 21 (.int r.1)),(.dat 4 (.bool r.2.1))]),[(.box 45 (.dat 45 r.2.2))])) (E:=env) (m:=m+1) (dec:=d31) jn_ok (hct _) mixed Tryd.func66 rfl (Nat.le_of_ble_eq_true rfl) (fun b hb=>d31_sim hb) ((i30_eq m a0).trans h)
theorem i33_fx (m:Nat) (hct:∀R,CallOK (R:=R) Tryd.prog (ct m)) (a0:Int) (a1:List Dt) {r:List Dt} (h:i33 (m+1) a0 a1=some r):FX Tryd.prog 79 [(.row 0),(.dat 21 (.int a0))] [(.row 42 a1)] (.row 1) [.gone,(.row 42 r)]:=
 FX_of (q:=((.row 1),[.gone,(.row 42 r)])) (E:=env) (m:=m+1) (dec:=d13) jn_ok (hct _) mixed Tryd.func79 rfl (Nat.le_of_ble_eq_true rfl) (fun b hb=>d13_sim hb) ((i33_eq m a0 a1).trans h)
theorem i32_fx (m:Nat) (hct:∀R,CallOK (R:=R) Tryd.prog (ct m)) (a0:Int) (a1:List Dt) {r:List Dt} (h:i32 (m+1) a0 a1=some r):FX Tryd.prog 67 [(.row 0),(.dat 21 (.int a0))] [(.row 42 a1)] (.row 1) [.gone,(.row 42 r)]:=
 FX_of (q:=((.row 1),[.gone,(.row 42 r)])) (E:=env) (m:=m+1) (dec:=d13) jn_ok (hct _) mixed Tryd.func67 rfl (Nat.le_of_ble_eq_true rfl) (fun b hb=>d13_sim hb) ((i32_eq m a0 a1).trans h)
theorem i29_fx (m:Nat) (hct:∀R,CallOK (R:=R) Tryd.prog (ct m)) (a0:Dt) {r:ByteArray×Bool×Dt} (h:i29 (m+1) a0=some r):FX Tryd.prog 49 [(.ptr 0 [] 0)] [(.box 45 (.dat 45 a0))] (.tup [(.dat 9 (.str r.1)),(.dat 4 (.bool r.2.1))]) [(.box 45 (.dat 45 r.2.2))]:=
 FX_of (q:=((.tup [(.dat 9 (.str r.1)),(.dat 4 (.bool r.2.1))]),[(.box 45 (.dat 45 r.2.2))])) (E:=env) (m:=m+1) (dec:=d29) jn_ok (hct _) mixed Tryd.func49 rfl (Nat.le_of_ble_eq_true rfl) (fun b hb=>d29_sim hb) ((i29_eq m a0).trans h)
theorem i28_fx (m:Nat) (hct:∀R,CallOK (R:=R) Tryd.prog (ct m)) (a0:Dt) {r:Dt×Bool×Dt} (h:i28 (m+1) a0=some r):FX Tryd.prog 30 [(.ptr 0 [] 0)] [(.box 45 (.dat 45 a0))] (.tup [(.dat 27 r.1),(.dat 4 (.bool r.2.1))]) [(.box 45 (.dat 45 r.2.2))]:=
 FX_of (q:=((.tup [(.dat 27 r.1),(.dat 4 (.bool r.2.1))]),[(.box 45 (.dat 45 r.2.2))])) (E:=env) (m:=m+1) (dec:=d28) jn_ok (hct _) mixed Tryd.func30 rfl (Nat.le_of_ble_eq_true rfl) (fun b hb=>d28_sim hb) ((i28_eq m a0).trans h)
theorem notation_isField_fx (m:Nat) (hct:∀R,CallOK (R:=R) Tryd.prog (ct m)) (a0:ByteArray) {r:Bool} (h:notation_isField (m+1) a0=some r):FX Tryd.prog 61 [(.dat 9 (.str a0))] [] (.dat 4 (.bool r)) []:=
 FX_of (q:=((.dat 4 (.bool r)),[])) (E:=env) (m:=m+1) (dec:=d3) jn_ok (hct _) mixed Tryd.func61 rfl (Nat.le_of_ble_eq_true rfl) (fun b hb=>d3_sim hb) ((notation_isField_eq m a0).trans h)
theorem i37_fx (m:Nat) (hct:∀R,CallOK (R:=R) Tryd.prog (ct m)) (a0:Dt) (a1:List Dt) {r:ByteArray×Bool×Dt×List Dt} (h:i37 (m+1) a0 a1=some r):FX Tryd.prog 51 [(.ptr 0 [] 0),(.row 1)] [(.box 45 (.dat 45 a0)),(.map 68 a1)] (.tup [(.dat 9 (.str r.1)),(.dat 4 (.bool r.2.1))]) [(.box 45 (.dat 45 r.2.2.1)),(.map 68 r.2.2.2)]:=
 FX_of (q:=((.tup [(.dat 9 (.str r.1)),(.dat 4 (.bool r.2.1))]),[(.box 45 (.dat 45 r.2.2.1)),(.map 68 r.2.2.2)])) (E:=env) (m:=m+1) (dec:=d37) jn_ok (hct _) mixed Tryd.func51 rfl (Nat.le_of_ble_eq_true rfl) (fun b hb=>d37_sim hb) ((i37_eq m a0 a1).trans h)
theorem notation_isSpecial_fx (m:Nat) (hct:∀R,CallOK (R:=R) Tryd.prog (ct m)) (a0:ByteArray) {r:Bool} (h:notation_isSpecial (m+1) a0=some r):FX Tryd.prog 52 [(.dat 9 (.str a0))] [] (.dat 4 (.bool r)) []:=
 FX_of (q:=((.dat 4 (.bool r)),[])) (E:=env) (m:=m+1) (dec:=d3) jn_ok (hct _) mixed Tryd.func52 rfl (Nat.le_of_ble_eq_true rfl) (fun b hb=>d3_sim hb) ((notation_isSpecial_eq m a0).trans h)
theorem notation_fromHex_fx (m:Nat) (hct:∀R,CallOK (R:=R) Tryd.prog (ct m)) (a0:Dt) {r:ByteArray×Bool} (h:notation_fromHex (m+1) a0=some r):FX Tryd.prog 69 [(.dat 27 a0)] [] (.tup [(.dat 9 (.str r.1)),(.dat 4 (.bool r.2))]) []:=
 FX_of (q:=((.tup [(.dat 9 (.str r.1)),(.dat 4 (.bool r.2))]),[])) (E:=env) (m:=m+1) (dec:=d41) jn_ok (hct _) mixed Tryd.func69 rfl (Nat.le_of_ble_eq_true rfl) (fun b hb=>d41_sim hb) ((notation_fromHex_eq m a0).trans h)
theorem notation_special_fx (m:Nat) (hct:∀R,CallOK (R:=R) Tryd.prog (ct m)) (a0:List Dt) {r:Dt×Bool} (h:notation_special (m+1) a0=some r):FX Tryd.prog 53 [(.dat 25 (.lst a0))] [] (.tup [(.dat 27 r.1),(.dat 4 (.bool r.2))]) []:=
 FX_of (q:=((.tup [(.dat 27 r.1),(.dat 4 (.bool r.2))]),[])) (E:=env) (m:=m+1) (dec:=d19) jn_ok (hct _) mixed Tryd.func53 rfl (Nat.le_of_ble_eq_true rfl) (fun b hb=>d19_sim hb) ((notation_special_eq m a0).trans h)
theorem i11_fx (m:Nat) (hct:∀R,CallOK (R:=R) Tryd.prog (ct m)) (a0:Dt) (a1:List Dt) {r:Int×List Dt} (h:i11 (m+1) a0 a1=some r):FX Tryd.prog 25 [(.row 0),(.dat 27 a0)] [(.row 42 a1)] (.tup [(.row 1),(.dat 28 (.int r.1))]) [.gone,(.row 42 r.2)]:=
 FX_of (q:=((.tup [(.row 1),(.dat 28 (.int r.1))]),[.gone,(.row 42 r.2)])) (E:=env) (m:=m+1) (dec:=d11) jn_ok (hct _) mixed Tryd.func25 rfl (Nat.le_of_ble_eq_true rfl) (fun b hb=>d11_sim hb) ((i11_eq m a0 a1).trans h)
theorem i17_fx (m:Nat) (hct:∀R,CallOK (R:=R) Tryd.prog (ct m)) (a0 a1:List Dt) {r:Int×List Dt} (h:i17 (m+1) a0 a1=some r):FX Tryd.prog 46 [(.row 0),(.dat 24 (.lst a0))] [(.row 42 a1)] (.tup [(.row 1),(.dat 28 (.int r.1))]) [.gone,(.row 42 r.2)]:=
 FX_of (q:=((.tup [(.row 1),(.dat 28 (.int r.1))]),[.gone,(.row 42 r.2)])) (E:=env) (m:=m+1) (dec:=d11) jn_ok (hct _) mixed Tryd.func46 rfl (Nat.le_of_ble_eq_true rfl) (fun b hb=>d11_sim hb) ((i17_eq m a0 a1).trans h)
theorem i18_fx (m:Nat) (hct:∀R,CallOK (R:=R) Tryd.prog (ct m)) (a0 a1:List Dt) {r:Int×List Dt} (h:i18 (m+1) a0 a1=some r):FX Tryd.prog 47 [(.row 0),(.dat 25 (.lst a0))] [(.row 42 a1)] (.tup [(.row 1),(.dat 28 (.int r.1))]) [.gone,(.row 42 r.2)]:=
 FX_of (q:=((.tup [(.row 1),(.dat 28 (.int r.1))]),[.gone,(.row 42 r.2)])) (E:=env) (m:=m+1) (dec:=d11) jn_ok (hct _) mixed Tryd.func47 rfl (Nat.le_of_ble_eq_true rfl) (fun b hb=>d11_sim hb) ((i18_eq m a0 a1).trans h)
theorem i40_fx (m:Nat) (hct:∀R,CallOK (R:=R) Tryd.prog (ct m)) (a0:List Dt) {r:Dt×Bool×List Dt} (h:i40 (m+1) a0=some r):FX Tryd.prog 53 [(.row 0)] [(.row 25 a0)] (.tup [(.dat 27 r.1),(.dat 4 (.bool r.2.1))]) [(.row 25 r.2.2)]:=
 FX_of (q:=((.tup [(.dat 27 r.1),(.dat 4 (.bool r.2.1))]),[(.row 25 r.2.2)])) (E:=env) (m:=m+1) (dec:=d40) jn_ok (hct _) mixed Tryd.func53 rfl (Nat.le_of_ble_eq_true rfl) (fun b hb=>d40_sim hb) ((i40_eq m a0).trans h)
theorem i42_fx (m:Nat) (hct:∀R,CallOK (R:=R) Tryd.prog (ct m)) (a0:ByteArray) (a1:Dt) {r:Bool×Dt} (h:i42 (m+1) a0 a1=some r):FX Tryd.prog 33 [(.ptr 0 [] 0),(.dat 9 (.str a0))] [(.box 45 (.dat 45 a1))] (.dat 4 (.bool r.1)) [(.box 45 (.dat 45 r.2))]:=
 FX_of (q:=((.dat 4 (.bool r.1)),[(.box 45 (.dat 45 r.2))])) (E:=env) (m:=m+1) (dec:=d27) jn_ok (hct _) mixed Tryd.func33 rfl (Nat.le_of_ble_eq_true rfl) (fun b hb=>d27_sim hb) ((i42_eq m a0 a1).trans h)
theorem i43_fx (m:Nat) (hct:∀R,CallOK (R:=R) Tryd.prog (ct m)) (a0:Dt) {r:Dt×Bool×Dt} (h:i43 (m+1) a0=some r):FX Tryd.prog 34 [(.ptr 0 [] 0)] [(.box 45 (.dat 45 a0))] (.tup [(.dat 27 r.1),(.dat 4 (.bool r.2.1))]) [(.box 45 (.dat 45 r.2.2))]:=
 FX_of (q:=((.tup [(.dat 27 r.1),(.dat 4 (.bool r.2.1))]),[(.box 45 (.dat 45 r.2.2))])) (E:=env) (m:=m+1) (dec:=d28) jn_ok (hct _) mixed Tryd.func34 rfl (Nat.le_of_ble_eq_true rfl) (fun b hb=>d28_sim hb) ((i43_eq m a0).trans h)
theorem i25_fx (m:Nat) (hct:∀R,CallOK (R:=R) Tryd.prog (ct m)) (a0:Int) (a1:Bool) (a2:Dt) {r:Dt×Bool×Dt} (h:i25 (m+1) a0 a1 a2=some r):FX Tryd.prog 18 [(.ptr 0 [] 0),(.dat 3 (.int a0)),(.dat 4 (.bool a1))] [(.box 45 (.dat 45 a2))] (.tup [(.dat 27 r.1),(.dat 4 (.bool r.2.1))]) [(.box 45 (.dat 45 r.2.2))]:=
 FX_of (q:=((.tup [(.dat 27 r.1),(.dat 4 (.bool r.2.1))]),[(.box 45 (.dat 45 r.2.2))])) (E:=env) (m:=m+1) (dec:=d28) jn_ok (hct _) mixed Tryd.func18 rfl (Nat.le_of_ble_eq_true rfl) (fun b hb=>d28_sim hb) ((i25_eq m a0 a1 a2).trans h)
theorem i35_fx (m:Nat) (hct:∀R,CallOK (R:=R) Tryd.prog (ct m)) (a0:Int) (a1:Dt) {r:Dt×Bool×Dt} (h:i35 (m+1) a0 a1=some r):FX Tryd.prog 31 [(.ptr 0 [] 0),(.dat 3 (.int a0))] [(.box 45 (.dat 45 a1))] (.tup [(.dat 27 r.1),(.dat 4 (.bool r.2.1))]) [(.box 45 (.dat 45 r.2.2))]:=
 FX_of (q:=((.tup [(.dat 27 r.1),(.dat 4 (.bool r.2.1))]),[(.box 45 (.dat 45 r.2.2))])) (E:=env) (m:=m+1) (dec:=d28) jn_ok (hct _) mixed Tryd.func31 rfl (Nat.le_of_ble_eq_true rfl) (fun b hb=>d28_sim hb) ((i35_eq m a0 a1).trans h)
theorem i36_fx (m:Nat) (hct:∀R,CallOK (R:=R) Tryd.prog (ct m)) (a0:Int) (a1:Dt) {r:Dt×Bool×Dt} (h:i36 (m+1) a0 a1=some r):FX Tryd.prog 32 [(.ptr 0 [] 0),(.dat 3 (.int a0))] [(.box 45 (.dat 45 a1))] (.tup [(.dat 27 r.1),(.dat 4 (.bool r.2.1))]) [(.box 45 (.dat 45 r.2.2))]:=
 FX_of (q:=((.tup [(.dat 27 r.1),(.dat 4 (.bool r.2.1))]),[(.box 45 (.dat 45 r.2.2))])) (E:=env) (m:=m+1) (dec:=d28) jn_ok (hct _) mixed Tryd.func32 rfl (Nat.le_of_ble_eq_true rfl) (fun b hb=>d28_sim hb) ((i36_eq m a0 a1).trans h)
theorem notation_Parse_fx (m:Nat) (hct:∀R,CallOK (R:=R) Tryd.prog (ct m)) (a0:ByteArray) {r:Dt×Int×Int} (h:notation_Parse (m+1) a0=some r):FX Tryd.prog 10 [(.dat 9 (.str a0))] [] (.tup [(.dat 27 r.1),(.dat 3 (.int r.2.1)),(.dat 28 (.int r.2.2))]) []:=
 FX_of (q:=((.tup [(.dat 27 r.1),(.dat 3 (.int r.2.1)),(.dat 28 (.int r.2.2))]),[])) (E:=env) (m:=m+1) (dec:=d7) jn_ok (hct _) mixed Tryd.func10 rfl (Nat.le_of_ble_eq_true rfl) (fun b hb=>d7_sim hb) ((notation_Parse_eq m a0).trans h)
theorem ref02_Same_fx (m:Nat) (hct:∀R,CallOK (R:=R) Tryd.prog (ct m)) (a0 a1:Dt) {r:Bool} (h:ref02_Same (m+1) a0 a1=some r):FX Tryd.prog 27 [(.dat 27 a0),(.dat 27 a1)] [] (.dat 4 (.bool r)) []:=
 FX_of (q:=((.dat 4 (.bool r)),[])) (E:=env) (m:=m+1) (dec:=d3) jn_ok (hct _) mixed Tryd.func27 rfl (Nat.le_of_ble_eq_true rfl) (fun b hb=>d3_sim hb) ((ref02_Same_eq m a0 a1).trans h)
theorem ref05_Same_fx (m:Nat) (hct:∀R,CallOK (R:=R) Tryd.prog (ct m)) (a0 a1:Dt) {r:Bool} (h:ref05_Same (m+1) a0 a1=some r):FX Tryd.prog 15 [(.dat 27 a0),(.dat 27 a1)] [] (.dat 4 (.bool r)) []:=
 FX_of (q:=((.dat 4 (.bool r)),[])) (E:=env) (m:=m+1) (dec:=d3) jn_ok (hct _) mixed Tryd.func15 rfl (Nat.le_of_ble_eq_true rfl) (fun b hb=>d3_sim hb) ((ref05_Same_eq m a0 a1).trans h)
theorem notation_rename_fx (m:Nat) (hct:∀R,CallOK (R:=R) Tryd.prog (ct m)) (a0:Dt) {r:Dt×Bool} (h:notation_rename (m+1) a0=some r):FX Tryd.prog 41 [(.dat 27 a0)] [] (.tup [(.dat 27 r.1),(.dat 4 (.bool r.2))]) []:=
 FX_of (q:=((.tup [(.dat 27 r.1),(.dat 4 (.bool r.2))]),[])) (E:=env) (m:=m+1) (dec:=d19) jn_ok (hct _) mixed Tryd.func41 rfl (Nat.le_of_ble_eq_true rfl) (fun b hb=>d19_sim hb) ((notation_rename_eq m a0).trans h)
theorem ref05_Label_fx (m:Nat) (hct:∀R,CallOK (R:=R) Tryd.prog (ct m)) (a0:ByteArray) {r:Bool} (h:ref05_Label (m+1) a0=some r):FX Tryd.prog 48 [(.dat 9 (.str a0))] [] (.dat 4 (.bool r)) []:=
 FX_of (q:=((.dat 4 (.bool r)),[])) (E:=env) (m:=m+1) (dec:=d3) jn_ok (hct _) mixed Tryd.func48 rfl (Nat.le_of_ble_eq_true rfl) (fun b hb=>d3_sim hb) ((ref05_Label_eq m a0).trans h)
theorem value_nodes_fx (m:Nat) (hct:∀R,CallOK (R:=R) Tryd.prog (ct m)) (a0:Dt) (a1:Int) {r:Int} (h:value_nodes (m+1) a0 a1=some r):FX Tryd.prog 59 [(.dat 27 a0),(.dat 3 (.int a1))] [] (.dat 3 (.int r)) []:=
 FX_of (q:=((.dat 3 (.int r)),[])) (E:=env) (m:=m+1) (dec:=d9) jn_ok (hct _) mixed Tryd.func59 rfl (Nat.le_of_ble_eq_true rfl) (fun b hb=>d9_sim hb) ((value_nodes_eq m a0 a1).trans h)
theorem i60_fx (m:Nat) (hct:∀R,CallOK (R:=R) Tryd.prog (ct m)) (a0:Dt) (a1 a2:Int) {r:Int×Int} (h:i60 (m+1) a0 a1 a2=some r):FX Tryd.prog 72 [(.dat 27 a0),(.fn 73 [(.ptr 0 [] 0),(.ptr 1 [] 0)])] [(.box 3 (.dat 3 (.int a1))),(.box 3 (.dat 3 (.int a2)))] (.tup []) [(.box 3 (.dat 3 (.int r.1))),(.box 3 (.dat 3 (.int r.2)))]:=
 FX_of (q:=((.tup []),[(.box 3 (.dat 3 (.int r.1))),(.box 3 (.dat 3 (.int r.2)))])) (E:=env) (m:=m+1) (dec:=d60) jn_ok (hct _) mixed Tryd.func72 rfl (Nat.le_of_ble_eq_true rfl) (fun b hb=>d60_sim hb) ((i60_eq m a0 a1 a2).trans h)
theorem i61_fx (m:Nat) (hct:∀R,CallOK (R:=R) Tryd.prog (ct m)) (a0:Dt) (a1 a2:Int) {r:Bool×Int×Int} (h:i61 (m+1) a0 a1 a2=some r):FX Tryd.prog 73 [(.dat 27 a0),(.ptr 0 [] 0),(.ptr 1 [] 0)] [(.box 3 (.dat 3 (.int a1))),(.box 3 (.dat 3 (.int a2)))] (.dat 4 (.bool r.1)) [(.box 3 (.dat 3 (.int r.2.1))),(.box 3 (.dat 3 (.int r.2.2)))]:=
 FX_of (q:=((.dat 4 (.bool r.1)),[(.box 3 (.dat 3 (.int r.2.1))),(.box 3 (.dat 3 (.int r.2.2)))])) (E:=env) (m:=m+1) (dec:=d61) jn_ok (hct _) mixed Tryd.func73 rfl (Nat.le_of_ble_eq_true rfl) (fun b hb=>d61_sim hb) ((i61_eq m a0 a1 a2).trans h)
theorem value_Nodes_fx (m:Nat) (hct:∀R,CallOK (R:=R) Tryd.prog (ct m)) (a0:Dt) {r:Int} (h:value_Nodes (m+1) a0=some r):FX Tryd.prog 39 [(.dat 27 a0)] [] (.dat 3 (.int r)) []:=
 FX_of (q:=((.dat 3 (.int r)),[])) (E:=env) (m:=m+1) (dec:=d9) jn_ok (hct _) mixed Tryd.func39 rfl (Nat.le_of_ble_eq_true rfl) (fun b hb=>d9_sim hb) ((value_Nodes_eq m a0).trans h)
theorem value_depth_fx (m:Nat) (hct:∀R,CallOK (R:=R) Tryd.prog (ct m)) (a0:Dt) (a1:Int) {r:Int} (h:value_depth (m+1) a0 a1=some r):FX Tryd.prog 60 [(.dat 27 a0),(.dat 3 (.int a1))] [] (.dat 3 (.int r)) []:=
 FX_of (q:=((.dat 3 (.int r)),[])) (E:=env) (m:=m+1) (dec:=d9) jn_ok (hct _) mixed Tryd.func60 rfl (Nat.le_of_ble_eq_true rfl) (fun b hb=>d9_sim hb) ((value_depth_eq m a0 a1).trans h)
theorem i63_fx (m:Nat) (hct:∀R,CallOK (R:=R) Tryd.prog (ct m)) (a0:Dt) (a1 a2:Int) {r:Int×Int} (h:i63 (m+1) a0 a1 a2=some r):FX Tryd.prog 72 [(.dat 27 a0),(.fn 74 [(.ptr 0 [] 0),(.ptr 1 [] 0)])] [(.box 3 (.dat 3 (.int a1))),(.box 3 (.dat 3 (.int a2)))] (.tup []) [(.box 3 (.dat 3 (.int r.1))),(.box 3 (.dat 3 (.int r.2)))]:=
 FX_of (q:=((.tup []),[(.box 3 (.dat 3 (.int r.1))),(.box 3 (.dat 3 (.int r.2)))])) (E:=env) (m:=m+1) (dec:=d60) jn_ok (hct _) mixed Tryd.func72 rfl (Nat.le_of_ble_eq_true rfl) (fun b hb=>d60_sim hb) ((i63_eq m a0 a1 a2).trans h)
theorem i64_fx (m:Nat) (hct:∀R,CallOK (R:=R) Tryd.prog (ct m)) (a0:Dt) (a1 a2:Int) {r:Bool×Int×Int} (h:i64 (m+1) a0 a1 a2=some r):FX Tryd.prog 74 [(.dat 27 a0),(.ptr 0 [] 0),(.ptr 1 [] 0)] [(.box 3 (.dat 3 (.int a1))),(.box 3 (.dat 3 (.int a2)))] (.dat 4 (.bool r.1)) [(.box 3 (.dat 3 (.int r.2.1))),(.box 3 (.dat 3 (.int r.2.2)))]:=
 FX_of (q:=((.dat 4 (.bool r.1)),[(.box 3 (.dat 3 (.int r.2.1))),(.box 3 (.dat 3 (.int r.2.2)))])) (E:=env) (m:=m+1) (dec:=d61) jn_ok (hct _) mixed Tryd.func74 rfl (Nat.le_of_ble_eq_true rfl) (fun b hb=>d61_sim hb) ((i64_eq m a0 a1 a2).trans h)
theorem value_Depth_fx (m:Nat) (hct:∀R,CallOK (R:=R) Tryd.prog (ct m)) (a0:Dt) {r:Int} (h:value_Depth (m+1) a0=some r):FX Tryd.prog 40 [(.dat 27 a0)] [] (.dat 3 (.int r)) []:=
 FX_of (q:=((.dat 3 (.int r)),[])) (E:=env) (m:=m+1) (dec:=d9) jn_ok (hct _) mixed Tryd.func40 rfl (Nat.le_of_ble_eq_true rfl) (fun b hb=>d9_sim hb) ((value_Depth_eq m a0).trans h)
theorem ref01_Parts_fx (m:Nat) (hct:∀R,CallOK (R:=R) Tryd.prog (ct m)) (a0:Dt) {r:List Dt} (h:ref01_Parts (m+1) a0=some r):FX Tryd.prog 55 [(.dat 27 a0)] [] (.dat 24 (.lst r)) []:=
 FX_of (q:=((.dat 24 (.lst r)),[])) (E:=env) (m:=m+1) (dec:=d58) jn_ok (hct _) mixed Tryd.func55 rfl (Nat.le_of_ble_eq_true rfl) (fun b hb=>d58_sim hb) ((ref01_Parts_eq m a0).trans h)
theorem ref01_levels_fx (m:Nat) (hct:∀R,CallOK (R:=R) Tryd.prog (ct m)) (a0:Dt) (a1:Int) {r:Int} (h:ref01_levels (m+1) a0 a1=some r):FX Tryd.prog 35 [(.dat 27 a0),(.dat 3 (.int a1))] [] (.dat 3 (.int r)) []:=
 FX_of (q:=((.dat 3 (.int r)),[])) (E:=env) (m:=m+1) (dec:=d9) jn_ok (hct _) mixed Tryd.func35 rfl (Nat.le_of_ble_eq_true rfl) (fun b hb=>d9_sim hb) ((ref01_levels_eq m a0 a1).trans h)
theorem ref01_Depth_fx (m:Nat) (hct:∀R,CallOK (R:=R) Tryd.prog (ct m)) (a0:Dt) {r:Int} (h:ref01_Depth (m+1) a0=some r):FX Tryd.prog 20 [(.dat 27 a0)] [] (.dat 3 (.int r)) []:=
 FX_of (q:=((.dat 3 (.int r)),[])) (E:=env) (m:=m+1) (dec:=d9) jn_ok (hct _) mixed Tryd.func20 rfl (Nat.le_of_ble_eq_true rfl) (fun b hb=>d9_sim hb) ((ref01_Depth_eq m a0).trans h)
theorem ref01_count_fx (m:Nat) (hct:∀R,CallOK (R:=R) Tryd.prog (ct m)) (a0:Dt) (a1:Int) {r:Int} (h:ref01_count (m+1) a0 a1=some r):FX Tryd.prog 36 [(.dat 27 a0),(.dat 3 (.int a1))] [] (.dat 3 (.int r)) []:=
 FX_of (q:=((.dat 3 (.int r)),[])) (E:=env) (m:=m+1) (dec:=d9) jn_ok (hct _) mixed Tryd.func36 rfl (Nat.le_of_ble_eq_true rfl) (fun b hb=>d9_sim hb) ((ref01_count_eq m a0 a1).trans h)
theorem ref01_Nodes_fx (m:Nat) (hct:∀R,CallOK (R:=R) Tryd.prog (ct m)) (a0:Dt) {r:Int} (h:ref01_Nodes (m+1) a0=some r):FX Tryd.prog 21 [(.dat 27 a0)] [] (.dat 3 (.int r)) []:=
 FX_of (q:=((.dat 3 (.int r)),[])) (E:=env) (m:=m+1) (dec:=d9) jn_ok (hct _) mixed Tryd.func21 rfl (Nat.le_of_ble_eq_true rfl) (fun b hb=>d9_sim hb) ((ref01_Nodes_eq m a0).trans h)
theorem value_isName_fx (m:Nat) (hct:∀R,CallOK (R:=R) Tryd.prog (ct m)) (a0:ByteArray) {r:Bool} (h:value_isName (m+1) a0=some r):FX Tryd.prog 86 [(.dat 9 (.str a0))] [] (.dat 4 (.bool r)) []:=
 FX_of (q:=((.dat 4 (.bool r)),[])) (E:=env) (m:=m+1) (dec:=d3) jn_ok (hct _) mixed Tryd.func86 rfl (Nat.le_of_ble_eq_true rfl) (fun b hb=>d3_sim hb) ((value_isName_eq m a0).trans h)
theorem value_sound_fx (m:Nat) (hct:∀R,CallOK (R:=R) Tryd.prog (ct m)) (a0:Dt) {r:Bool} (h:value_sound (m+1) a0=some r):FX Tryd.prog 63 [(.dat 27 a0)] [] (.dat 4 (.bool r)) []:=
 FX_of (q:=((.dat 4 (.bool r)),[])) (E:=env) (m:=m+1) (dec:=d3) jn_ok (hct _) mixed Tryd.func63 rfl (Nat.le_of_ble_eq_true rfl) (fun b hb=>d3_sim hb) ((value_sound_eq m a0).trans h)
theorem value_soundFields_fx (m:Nat) (hct:∀R,CallOK (R:=R) Tryd.prog (ct m)) (a0:List Dt) {r:Bool} (h:value_soundFields (m+1) a0=some r):FX Tryd.prog 76 [(.dat 25 (.lst a0))] [] (.dat 4 (.bool r)) []:=
 FX_of (q:=((.dat 4 (.bool r)),[])) (E:=env) (m:=m+1) (dec:=d3) jn_ok (hct _) mixed Tryd.func76 rfl (Nat.le_of_ble_eq_true rfl) (fun b hb=>d3_sim hb) ((value_soundFields_eq m a0).trans h)
theorem value_Valid_fx (m:Nat) (hct:∀R,CallOK (R:=R) Tryd.prog (ct m)) (a0:Dt) {r:Bool} (h:value_Valid (m+1) a0=some r):FX Tryd.prog 42 [(.dat 27 a0)] [] (.dat 4 (.bool r)) []:=
 FX_of (q:=((.dat 4 (.bool r)),[])) (E:=env) (m:=m+1) (dec:=d3) jn_ok (hct _) mixed Tryd.func42 rfl (Nat.le_of_ble_eq_true rfl) (fun b hb=>d3_sim hb) ((value_Valid_eq m a0).trans h)
theorem notation_wellFormed_fx (m:Nat) (hct:∀R,CallOK (R:=R) Tryd.prog (ct m)) (a0:Dt) {r:Bool} (h:notation_wellFormed (m+1) a0=some r):FX Tryd.prog 24 [(.dat 27 a0)] [] (.dat 4 (.bool r)) []:=
 FX_of (q:=((.dat 4 (.bool r)),[])) (E:=env) (m:=m+1) (dec:=d3) jn_ok (hct _) mixed Tryd.func24 rfl (Nat.le_of_ble_eq_true rfl) (fun b hb=>d3_sim hb) ((notation_wellFormed_eq m a0).trans h)
theorem notation_Print_fx (m:Nat) (hct:∀R,CallOK (R:=R) Tryd.prog (ct m)) (a0:Dt) {r:ByteArray×Int} (h:notation_Print (m+1) a0=some r):FX Tryd.prog 13 [(.dat 27 a0)] [] (.tup [(.dat 9 (.str r.1)),(.dat 28 (.int r.2))]) []:=
 FX_of (q:=((.tup [(.dat 9 (.str r.1)),(.dat 28 (.int r.2))]),[])) (E:=env) (m:=m+1) (dec:=d5) jn_ok (hct _) mixed Tryd.func13 rfl (Nat.le_of_ble_eq_true rfl) (fun b hb=>d5_sim hb) ((notation_Print_eq m a0).trans h)
theorem law05_NotationCut_fx (m:Nat) (hct:∀R,CallOK (R:=R) Tryd.prog (ct m)) (a0:Dt) (a1:Int) {r:Bool} (h:law05_NotationCut (m+1) a0 a1=some r):FX Tryd.prog 6 [(.dat 27 a0),(.dat 38 (.int a1))] [] (.dat 4 (.bool r)) []:=
 FX_of (q:=((.dat 4 (.bool r)),[])) (E:=env) (m:=m+1) (dec:=d3) jn_ok (hct _) mixed Tryd.func6 rfl (Nat.le_of_ble_eq_true rfl) (fun b hb=>d3_sim hb) ((law05_NotationCut_eq m a0 a1).trans h)
theorem ref01_tail_fx (m:Nat) (hct:∀R,CallOK (R:=R) Tryd.prog (ct m)) (a0:ByteArray) (a1 a2:Int) {r:Bool} (h:ref01_tail (m+1) a0 a1 a2=some r):FX Tryd.prog 56 [(.dat 9 (.str a0)),(.dat 3 (.int a1)),(.dat 3 (.int a2))] [] (.dat 4 (.bool r)) []:=
 FX_of (q:=((.dat 4 (.bool r)),[])) (E:=env) (m:=m+1) (dec:=d3) jn_ok (hct _) mixed Tryd.func56 rfl (Nat.le_of_ble_eq_true rfl) (fun b hb=>d3_sim hb) ((ref01_tail_eq m a0 a1 a2).trans h)
theorem ref01_UTF8_fx (m:Nat) (hct:∀R,CallOK (R:=R) Tryd.prog (ct m)) (a0:ByteArray) {r:Bool} (h:ref01_UTF8 (m+1) a0=some r):FX Tryd.prog 37 [(.dat 9 (.str a0))] [] (.dat 4 (.bool r)) []:=
 FX_of (q:=((.dat 4 (.bool r)),[])) (E:=env) (m:=m+1) (dec:=d3) jn_ok (hct _) mixed Tryd.func37 rfl (Nat.le_of_ble_eq_true rfl) (fun b hb=>d3_sim hb) ((ref01_UTF8_eq m a0).trans h)
theorem ref01_Name_fx (m:Nat) (hct:∀R,CallOK (R:=R) Tryd.prog (ct m)) (a0:ByteArray) {r:Bool} (h:ref01_Name (m+1) a0=some r):FX Tryd.prog 57 [(.dat 9 (.str a0))] [] (.dat 4 (.bool r)) []:=
 FX_of (q:=((.dat 4 (.bool r)),[])) (E:=env) (m:=m+1) (dec:=d3) jn_ok (hct _) mixed Tryd.func57 rfl (Nat.le_of_ble_eq_true rfl) (fun b hb=>d3_sim hb) ((ref01_Name_eq m a0).trans h)
theorem ref01_wide_fx (m:Nat) (hct:∀R,CallOK (R:=R) Tryd.prog (ct m)) (a0:ByteArray) {r:Bool} (h:ref01_wide (m+1) a0=some r):FX Tryd.prog 58 [(.dat 9 (.str a0))] [] (.dat 4 (.bool r)) []:=
 FX_of (q:=((.dat 4 (.bool r)),[])) (E:=env) (m:=m+1) (dec:=d3) jn_ok (hct _) mixed Tryd.func58 rfl (Nat.le_of_ble_eq_true rfl) (fun b hb=>d3_sim hb) ((ref01_wide_eq m a0).trans h)
theorem ref01_formed_fx (m:Nat) (hct:∀R,CallOK (R:=R) Tryd.prog (ct m)) (a0:Dt) (a1:Bool) {r:Bool} (h:ref01_formed (m+1) a0 a1=some r):FX Tryd.prog 22 [(.dat 27 a0),(.dat 4 (.bool a1))] [] (.dat 4 (.bool r)) []:=
 FX_of (q:=((.dat 4 (.bool r)),[])) (E:=env) (m:=m+1) (dec:=d3) jn_ok (hct _) mixed Tryd.func22 rfl (Nat.le_of_ble_eq_true rfl) (fun b hb=>d3_sim hb) ((ref01_formed_eq m a0 a1).trans h)
theorem ref01_fields_fx (m:Nat) (hct:∀R,CallOK (R:=R) Tryd.prog (ct m)) (a0:Dt) (a1:Bool) {r:Bool} (h:ref01_fields (m+1) a0 a1=some r):FX Tryd.prog 38 [(.dat 27 a0),(.dat 4 (.bool a1))] [] (.dat 4 (.bool r)) []:=
 FX_of (q:=((.dat 4 (.bool r)),[])) (E:=env) (m:=m+1) (dec:=d3) jn_ok (hct _) mixed Tryd.func38 rfl (Nat.le_of_ble_eq_true rfl) (fun b hb=>d3_sim hb) ((ref01_fields_eq m a0 a1).trans h)
theorem ref01_Valid_fx (m:Nat) (hct:∀R,CallOK (R:=R) Tryd.prog (ct m)) (a0:Dt) {r:Bool} (h:ref01_Valid (m+1) a0=some r):FX Tryd.prog 11 [(.dat 27 a0)] [] (.dat 4 (.bool r)) []:=
 FX_of (q:=((.dat 4 (.bool r)),[])) (E:=env) (m:=m+1) (dec:=d3) jn_ok (hct _) mixed Tryd.func11 rfl (Nat.le_of_ble_eq_true rfl) (fun b hb=>d3_sim hb) ((ref01_Valid_eq m a0).trans h)
theorem ref05_formed_fx (m:Nat) (hct:∀R,CallOK (R:=R) Tryd.prog (ct m)) (a0:Dt) {r:Bool} (h:ref05_formed (m+1) a0=some r):FX Tryd.prog 26 [(.dat 27 a0)] [] (.dat 4 (.bool r)) []:=
 FX_of (q:=((.dat 4 (.bool r)),[])) (E:=env) (m:=m+1) (dec:=d3) jn_ok (hct _) mixed Tryd.func26 rfl (Nat.le_of_ble_eq_true rfl) (fun b hb=>d3_sim hb) ((ref05_formed_eq m a0).trans h)
theorem ref05_WellFormed_fx (m:Nat) (hct:∀R,CallOK (R:=R) Tryd.prog (ct m)) (a0:Dt) {r:Bool} (h:ref05_WellFormed (m+1) a0=some r):FX Tryd.prog 14 [(.dat 27 a0)] [] (.dat 4 (.bool r)) []:=
 FX_of (q:=((.dat 4 (.bool r)),[])) (E:=env) (m:=m+1) (dec:=d3) jn_ok (hct _) mixed Tryd.func14 rfl (Nat.le_of_ble_eq_true rfl) (fun b hb=>d3_sim hb) ((ref05_WellFormed_eq m a0).trans h)
theorem law05_NotationBack_fx (m:Nat) (hct:∀R,CallOK (R:=R) Tryd.prog (ct m)) (a0:Dt) (a1 a2:Int) {r:Bool} (h:law05_NotationBack (m+1) a0 a1 a2=some r):FX Tryd.prog 4 [(.dat 27 a0),(.dat 5 (.int a1)),(.dat 5 (.int a2))] [] (.dat 4 (.bool r)) []:=
 FX_of (q:=((.dat 4 (.bool r)),[])) (E:=env) (m:=m+1) (dec:=d3) jn_ok (hct _) mixed Tryd.func4 rfl (Nat.le_of_ble_eq_true rfl) (fun b hb=>d3_sim hb) ((law05_NotationBack_eq m a0 a1 a2).trans h)
theorem law05_NotationAgain_fx (m:Nat) (hct:∀R,CallOK (R:=R) Tryd.prog (ct m)) (a0:ByteArray) {r:Bool} (h:law05_NotationAgain (m+1) a0=some r):FX Tryd.prog 5 [(.dat 9 (.str a0))] [] (.dat 4 (.bool r)) []:=
 FX_of (q:=((.dat 4 (.bool r)),[])) (E:=env) (m:=m+1) (dec:=d3) jn_ok (hct _) mixed Tryd.func5 rfl (Nat.le_of_ble_eq_true rfl) (fun b hb=>d3_sim hb) ((law05_NotationAgain_eq m a0).trans h)
theorem ct4_ok (m:Nat) (hct:∀k,k<m→∀R,CallOK (R:=R) Tryd.prog (ct k)) {R:Type} {args:List AV} {objs:List Ob} {K:Res→Option R} {r:R} (h:ct4 m args objs K=some r):∃q:Res,K q=some r∧FX Tryd.prog 4 args objs q.1 q.2∧HasBody Tryd.prog 4:=by
 unfold ct4 at h
 split at h
 ·rename_i l hl
  obtain⟨x,hx,hk⟩:=Option.bind_eq_some_iff.1 h
  obtain⟨h1,h2⟩:=sel0_ok hl
  cases m with
  |zero=>cases hx
  |succ m=>exact⟨_,hk,(law05_NotationBack_fx m (hct m (Nat.lt_succ_self m)) _ _ _ hx).conv h1 h2,⟨_,Tryd.func4,rfl,by decide⟩⟩
 cases h
theorem ct5_ok (m:Nat) (hct:∀k,k<m→∀R,CallOK (R:=R) Tryd.prog (ct k)) {R:Type} {args:List AV} {objs:List Ob} {K:Res→Option R} {r:R} (h:ct5 m args objs K=some r):∃q:Res,K q=some r∧FX Tryd.prog 5 args objs q.1 q.2∧HasBody Tryd.prog 5:=by
 unfold ct5 at h
 split at h
 ·rename_i l hl
  obtain⟨x,hx,hk⟩:=Option.bind_eq_some_iff.1 h
  obtain⟨h1,h2⟩:=sel1_ok hl
  cases m with
  |zero=>cases hx
  |succ m=>exact⟨_,hk,(law05_NotationAgain_fx m (hct m (Nat.lt_succ_self m)) _ hx).conv h1 h2,⟨_,Tryd.func5,rfl,by decide⟩⟩
 cases h
theorem ct6_ok (m:Nat) (hct:∀k,k<m→∀R,CallOK (R:=R) Tryd.prog (ct k)) {R:Type} {args:List AV} {objs:List Ob} {K:Res→Option R} {r:R} (h:ct6 m args objs K=some r):∃q:Res,K q=some r∧FX Tryd.prog 6 args objs q.1 q.2∧HasBody Tryd.prog 6:=by
 unfold ct6 at h
 split at h
 ·rename_i l hl
  obtain⟨x,hx,hk⟩:=Option.bind_eq_some_iff.1 h
  obtain⟨h1,h2⟩:=sel2_ok hl
  cases m with
  |zero=>cases hx
  |succ m=>exact⟨_,hk,(law05_NotationCut_fx m (hct m (Nat.lt_succ_self m)) _ _ hx).conv h1 h2,⟨_,Tryd.func6,rfl,by decide⟩⟩
 cases h
theorem ct12_ok (m:Nat) (hct:∀k,k<m→∀R,CallOK (R:=R) Tryd.prog (ct k)) {R:Type} {args:List AV} {objs:List Ob} {K:Res→Option R} {r:R} (h:ct12 m args objs K=some r):∃q:Res,K q=some r∧FX Tryd.prog 12 args objs q.1 q.2∧HasBody Tryd.prog 12:=by
 unfold ct12 at h
 split at h
 ·rename_i l hl
  obtain⟨x,hx,hk⟩:=Option.bind_eq_some_iff.1 h
  obtain⟨h1,h2⟩:=sel3_ok hl
  cases m with
  |zero=>cases hx
  |succ m=>exact⟨_,hk,(ref02_Few_fx m (hct m (Nat.lt_succ_self m)) _ _ hx).conv h1 h2,⟨_,Tryd.func12,rfl,by decide⟩⟩
 cases h
theorem ct7_ok (m:Nat) (hct:∀k,k<m→∀R,CallOK (R:=R) Tryd.prog (ct k)) {R:Type} {args:List AV} {objs:List Ob} {K:Res→Option R} {r:R} (h:ct7 m args objs K=some r):∃q:Res,K q=some r∧FX Tryd.prog 7 args objs q.1 q.2∧HasBody Tryd.prog 7:=by
 unfold ct7 at h
 split at h
 ·rename_i l hl
  obtain⟨x,hx,hk⟩:=Option.bind_eq_some_iff.1 h
  obtain⟨h1,h2⟩:=sel4_ok hl
  exact⟨_,hk,(awakeC_fx hx).conv h1 h2,⟨_,Tryd.func7,rfl,by decide⟩⟩
 cases h
theorem ct13_ok (m:Nat) (hct:∀k,k<m→∀R,CallOK (R:=R) Tryd.prog (ct k)) {R:Type} {args:List AV} {objs:List Ob} {K:Res→Option R} {r:R} (h:ct13 m args objs K=some r):∃q:Res,K q=some r∧FX Tryd.prog 13 args objs q.1 q.2∧HasBody Tryd.prog 13:=by
 unfold ct13 at h
 split at h
 ·rename_i l hl
  obtain⟨x,hx,hk⟩:=Option.bind_eq_some_iff.1 h
  obtain⟨h1,h2⟩:=sel5_ok hl
  cases m with
  |zero=>cases hx
  |succ m=>exact⟨_,hk,(notation_Print_fx m (hct m (Nat.lt_succ_self m)) _ hx).conv h1 h2,⟨_,Tryd.func13,rfl,by decide⟩⟩
 cases h
theorem ct14_ok (m:Nat) (hct:∀k,k<m→∀R,CallOK (R:=R) Tryd.prog (ct k)) {R:Type} {args:List AV} {objs:List Ob} {K:Res→Option R} {r:R} (h:ct14 m args objs K=some r):∃q:Res,K q=some r∧FX Tryd.prog 14 args objs q.1 q.2∧HasBody Tryd.prog 14:=by
 unfold ct14 at h
 split at h
 ·rename_i l hl
  obtain⟨x,hx,hk⟩:=Option.bind_eq_some_iff.1 h
  obtain⟨h1,h2⟩:=sel5_ok hl
  cases m with
  |zero=>cases hx
  |succ m=>exact⟨_,hk,(ref05_WellFormed_fx m (hct m (Nat.lt_succ_self m)) _ hx).conv h1 h2,⟨_,Tryd.func14,rfl,by decide⟩⟩
 cases h
theorem ct10_ok (m:Nat) (hct:∀k,k<m→∀R,CallOK (R:=R) Tryd.prog (ct k)) {R:Type} {args:List AV} {objs:List Ob} {K:Res→Option R} {r:R} (h:ct10 m args objs K=some r):∃q:Res,K q=some r∧FX Tryd.prog 10 args objs q.1 q.2∧HasBody Tryd.prog 10:=by
 unfold ct10 at h
 split at h
 ·rename_i l hl
  obtain⟨x,hx,hk⟩:=Option.bind_eq_some_iff.1 h
  obtain⟨h1,h2⟩:=sel1_ok hl
  cases m with
  |zero=>cases hx
  |succ m=>exact⟨_,hk,(notation_Parse_fx m (hct m (Nat.lt_succ_self m)) _ hx).conv h1 h2,⟨_,Tryd.func10,rfl,by decide⟩⟩
 cases h
theorem ct15_ok (m:Nat) (hct:∀k,k<m→∀R,CallOK (R:=R) Tryd.prog (ct k)) {R:Type} {args:List AV} {objs:List Ob} {K:Res→Option R} {r:R} (h:ct15 m args objs K=some r):∃q:Res,K q=some r∧FX Tryd.prog 15 args objs q.1 q.2∧HasBody Tryd.prog 15:=by
 unfold ct15 at h
 split at h
 ·rename_i l hl
  obtain⟨x,hx,hk⟩:=Option.bind_eq_some_iff.1 h
  obtain⟨h1,h2⟩:=sel8_ok hl
  cases m with
  |zero=>cases hx
  |succ m=>exact⟨_,hk,(ref05_Same_fx m (hct m (Nat.lt_succ_self m)) _ _ hx).conv h1 h2,⟨_,Tryd.func15,rfl,by decide⟩⟩
 cases h
theorem ct23_ok (m:Nat) (hct:∀k,k<m→∀R,CallOK (R:=R) Tryd.prog (ct k)) {R:Type} {args:List AV} {objs:List Ob} {K:Res→Option R} {r:R} (h:ct23 m args objs K=some r):∃q:Res,K q=some r∧FX Tryd.prog 23 args objs q.1 q.2∧HasBody Tryd.prog 23:=by
 unfold ct23 at h
 split at h
 ·rename_i l hl
  obtain⟨x,hx,hk⟩:=Option.bind_eq_some_iff.1 h
  obtain⟨h1,h2⟩:=sel9_ok hl
  cases m with
  |zero=>cases hx
  |succ m=>exact⟨_,hk,(ref02_count_fx m (hct m (Nat.lt_succ_self m)) _ _ _ hx).conv h1 h2,⟨_,Tryd.func23,rfl,by decide⟩⟩
 cases h
theorem ct24_ok (m:Nat) (hct:∀k,k<m→∀R,CallOK (R:=R) Tryd.prog (ct k)) {R:Type} {args:List AV} {objs:List Ob} {K:Res→Option R} {r:R} (h:ct24 m args objs K=some r):∃q:Res,K q=some r∧FX Tryd.prog 24 args objs q.1 q.2∧HasBody Tryd.prog 24:=by
 unfold ct24 at h
 split at h
 ·rename_i l hl
  obtain⟨x,hx,hk⟩:=Option.bind_eq_some_iff.1 h
  obtain⟨h1,h2⟩:=sel5_ok hl
  cases m with
  |zero=>cases hx
  |succ m=>exact⟨_,hk,(notation_wellFormed_fx m (hct m (Nat.lt_succ_self m)) _ hx).conv h1 h2,⟨_,Tryd.func24,rfl,by decide⟩⟩
 cases h
theorem ct25_ok (m:Nat) (hct:∀k,k<m→∀R,CallOK (R:=R) Tryd.prog (ct k)) {R:Type} {args:List AV} {objs:List Ob} {K:Res→Option R} {r:R} (h:ct25 m args objs K=some r):∃q:Res,K q=some r∧FX Tryd.prog 25 args objs q.1 q.2∧HasBody Tryd.prog 25:=by
 unfold ct25 at h
 split at h
 ·rename_i l hl
  obtain⟨x,hx,hk⟩:=Option.bind_eq_some_iff.1 h
  obtain⟨h1,h2⟩:=sel11_ok hl
  cases m with
  |zero=>cases hx
  |succ m=>exact⟨_,hk,(i11_fx m (hct m (Nat.lt_succ_self m)) _ _ hx).conv h1 h2,⟨_,Tryd.func25,rfl,by decide⟩⟩
 cases h
theorem ct43_ok (m:Nat) (hct:∀k,k<m→∀R,CallOK (R:=R) Tryd.prog (ct k)) {R:Type} {args:List AV} {objs:List Ob} {K:Res→Option R} {r:R} (h:ct43 m args objs K=some r):∃q:Res,K q=some r∧FX Tryd.prog 43 args objs q.1 q.2∧HasBody Tryd.prog 43:=by
 unfold ct43 at h
 split at h
 ·rename_i l hl
  obtain⟨x,hx,hk⟩:=Option.bind_eq_some_iff.1 h
  obtain⟨h1,h2⟩:=sel12_ok hl
  cases m with
  |zero=>cases hx
  |succ m=>exact⟨_,hk,(i12_fx m (hct m (Nat.lt_succ_self m)) _ _ hx).conv h1 h2,⟨_,Tryd.func43,rfl,by decide⟩⟩
 cases h
theorem ct64_ok (m:Nat) (hct:∀k,k<m→∀R,CallOK (R:=R) Tryd.prog (ct k)) {R:Type} {args:List AV} {objs:List Ob} {K:Res→Option R} {r:R} (h:ct64 m args objs K=some r):∃q:Res,K q=some r∧FX Tryd.prog 64 args objs q.1 q.2∧HasBody Tryd.prog 64:=by
 unfold ct64 at h
 split at h
 ·rename_i l hl
  obtain⟨x,hx,hk⟩:=Option.bind_eq_some_iff.1 h
  obtain⟨h1,h2⟩:=sel12_ok hl
  cases m with
  |zero=>cases hx
  |succ m=>exact⟨_,hk,(i13_fx m (hct m (Nat.lt_succ_self m)) _ _ hx).conv h1 h2,⟨_,Tryd.func64,rfl,by decide⟩⟩
 cases h
theorem ct44_ok (m:Nat) (hct:∀k,k<m→∀R,CallOK (R:=R) Tryd.prog (ct k)) {R:Type} {args:List AV} {objs:List Ob} {K:Res→Option R} {r:R} (h:ct44 m args objs K=some r):∃q:Res,K q=some r∧FX Tryd.prog 44 args objs q.1 q.2∧HasBody Tryd.prog 44:=by
 unfold ct44 at h
 split at h
 ·rename_i l hl
  obtain⟨x,hx,hk⟩:=Option.bind_eq_some_iff.1 h
  obtain⟨h1,h2⟩:=sel14_ok hl
  exact⟨_,hk,(AppendInt_fx hx).conv h1 h2,⟨_,Tryd.func44,rfl,by decide⟩⟩
 cases h
theorem ct8_ok (m:Nat) (hct:∀k,k<m→∀R,CallOK (R:=R) Tryd.prog (ct k)) {R:Type} {args:List AV} {objs:List Ob} {K:Res→Option R} {r:R} (h:ct8 m args objs K=some r):∃q:Res,K q=some r∧FX Tryd.prog 8 args objs q.1 q.2∧HasBody Tryd.prog 8:=by
 unfold ct8 at h
 split at h
 ·rename_i l hl
  obtain⟨x,hx,hk⟩:=Option.bind_eq_some_iff.1 h
  obtain⟨h1,h2⟩:=sel1_ok hl
  cases m with
  |zero=>cases hx
  |succ m=>exact⟨_,hk,(notation_Quote_fx m (hct m (Nat.lt_succ_self m)) _ hx).conv h1 h2,⟨_,Tryd.func8,rfl,by decide⟩⟩
 cases h
theorem ct45_ok (m:Nat) (hct:∀k,k<m→∀R,CallOK (R:=R) Tryd.prog (ct k)) {R:Type} {args:List AV} {objs:List Ob} {K:Res→Option R} {r:R} (h:ct45 m args objs K=some r):∃q:Res,K q=some r∧FX Tryd.prog 45 args objs q.1 q.2∧HasBody Tryd.prog 45:=by
 unfold ct45 at h
 split at h
 ·rename_i l hl
  obtain⟨x,hx,hk⟩:=Option.bind_eq_some_iff.1 h
  obtain⟨h1,h2⟩:=sel16_ok hl
  cases m with
  |zero=>cases hx
  |succ m=>exact⟨_,hk,(i16_fx m (hct m (Nat.lt_succ_self m)) _ _ hx).conv h1 h2,⟨_,Tryd.func45,rfl,by decide⟩⟩
 cases h
theorem ct46_ok (m:Nat) (hct:∀k,k<m→∀R,CallOK (R:=R) Tryd.prog (ct k)) {R:Type} {args:List AV} {objs:List Ob} {K:Res→Option R} {r:R} (h:ct46 m args objs K=some r):∃q:Res,K q=some r∧FX Tryd.prog 46 args objs q.1 q.2∧HasBody Tryd.prog 46:=by
 unfold ct46 at h
 split at h
 ·rename_i l hl
  obtain⟨x,hx,hk⟩:=Option.bind_eq_some_iff.1 h
  obtain⟨h1,h2⟩:=sel17_ok hl
  cases m with
  |zero=>cases hx
  |succ m=>exact⟨_,hk,(i17_fx m (hct m (Nat.lt_succ_self m)) _ _ hx).conv h1 h2,⟨_,Tryd.func46,rfl,by decide⟩⟩
 cases h
theorem ct47_ok (m:Nat) (hct:∀k,k<m→∀R,CallOK (R:=R) Tryd.prog (ct k)) {R:Type} {args:List AV} {objs:List Ob} {K:Res→Option R} {r:R} (h:ct47 m args objs K=some r):∃q:Res,K q=some r∧FX Tryd.prog 47 args objs q.1 q.2∧HasBody Tryd.prog 47:=by
 unfold ct47 at h
 split at h
 ·rename_i l hl
  obtain⟨x,hx,hk⟩:=Option.bind_eq_some_iff.1 h
  obtain⟨h1,h2⟩:=sel18_ok hl
  cases m with
  |zero=>cases hx
  |succ m=>exact⟨_,hk,(i18_fx m (hct m (Nat.lt_succ_self m)) _ _ hx).conv h1 h2,⟨_,Tryd.func47,rfl,by decide⟩⟩
 cases h
theorem ct53_ok (m:Nat) (hct:∀k,k<m→∀R,CallOK (R:=R) Tryd.prog (ct k)) {R:Type} {args:List AV} {objs:List Ob} {K:Res→Option R} {r:R} (h:ct53 m args objs K=some r):∃q:Res,K q=some r∧FX Tryd.prog 53 args objs q.1 q.2∧HasBody Tryd.prog 53:=by
 unfold ct53 at h
 split at h
 ·rename_i l hl
  obtain⟨x,hx,hk⟩:=Option.bind_eq_some_iff.1 h
  obtain⟨h1,h2⟩:=sel19_ok hl
  cases m with
  |zero=>cases hx
  |succ m=>exact⟨_,hk,(notation_special_fx m (hct m (Nat.lt_succ_self m)) _ hx).conv h1 h2,⟨_,Tryd.func53,rfl,by decide⟩⟩
 split at h
 ·rename_i l hl
  obtain⟨x,hx,hk⟩:=Option.bind_eq_some_iff.1 h
  obtain⟨h1,h2⟩:=sel40_ok hl
  cases m with
  |zero=>cases hx
  |succ m=>exact⟨_,hk,(i40_fx m (hct m (Nat.lt_succ_self m)) _ hx).conv h1 h2,⟨_,Tryd.func53,rfl,by decide⟩⟩
 cases h
theorem ct20_ok (m:Nat) (hct:∀k,k<m→∀R,CallOK (R:=R) Tryd.prog (ct k)) {R:Type} {args:List AV} {objs:List Ob} {K:Res→Option R} {r:R} (h:ct20 m args objs K=some r):∃q:Res,K q=some r∧FX Tryd.prog 20 args objs q.1 q.2∧HasBody Tryd.prog 20:=by
 unfold ct20 at h
 split at h
 ·rename_i l hl
  obtain⟨x,hx,hk⟩:=Option.bind_eq_some_iff.1 h
  obtain⟨h1,h2⟩:=sel5_ok hl
  cases m with
  |zero=>cases hx
  |succ m=>exact⟨_,hk,(ref01_Depth_fx m (hct m (Nat.lt_succ_self m)) _ hx).conv h1 h2,⟨_,Tryd.func20,rfl,by decide⟩⟩
 cases h
theorem ct21_ok (m:Nat) (hct:∀k,k<m→∀R,CallOK (R:=R) Tryd.prog (ct k)) {R:Type} {args:List AV} {objs:List Ob} {K:Res→Option R} {r:R} (h:ct21 m args objs K=some r):∃q:Res,K q=some r∧FX Tryd.prog 21 args objs q.1 q.2∧HasBody Tryd.prog 21:=by
 unfold ct21 at h
 split at h
 ·rename_i l hl
  obtain⟨x,hx,hk⟩:=Option.bind_eq_some_iff.1 h
  obtain⟨h1,h2⟩:=sel5_ok hl
  cases m with
  |zero=>cases hx
  |succ m=>exact⟨_,hk,(ref01_Nodes_fx m (hct m (Nat.lt_succ_self m)) _ hx).conv h1 h2,⟨_,Tryd.func21,rfl,by decide⟩⟩
 cases h
theorem ct26_ok (m:Nat) (hct:∀k,k<m→∀R,CallOK (R:=R) Tryd.prog (ct k)) {R:Type} {args:List AV} {objs:List Ob} {K:Res→Option R} {r:R} (h:ct26 m args objs K=some r):∃q:Res,K q=some r∧FX Tryd.prog 26 args objs q.1 q.2∧HasBody Tryd.prog 26:=by
 unfold ct26 at h
 split at h
 ·rename_i l hl
  obtain⟨x,hx,hk⟩:=Option.bind_eq_some_iff.1 h
  obtain⟨h1,h2⟩:=sel5_ok hl
  cases m with
  |zero=>cases hx
  |succ m=>exact⟨_,hk,(ref05_formed_fx m (hct m (Nat.lt_succ_self m)) _ hx).conv h1 h2,⟨_,Tryd.func26,rfl,by decide⟩⟩
 cases h
theorem ct17_ok (m:Nat) (hct:∀k,k<m→∀R,CallOK (R:=R) Tryd.prog (ct k)) {R:Type} {args:List AV} {objs:List Ob} {K:Res→Option R} {r:R} (h:ct17 m args objs K=some r):∃q:Res,K q=some r∧FX Tryd.prog 17 args objs q.1 q.2∧HasBody Tryd.prog 17:=by
 unfold ct17 at h
 split at h
 ·rename_i l hl
  obtain⟨x,hx,hk⟩:=Option.bind_eq_some_iff.1 h
  obtain⟨h1,h2⟩:=sel23_ok hl
  cases m with
  |zero=>cases hx
  |succ m=>exact⟨_,hk,(i23_fx m (hct m (Nat.lt_succ_self m)) _ hx).conv h1 h2,⟨_,Tryd.func17,rfl,by decide⟩⟩
 cases h
theorem ct28_ok (m:Nat) (hct:∀k,k<m→∀R,CallOK (R:=R) Tryd.prog (ct k)) {R:Type} {args:List AV} {objs:List Ob} {K:Res→Option R} {r:R} (h:ct28 m args objs K=some r):∃q:Res,K q=some r∧FX Tryd.prog 28 args objs q.1 q.2∧HasBody Tryd.prog 28:=by
 unfold ct28 at h
 split at h
 ·rename_i l hl
  obtain⟨x,hx,hk⟩:=Option.bind_eq_some_iff.1 h
  obtain⟨h1,h2⟩:=sel23_ok hl
  cases m with
  |zero=>cases hx
  |succ m=>exact⟨_,hk,(i24_fx m (hct m (Nat.lt_succ_self m)) _ hx).conv h1 h2,⟨_,Tryd.func28,rfl,by decide⟩⟩
 cases h
theorem ct18_ok (m:Nat) (hct:∀k,k<m→∀R,CallOK (R:=R) Tryd.prog (ct k)) {R:Type} {args:List AV} {objs:List Ob} {K:Res→Option R} {r:R} (h:ct18 m args objs K=some r):∃q:Res,K q=some r∧FX Tryd.prog 18 args objs q.1 q.2∧HasBody Tryd.prog 18:=by
 unfold ct18 at h
 split at h
 ·rename_i l hl
  obtain⟨x,hx,hk⟩:=Option.bind_eq_some_iff.1 h
  obtain⟨h1,h2⟩:=sel25_ok hl
  cases m with
  |zero=>cases hx
  |succ m=>exact⟨_,hk,(i25_fx m (hct m (Nat.lt_succ_self m)) _ _ _ hx).conv h1 h2,⟨_,Tryd.func18,rfl,by decide⟩⟩
 cases h
theorem ct29_ok (m:Nat) (hct:∀k,k<m→∀R,CallOK (R:=R) Tryd.prog (ct k)) {R:Type} {args:List AV} {objs:List Ob} {K:Res→Option R} {r:R} (h:ct29 m args objs K=some r):∃q:Res,K q=some r∧FX Tryd.prog 29 args objs q.1 q.2∧HasBody Tryd.prog 29:=by
 unfold ct29 at h
 split at h
 ·rename_i l hl
  obtain⟨x,hx,hk⟩:=Option.bind_eq_some_iff.1 h
  obtain⟨h1,h2⟩:=sel26_ok hl
  cases m with
  |zero=>cases hx
  |succ m=>exact⟨_,hk,(i26_fx m (hct m (Nat.lt_succ_self m)) _ _ _ hx).conv h1 h2,⟨_,Tryd.func29,rfl,by decide⟩⟩
 cases h
theorem ct19_ok (m:Nat) (hct:∀k,k<m→∀R,CallOK (R:=R) Tryd.prog (ct k)) {R:Type} {args:List AV} {objs:List Ob} {K:Res→Option R} {r:R} (h:ct19 m args objs K=some r):∃q:Res,K q=some r∧FX Tryd.prog 19 args objs q.1 q.2∧HasBody Tryd.prog 19:=by
 unfold ct19 at h
 split at h
 ·rename_i l hl
  obtain⟨x,hx,hk⟩:=Option.bind_eq_some_iff.1 h
  obtain⟨h1,h2⟩:=sel27_ok hl
  cases m with
  |zero=>cases hx
  |succ m=>exact⟨_,hk,(i27_fx m (hct m (Nat.lt_succ_self m)) _ _ _ hx).conv h1 h2,⟨_,Tryd.func19,rfl,by decide⟩⟩
 cases h
theorem ct30_ok (m:Nat) (hct:∀k,k<m→∀R,CallOK (R:=R) Tryd.prog (ct k)) {R:Type} {args:List AV} {objs:List Ob} {K:Res→Option R} {r:R} (h:ct30 m args objs K=some r):∃q:Res,K q=some r∧FX Tryd.prog 30 args objs q.1 q.2∧HasBody Tryd.prog 30:=by
 unfold ct30 at h
 split at h
 ·rename_i l hl
  obtain⟨x,hx,hk⟩:=Option.bind_eq_some_iff.1 h
  obtain⟨h1,h2⟩:=sel23_ok hl
  cases m with
  |zero=>cases hx
  |succ m=>exact⟨_,hk,(i28_fx m (hct m (Nat.lt_succ_self m)) _ hx).conv h1 h2,⟨_,Tryd.func30,rfl,by decide⟩⟩
 cases h
theorem ct49_ok (m:Nat) (hct:∀k,k<m→∀R,CallOK (R:=R) Tryd.prog (ct k)) {R:Type} {args:List AV} {objs:List Ob} {K:Res→Option R} {r:R} (h:ct49 m args objs K=some r):∃q:Res,K q=some r∧FX Tryd.prog 49 args objs q.1 q.2∧HasBody Tryd.prog 49:=by
 unfold ct49 at h
 split at h
 ·rename_i l hl
  obtain⟨x,hx,hk⟩:=Option.bind_eq_some_iff.1 h
  obtain⟨h1,h2⟩:=sel23_ok hl
  cases m with
  |zero=>cases hx
  |succ m=>exact⟨_,hk,(i29_fx m (hct m (Nat.lt_succ_self m)) _ hx).conv h1 h2,⟨_,Tryd.func49,rfl,by decide⟩⟩
 cases h
theorem ct66_ok (m:Nat) (hct:∀k,k<m→∀R,CallOK (R:=R) Tryd.prog (ct k)) {R:Type} {args:List AV} {objs:List Ob} {K:Res→Option R} {r:R} (h:ct66 m args objs K=some r):∃q:Res,K q=some r∧FX Tryd.prog 66 args objs q.1 q.2∧HasBody Tryd.prog 66:=by
 unfold ct66 at h
 split at h
 ·rename_i l hl
  obtain⟨x,hx,hk⟩:=Option.bind_eq_some_iff.1 h
  obtain⟨h1,h2⟩:=sel23_ok hl
  cases m with
  |zero=>cases hx
  |succ m=>exact⟨_,hk,(i30_fx m (hct m (Nat.lt_succ_self m)) _ hx).conv h1 h2,⟨_,Tryd.func66,rfl,by decide⟩⟩
 cases h
theorem ct78_ok (m:Nat) (hct:∀k,k<m→∀R,CallOK (R:=R) Tryd.prog (ct k)) {R:Type} {args:List AV} {objs:List Ob} {K:Res→Option R} {r:R} (h:ct78 m args objs K=some r):∃q:Res,K q=some r∧FX Tryd.prog 78 args objs q.1 q.2∧HasBody Tryd.prog 78:=by
 unfold ct78 at h
 split at h
 ·rename_i l hl
  obtain⟨x,hx,hk⟩:=Option.bind_eq_some_iff.1 h
  obtain⟨h1,h2⟩:=sel23_ok hl
  cases m with
  |zero=>cases hx
  |succ m=>exact⟨_,hk,(i31_fx m (hct m (Nat.lt_succ_self m)) _ hx).conv h1 h2,⟨_,Tryd.func78,rfl,by decide⟩⟩
 cases h
theorem ct67_ok (m:Nat) (hct:∀k,k<m→∀R,CallOK (R:=R) Tryd.prog (ct k)) {R:Type} {args:List AV} {objs:List Ob} {K:Res→Option R} {r:R} (h:ct67 m args objs K=some r):∃q:Res,K q=some r∧FX Tryd.prog 67 args objs q.1 q.2∧HasBody Tryd.prog 67:=by
 unfold ct67 at h
 split at h
 ·rename_i l hl
  obtain⟨x,hx,hk⟩:=Option.bind_eq_some_iff.1 h
  obtain⟨h1,h2⟩:=sel32_ok hl
  cases m with
  |zero=>cases hx
  |succ m=>exact⟨_,hk,(i32_fx m (hct m (Nat.lt_succ_self m)) _ _ hx).conv h1 h2,⟨_,Tryd.func67,rfl,by decide⟩⟩
 cases h
theorem ct79_ok (m:Nat) (hct:∀k,k<m→∀R,CallOK (R:=R) Tryd.prog (ct k)) {R:Type} {args:List AV} {objs:List Ob} {K:Res→Option R} {r:R} (h:ct79 m args objs K=some r):∃q:Res,K q=some r∧FX Tryd.prog 79 args objs q.1 q.2∧HasBody Tryd.prog 79:=by
 unfold ct79 at h
 split at h
 ·rename_i l hl
  obtain⟨x,hx,hk⟩:=Option.bind_eq_some_iff.1 h
  obtain⟨h1,h2⟩:=sel32_ok hl
  cases m with
  |zero=>cases hx
  |succ m=>exact⟨_,hk,(i33_fx m (hct m (Nat.lt_succ_self m)) _ _ hx).conv h1 h2,⟨_,Tryd.func79,rfl,by decide⟩⟩
 cases h
theorem ct50_ok (m:Nat) (hct:∀k,k<m→∀R,CallOK (R:=R) Tryd.prog (ct k)) {R:Type} {args:List AV} {objs:List Ob} {K:Res→Option R} {r:R} (h:ct50 m args objs K=some r):∃q:Res,K q=some r∧FX Tryd.prog 50 args objs q.1 q.2∧HasBody Tryd.prog 50:=by
 unfold ct50 at h
 split at h
 ·rename_i l hl
  obtain⟨x,hx,hk⟩:=Option.bind_eq_some_iff.1 h
  obtain⟨h1,h2⟩:=sel1_ok hl
  exact⟨_,hk,(ValidString_fx hx).conv h1 h2,⟨_,Tryd.func50,rfl,by decide⟩⟩
 cases h
theorem ct31_ok (m:Nat) (hct:∀k,k<m→∀R,CallOK (R:=R) Tryd.prog (ct k)) {R:Type} {args:List AV} {objs:List Ob} {K:Res→Option R} {r:R} (h:ct31 m args objs K=some r):∃q:Res,K q=some r∧FX Tryd.prog 31 args objs q.1 q.2∧HasBody Tryd.prog 31:=by
 unfold ct31 at h
 split at h
 ·rename_i l hl
  obtain⟨x,hx,hk⟩:=Option.bind_eq_some_iff.1 h
  obtain⟨h1,h2⟩:=sel35_ok hl
  cases m with
  |zero=>cases hx
  |succ m=>exact⟨_,hk,(i35_fx m (hct m (Nat.lt_succ_self m)) _ _ hx).conv h1 h2,⟨_,Tryd.func31,rfl,by decide⟩⟩
 cases h
theorem ct32_ok (m:Nat) (hct:∀k,k<m→∀R,CallOK (R:=R) Tryd.prog (ct k)) {R:Type} {args:List AV} {objs:List Ob} {K:Res→Option R} {r:R} (h:ct32 m args objs K=some r):∃q:Res,K q=some r∧FX Tryd.prog 32 args objs q.1 q.2∧HasBody Tryd.prog 32:=by
 unfold ct32 at h
 split at h
 ·rename_i l hl
  obtain⟨x,hx,hk⟩:=Option.bind_eq_some_iff.1 h
  obtain⟨h1,h2⟩:=sel35_ok hl
  cases m with
  |zero=>cases hx
  |succ m=>exact⟨_,hk,(i36_fx m (hct m (Nat.lt_succ_self m)) _ _ hx).conv h1 h2,⟨_,Tryd.func32,rfl,by decide⟩⟩
 cases h
theorem ct51_ok (m:Nat) (hct:∀k,k<m→∀R,CallOK (R:=R) Tryd.prog (ct k)) {R:Type} {args:List AV} {objs:List Ob} {K:Res→Option R} {r:R} (h:ct51 m args objs K=some r):∃q:Res,K q=some r∧FX Tryd.prog 51 args objs q.1 q.2∧HasBody Tryd.prog 51:=by
 unfold ct51 at h
 split at h
 ·rename_i l hl
  obtain⟨x,hx,hk⟩:=Option.bind_eq_some_iff.1 h
  obtain⟨h1,h2⟩:=sel37_ok hl
  cases m with
  |zero=>cases hx
  |succ m=>exact⟨_,hk,(i37_fx m (hct m (Nat.lt_succ_self m)) _ _ hx).conv h1 h2,⟨_,Tryd.func51,rfl,by decide⟩⟩
 cases h
theorem ct61_ok (m:Nat) (hct:∀k,k<m→∀R,CallOK (R:=R) Tryd.prog (ct k)) {R:Type} {args:List AV} {objs:List Ob} {K:Res→Option R} {r:R} (h:ct61 m args objs K=some r):∃q:Res,K q=some r∧FX Tryd.prog 61 args objs q.1 q.2∧HasBody Tryd.prog 61:=by
 unfold ct61 at h
 split at h
 ·rename_i l hl
  obtain⟨x,hx,hk⟩:=Option.bind_eq_some_iff.1 h
  obtain⟨h1,h2⟩:=sel1_ok hl
  cases m with
  |zero=>cases hx
  |succ m=>exact⟨_,hk,(notation_isField_fx m (hct m (Nat.lt_succ_self m)) _ hx).conv h1 h2,⟨_,Tryd.func61,rfl,by decide⟩⟩
 cases h
theorem ct52_ok (m:Nat) (hct:∀k,k<m→∀R,CallOK (R:=R) Tryd.prog (ct k)) {R:Type} {args:List AV} {objs:List Ob} {K:Res→Option R} {r:R} (h:ct52 m args objs K=some r):∃q:Res,K q=some r∧FX Tryd.prog 52 args objs q.1 q.2∧HasBody Tryd.prog 52:=by
 unfold ct52 at h
 split at h
 ·rename_i l hl
  obtain⟨x,hx,hk⟩:=Option.bind_eq_some_iff.1 h
  obtain⟨h1,h2⟩:=sel1_ok hl
  cases m with
  |zero=>cases hx
  |succ m=>exact⟨_,hk,(notation_isSpecial_fx m (hct m (Nat.lt_succ_self m)) _ hx).conv h1 h2,⟨_,Tryd.func52,rfl,by decide⟩⟩
 cases h
theorem ct69_ok (m:Nat) (hct:∀k,k<m→∀R,CallOK (R:=R) Tryd.prog (ct k)) {R:Type} {args:List AV} {objs:List Ob} {K:Res→Option R} {r:R} (h:ct69 m args objs K=some r):∃q:Res,K q=some r∧FX Tryd.prog 69 args objs q.1 q.2∧HasBody Tryd.prog 69:=by
 unfold ct69 at h
 split at h
 ·rename_i l hl
  obtain⟨x,hx,hk⟩:=Option.bind_eq_some_iff.1 h
  obtain⟨h1,h2⟩:=sel5_ok hl
  cases m with
  |zero=>cases hx
  |succ m=>exact⟨_,hk,(notation_fromHex_fx m (hct m (Nat.lt_succ_self m)) _ hx).conv h1 h2,⟨_,Tryd.func69,rfl,by decide⟩⟩
 cases h
theorem ct33_ok (m:Nat) (hct:∀k,k<m→∀R,CallOK (R:=R) Tryd.prog (ct k)) {R:Type} {args:List AV} {objs:List Ob} {K:Res→Option R} {r:R} (h:ct33 m args objs K=some r):∃q:Res,K q=some r∧FX Tryd.prog 33 args objs q.1 q.2∧HasBody Tryd.prog 33:=by
 unfold ct33 at h
 split at h
 ·rename_i l hl
  obtain⟨x,hx,hk⟩:=Option.bind_eq_some_iff.1 h
  obtain⟨h1,h2⟩:=sel42_ok hl
  cases m with
  |zero=>cases hx
  |succ m=>exact⟨_,hk,(i42_fx m (hct m (Nat.lt_succ_self m)) _ _ hx).conv h1 h2,⟨_,Tryd.func33,rfl,by decide⟩⟩
 cases h
theorem ct34_ok (m:Nat) (hct:∀k,k<m→∀R,CallOK (R:=R) Tryd.prog (ct k)) {R:Type} {args:List AV} {objs:List Ob} {K:Res→Option R} {r:R} (h:ct34 m args objs K=some r):∃q:Res,K q=some r∧FX Tryd.prog 34 args objs q.1 q.2∧HasBody Tryd.prog 34:=by
 unfold ct34 at h
 split at h
 ·rename_i l hl
  obtain⟨x,hx,hk⟩:=Option.bind_eq_some_iff.1 h
  obtain⟨h1,h2⟩:=sel23_ok hl
  cases m with
  |zero=>cases hx
  |succ m=>exact⟨_,hk,(i43_fx m (hct m (Nat.lt_succ_self m)) _ hx).conv h1 h2,⟨_,Tryd.func34,rfl,by decide⟩⟩
 cases h
theorem ct54_ok (m:Nat) (hct:∀k,k<m→∀R,CallOK (R:=R) Tryd.prog (ct k)) {R:Type} {args:List AV} {objs:List Ob} {K:Res→Option R} {r:R} (h:ct54 m args objs K=some r):∃q:Res,K q=some r∧FX Tryd.prog 54 args objs q.1 q.2∧HasBody Tryd.prog 54:=by
 unfold ct54 at h
 split at h
 ·rename_i l hl
  obtain⟨x,hx,hk⟩:=Option.bind_eq_some_iff.1 h
  obtain⟨h1,h2⟩:=sel44_ok hl
  exact⟨_,hk,(ParseInt_fx hx).conv h1 h2,⟨_,Tryd.func54,rfl,by decide⟩⟩
 cases h
theorem ct27_ok (m:Nat) (hct:∀k,k<m→∀R,CallOK (R:=R) Tryd.prog (ct k)) {R:Type} {args:List AV} {objs:List Ob} {K:Res→Option R} {r:R} (h:ct27 m args objs K=some r):∃q:Res,K q=some r∧FX Tryd.prog 27 args objs q.1 q.2∧HasBody Tryd.prog 27:=by
 unfold ct27 at h
 split at h
 ·rename_i l hl
  obtain⟨x,hx,hk⟩:=Option.bind_eq_some_iff.1 h
  obtain⟨h1,h2⟩:=sel8_ok hl
  cases m with
  |zero=>cases hx
  |succ m=>exact⟨_,hk,(ref02_Same_fx m (hct m (Nat.lt_succ_self m)) _ _ hx).conv h1 h2,⟨_,Tryd.func27,rfl,by decide⟩⟩
 cases h
theorem ct39_ok (m:Nat) (hct:∀k,k<m→∀R,CallOK (R:=R) Tryd.prog (ct k)) {R:Type} {args:List AV} {objs:List Ob} {K:Res→Option R} {r:R} (h:ct39 m args objs K=some r):∃q:Res,K q=some r∧FX Tryd.prog 39 args objs q.1 q.2∧HasBody Tryd.prog 39:=by
 unfold ct39 at h
 split at h
 ·rename_i l hl
  obtain⟨x,hx,hk⟩:=Option.bind_eq_some_iff.1 h
  obtain⟨h1,h2⟩:=sel5_ok hl
  cases m with
  |zero=>cases hx
  |succ m=>exact⟨_,hk,(value_Nodes_fx m (hct m (Nat.lt_succ_self m)) _ hx).conv h1 h2,⟨_,Tryd.func39,rfl,by decide⟩⟩
 cases h
theorem ct41_ok (m:Nat) (hct:∀k,k<m→∀R,CallOK (R:=R) Tryd.prog (ct k)) {R:Type} {args:List AV} {objs:List Ob} {K:Res→Option R} {r:R} (h:ct41 m args objs K=some r):∃q:Res,K q=some r∧FX Tryd.prog 41 args objs q.1 q.2∧HasBody Tryd.prog 41:=by
 unfold ct41 at h
 split at h
 ·rename_i l hl
  obtain⟨x,hx,hk⟩:=Option.bind_eq_some_iff.1 h
  obtain⟨h1,h2⟩:=sel5_ok hl
  cases m with
  |zero=>cases hx
  |succ m=>exact⟨_,hk,(notation_rename_fx m (hct m (Nat.lt_succ_self m)) _ hx).conv h1 h2,⟨_,Tryd.func41,rfl,by decide⟩⟩
 cases h
theorem ct42_ok (m:Nat) (hct:∀k,k<m→∀R,CallOK (R:=R) Tryd.prog (ct k)) {R:Type} {args:List AV} {objs:List Ob} {K:Res→Option R} {r:R} (h:ct42 m args objs K=some r):∃q:Res,K q=some r∧FX Tryd.prog 42 args objs q.1 q.2∧HasBody Tryd.prog 42:=by
 unfold ct42 at h
 split at h
 ·rename_i l hl
  obtain⟨x,hx,hk⟩:=Option.bind_eq_some_iff.1 h
  obtain⟨h1,h2⟩:=sel5_ok hl
  cases m with
  |zero=>cases hx
  |succ m=>exact⟨_,hk,(value_Valid_fx m (hct m (Nat.lt_succ_self m)) _ hx).conv h1 h2,⟨_,Tryd.func42,rfl,by decide⟩⟩
 cases h
theorem ct40_ok (m:Nat) (hct:∀k,k<m→∀R,CallOK (R:=R) Tryd.prog (ct k)) {R:Type} {args:List AV} {objs:List Ob} {K:Res→Option R} {r:R} (h:ct40 m args objs K=some r):∃q:Res,K q=some r∧FX Tryd.prog 40 args objs q.1 q.2∧HasBody Tryd.prog 40:=by
 unfold ct40 at h
 split at h
 ·rename_i l hl
  obtain⟨x,hx,hk⟩:=Option.bind_eq_some_iff.1 h
  obtain⟨h1,h2⟩:=sel5_ok hl
  cases m with
  |zero=>cases hx
  |succ m=>exact⟨_,hk,(value_Depth_fx m (hct m (Nat.lt_succ_self m)) _ hx).conv h1 h2,⟨_,Tryd.func40,rfl,by decide⟩⟩
 cases h
theorem ct35_ok (m:Nat) (hct:∀k,k<m→∀R,CallOK (R:=R) Tryd.prog (ct k)) {R:Type} {args:List AV} {objs:List Ob} {K:Res→Option R} {r:R} (h:ct35 m args objs K=some r):∃q:Res,K q=some r∧FX Tryd.prog 35 args objs q.1 q.2∧HasBody Tryd.prog 35:=by
 unfold ct35 at h
 split at h
 ·rename_i l hl
  obtain⟨x,hx,hk⟩:=Option.bind_eq_some_iff.1 h
  obtain⟨h1,h2⟩:=sel3_ok hl
  cases m with
  |zero=>cases hx
  |succ m=>exact⟨_,hk,(ref01_levels_fx m (hct m (Nat.lt_succ_self m)) _ _ hx).conv h1 h2,⟨_,Tryd.func35,rfl,by decide⟩⟩
 cases h
theorem ct36_ok (m:Nat) (hct:∀k,k<m→∀R,CallOK (R:=R) Tryd.prog (ct k)) {R:Type} {args:List AV} {objs:List Ob} {K:Res→Option R} {r:R} (h:ct36 m args objs K=some r):∃q:Res,K q=some r∧FX Tryd.prog 36 args objs q.1 q.2∧HasBody Tryd.prog 36:=by
 unfold ct36 at h
 split at h
 ·rename_i l hl
  obtain⟨x,hx,hk⟩:=Option.bind_eq_some_iff.1 h
  obtain⟨h1,h2⟩:=sel3_ok hl
  cases m with
  |zero=>cases hx
  |succ m=>exact⟨_,hk,(ref01_count_fx m (hct m (Nat.lt_succ_self m)) _ _ hx).conv h1 h2,⟨_,Tryd.func36,rfl,by decide⟩⟩
 cases h
theorem ct48_ok (m:Nat) (hct:∀k,k<m→∀R,CallOK (R:=R) Tryd.prog (ct k)) {R:Type} {args:List AV} {objs:List Ob} {K:Res→Option R} {r:R} (h:ct48 m args objs K=some r):∃q:Res,K q=some r∧FX Tryd.prog 48 args objs q.1 q.2∧HasBody Tryd.prog 48:=by
 unfold ct48 at h
 split at h
 ·rename_i l hl
  obtain⟨x,hx,hk⟩:=Option.bind_eq_some_iff.1 h
  obtain⟨h1,h2⟩:=sel1_ok hl
  cases m with
  |zero=>cases hx
  |succ m=>exact⟨_,hk,(ref05_Label_fx m (hct m (Nat.lt_succ_self m)) _ hx).conv h1 h2,⟨_,Tryd.func48,rfl,by decide⟩⟩
 cases h
theorem ct11_ok (m:Nat) (hct:∀k,k<m→∀R,CallOK (R:=R) Tryd.prog (ct k)) {R:Type} {args:List AV} {objs:List Ob} {K:Res→Option R} {r:R} (h:ct11 m args objs K=some r):∃q:Res,K q=some r∧FX Tryd.prog 11 args objs q.1 q.2∧HasBody Tryd.prog 11:=by
 unfold ct11 at h
 split at h
 ·rename_i l hl
  obtain⟨x,hx,hk⟩:=Option.bind_eq_some_iff.1 h
  obtain⟨h1,h2⟩:=sel5_ok hl
  cases m with
  |zero=>cases hx
  |succ m=>exact⟨_,hk,(ref01_Valid_fx m (hct m (Nat.lt_succ_self m)) _ hx).conv h1 h2,⟨_,Tryd.func11,rfl,by decide⟩⟩
 cases h
theorem ct59_ok (m:Nat) (hct:∀k,k<m→∀R,CallOK (R:=R) Tryd.prog (ct k)) {R:Type} {args:List AV} {objs:List Ob} {K:Res→Option R} {r:R} (h:ct59 m args objs K=some r):∃q:Res,K q=some r∧FX Tryd.prog 59 args objs q.1 q.2∧HasBody Tryd.prog 59:=by
 unfold ct59 at h
 split at h
 ·rename_i l hl
  obtain⟨x,hx,hk⟩:=Option.bind_eq_some_iff.1 h
  obtain⟨h1,h2⟩:=sel3_ok hl
  cases m with
  |zero=>cases hx
  |succ m=>exact⟨_,hk,(value_nodes_fx m (hct m (Nat.lt_succ_self m)) _ _ hx).conv h1 h2,⟨_,Tryd.func59,rfl,by decide⟩⟩
 cases h
theorem ct62_ok (m:Nat) (hct:∀k,k<m→∀R,CallOK (R:=R) Tryd.prog (ct k)) {R:Type} {args:List AV} {objs:List Ob} {K:Res→Option R} {r:R} (h:ct62 m args objs K=some r):∃q:Res,K q=some r∧FX Tryd.prog 62 args objs q.1 q.2∧HasBody Tryd.prog 62:=by
 unfold ct62 at h
 split at h
 ·rename_i l hl
  obtain⟨x,hx,hk⟩:=Option.bind_eq_some_iff.1 h
  obtain⟨h1,h2⟩:=sel55_ok hl
  exact⟨_,hk,(Itoa_fx hx).conv h1 h2,⟨_,Tryd.func62,rfl,by decide⟩⟩
 cases h
theorem ct63_ok (m:Nat) (hct:∀k,k<m→∀R,CallOK (R:=R) Tryd.prog (ct k)) {R:Type} {args:List AV} {objs:List Ob} {K:Res→Option R} {r:R} (h:ct63 m args objs K=some r):∃q:Res,K q=some r∧FX Tryd.prog 63 args objs q.1 q.2∧HasBody Tryd.prog 63:=by
 unfold ct63 at h
 split at h
 ·rename_i l hl
  obtain⟨x,hx,hk⟩:=Option.bind_eq_some_iff.1 h
  obtain⟨h1,h2⟩:=sel5_ok hl
  cases m with
  |zero=>cases hx
  |succ m=>exact⟨_,hk,(value_sound_fx m (hct m (Nat.lt_succ_self m)) _ hx).conv h1 h2,⟨_,Tryd.func63,rfl,by decide⟩⟩
 cases h
theorem ct60_ok (m:Nat) (hct:∀k,k<m→∀R,CallOK (R:=R) Tryd.prog (ct k)) {R:Type} {args:List AV} {objs:List Ob} {K:Res→Option R} {r:R} (h:ct60 m args objs K=some r):∃q:Res,K q=some r∧FX Tryd.prog 60 args objs q.1 q.2∧HasBody Tryd.prog 60:=by
 unfold ct60 at h
 split at h
 ·rename_i l hl
  obtain⟨x,hx,hk⟩:=Option.bind_eq_some_iff.1 h
  obtain⟨h1,h2⟩:=sel3_ok hl
  cases m with
  |zero=>cases hx
  |succ m=>exact⟨_,hk,(value_depth_fx m (hct m (Nat.lt_succ_self m)) _ _ hx).conv h1 h2,⟨_,Tryd.func60,rfl,by decide⟩⟩
 cases h
theorem ct55_ok (m:Nat) (hct:∀k,k<m→∀R,CallOK (R:=R) Tryd.prog (ct k)) {R:Type} {args:List AV} {objs:List Ob} {K:Res→Option R} {r:R} (h:ct55 m args objs K=some r):∃q:Res,K q=some r∧FX Tryd.prog 55 args objs q.1 q.2∧HasBody Tryd.prog 55:=by
 unfold ct55 at h
 split at h
 ·rename_i l hl
  obtain⟨x,hx,hk⟩:=Option.bind_eq_some_iff.1 h
  obtain⟨h1,h2⟩:=sel5_ok hl
  cases m with
  |zero=>cases hx
  |succ m=>exact⟨_,hk,(ref01_Parts_fx m (hct m (Nat.lt_succ_self m)) _ hx).conv h1 h2,⟨_,Tryd.func55,rfl,by decide⟩⟩
 cases h
theorem ct22_ok (m:Nat) (hct:∀k,k<m→∀R,CallOK (R:=R) Tryd.prog (ct k)) {R:Type} {args:List AV} {objs:List Ob} {K:Res→Option R} {r:R} (h:ct22 m args objs K=some r):∃q:Res,K q=some r∧FX Tryd.prog 22 args objs q.1 q.2∧HasBody Tryd.prog 22:=by
 unfold ct22 at h
 split at h
 ·rename_i l hl
  obtain⟨x,hx,hk⟩:=Option.bind_eq_some_iff.1 h
  obtain⟨h1,h2⟩:=sel59_ok hl
  cases m with
  |zero=>cases hx
  |succ m=>exact⟨_,hk,(ref01_formed_fx m (hct m (Nat.lt_succ_self m)) _ _ hx).conv h1 h2,⟨_,Tryd.func22,rfl,by decide⟩⟩
 cases h
theorem ct72_ok (m:Nat) (hct:∀k,k<m→∀R,CallOK (R:=R) Tryd.prog (ct k)) {R:Type} {args:List AV} {objs:List Ob} {K:Res→Option R} {r:R} (h:ct72 m args objs K=some r):∃q:Res,K q=some r∧FX Tryd.prog 72 args objs q.1 q.2∧HasBody Tryd.prog 72:=by
 unfold ct72 at h
 split at h
 ·rename_i l hl
  obtain⟨x,hx,hk⟩:=Option.bind_eq_some_iff.1 h
  obtain⟨h1,h2⟩:=sel60_ok hl
  cases m with
  |zero=>cases hx
  |succ m=>exact⟨_,hk,(i60_fx m (hct m (Nat.lt_succ_self m)) _ _ _ hx).conv h1 h2,⟨_,Tryd.func72,rfl,by decide⟩⟩
 split at h
 ·rename_i l hl
  obtain⟨x,hx,hk⟩:=Option.bind_eq_some_iff.1 h
  obtain⟨h1,h2⟩:=sel63_ok hl
  cases m with
  |zero=>cases hx
  |succ m=>exact⟨_,hk,(i63_fx m (hct m (Nat.lt_succ_self m)) _ _ _ hx).conv h1 h2,⟨_,Tryd.func72,rfl,by decide⟩⟩
 cases h
theorem ct73_ok (m:Nat) (hct:∀k,k<m→∀R,CallOK (R:=R) Tryd.prog (ct k)) {R:Type} {args:List AV} {objs:List Ob} {K:Res→Option R} {r:R} (h:ct73 m args objs K=some r):∃q:Res,K q=some r∧FX Tryd.prog 73 args objs q.1 q.2∧HasBody Tryd.prog 73:=by
 unfold ct73 at h
 split at h
 ·rename_i l hl
  obtain⟨x,hx,hk⟩:=Option.bind_eq_some_iff.1 h
  obtain⟨h1,h2⟩:=sel61_ok hl
  cases m with
  |zero=>cases hx
  |succ m=>exact⟨_,hk,(i61_fx m (hct m (Nat.lt_succ_self m)) _ _ _ hx).conv h1 h2,⟨_,Tryd.func73,rfl,by decide⟩⟩
 cases h
theorem ct76_ok (m:Nat) (hct:∀k,k<m→∀R,CallOK (R:=R) Tryd.prog (ct k)) {R:Type} {args:List AV} {objs:List Ob} {K:Res→Option R} {r:R} (h:ct76 m args objs K=some r):∃q:Res,K q=some r∧FX Tryd.prog 76 args objs q.1 q.2∧HasBody Tryd.prog 76:=by
 unfold ct76 at h
 split at h
 ·rename_i l hl
  obtain⟨x,hx,hk⟩:=Option.bind_eq_some_iff.1 h
  obtain⟨h1,h2⟩:=sel19_ok hl
  cases m with
  |zero=>cases hx
  |succ m=>exact⟨_,hk,(value_soundFields_fx m (hct m (Nat.lt_succ_self m)) _ hx).conv h1 h2,⟨_,Tryd.func76,rfl,by decide⟩⟩
 cases h
theorem ct74_ok (m:Nat) (hct:∀k,k<m→∀R,CallOK (R:=R) Tryd.prog (ct k)) {R:Type} {args:List AV} {objs:List Ob} {K:Res→Option R} {r:R} (h:ct74 m args objs K=some r):∃q:Res,K q=some r∧FX Tryd.prog 74 args objs q.1 q.2∧HasBody Tryd.prog 74:=by
 unfold ct74 at h
 split at h
 ·rename_i l hl
  obtain⟨x,hx,hk⟩:=Option.bind_eq_some_iff.1 h
  obtain⟨h1,h2⟩:=sel61_ok hl
  cases m with
  |zero=>cases hx
  |succ m=>exact⟨_,hk,(i64_fx m (hct m (Nat.lt_succ_self m)) _ _ _ hx).conv h1 h2,⟨_,Tryd.func74,rfl,by decide⟩⟩
 cases h
theorem ct37_ok (m:Nat) (hct:∀k,k<m→∀R,CallOK (R:=R) Tryd.prog (ct k)) {R:Type} {args:List AV} {objs:List Ob} {K:Res→Option R} {r:R} (h:ct37 m args objs K=some r):∃q:Res,K q=some r∧FX Tryd.prog 37 args objs q.1 q.2∧HasBody Tryd.prog 37:=by
 unfold ct37 at h
 split at h
 ·rename_i l hl
  obtain⟨x,hx,hk⟩:=Option.bind_eq_some_iff.1 h
  obtain⟨h1,h2⟩:=sel1_ok hl
  cases m with
  |zero=>cases hx
  |succ m=>exact⟨_,hk,(ref01_UTF8_fx m (hct m (Nat.lt_succ_self m)) _ hx).conv h1 h2,⟨_,Tryd.func37,rfl,by decide⟩⟩
 cases h
theorem ct38_ok (m:Nat) (hct:∀k,k<m→∀R,CallOK (R:=R) Tryd.prog (ct k)) {R:Type} {args:List AV} {objs:List Ob} {K:Res→Option R} {r:R} (h:ct38 m args objs K=some r):∃q:Res,K q=some r∧FX Tryd.prog 38 args objs q.1 q.2∧HasBody Tryd.prog 38:=by
 unfold ct38 at h
 split at h
 ·rename_i l hl
  obtain⟨x,hx,hk⟩:=Option.bind_eq_some_iff.1 h
  obtain⟨h1,h2⟩:=sel59_ok hl
  cases m with
  |zero=>cases hx
  |succ m=>exact⟨_,hk,(ref01_fields_fx m (hct m (Nat.lt_succ_self m)) _ _ hx).conv h1 h2,⟨_,Tryd.func38,rfl,by decide⟩⟩
 cases h
theorem ct86_ok (m:Nat) (hct:∀k,k<m→∀R,CallOK (R:=R) Tryd.prog (ct k)) {R:Type} {args:List AV} {objs:List Ob} {K:Res→Option R} {r:R} (h:ct86 m args objs K=some r):∃q:Res,K q=some r∧FX Tryd.prog 86 args objs q.1 q.2∧HasBody Tryd.prog 86:=by
 unfold ct86 at h
 split at h
 ·rename_i l hl
  obtain⟨x,hx,hk⟩:=Option.bind_eq_some_iff.1 h
  obtain⟨h1,h2⟩:=sel1_ok hl
  cases m with
  |zero=>cases hx
  |succ m=>exact⟨_,hk,(value_isName_fx m (hct m (Nat.lt_succ_self m)) _ hx).conv h1 h2,⟨_,Tryd.func86,rfl,by decide⟩⟩
 cases h
theorem ct56_ok (m:Nat) (hct:∀k,k<m→∀R,CallOK (R:=R) Tryd.prog (ct k)) {R:Type} {args:List AV} {objs:List Ob} {K:Res→Option R} {r:R} (h:ct56 m args objs K=some r):∃q:Res,K q=some r∧FX Tryd.prog 56 args objs q.1 q.2∧HasBody Tryd.prog 56:=by
 unfold ct56 at h
 split at h
 ·rename_i l hl
  obtain⟨x,hx,hk⟩:=Option.bind_eq_some_iff.1 h
  obtain⟨h1,h2⟩:=sel44_ok hl
  cases m with
  |zero=>cases hx
  |succ m=>exact⟨_,hk,(ref01_tail_fx m (hct m (Nat.lt_succ_self m)) _ _ _ hx).conv h1 h2,⟨_,Tryd.func56,rfl,by decide⟩⟩
 cases h
theorem ct57_ok (m:Nat) (hct:∀k,k<m→∀R,CallOK (R:=R) Tryd.prog (ct k)) {R:Type} {args:List AV} {objs:List Ob} {K:Res→Option R} {r:R} (h:ct57 m args objs K=some r):∃q:Res,K q=some r∧FX Tryd.prog 57 args objs q.1 q.2∧HasBody Tryd.prog 57:=by
 unfold ct57 at h
 split at h
 ·rename_i l hl
  obtain⟨x,hx,hk⟩:=Option.bind_eq_some_iff.1 h
  obtain⟨h1,h2⟩:=sel1_ok hl
  cases m with
  |zero=>cases hx
  |succ m=>exact⟨_,hk,(ref01_Name_fx m (hct m (Nat.lt_succ_self m)) _ hx).conv h1 h2,⟨_,Tryd.func57,rfl,by decide⟩⟩
 cases h
theorem ct58_ok (m:Nat) (hct:∀k,k<m→∀R,CallOK (R:=R) Tryd.prog (ct k)) {R:Type} {args:List AV} {objs:List Ob} {K:Res→Option R} {r:R} (h:ct58 m args objs K=some r):∃q:Res,K q=some r∧FX Tryd.prog 58 args objs q.1 q.2∧HasBody Tryd.prog 58:=by
 unfold ct58 at h
 split at h
 ·rename_i l hl
  obtain⟨x,hx,hk⟩:=Option.bind_eq_some_iff.1 h
  obtain⟨h1,h2⟩:=sel1_ok hl
  cases m with
  |zero=>cases hx
  |succ m=>exact⟨_,hk,(ref01_wide_fx m (hct m (Nat.lt_succ_self m)) _ hx).conv h1 h2,⟨_,Tryd.func58,rfl,by decide⟩⟩
 cases h
set_option maxHeartbeats 4000000 in
theorem ct_ok:∀(m:Nat) (R:Type),CallOK (R:=R) Tryd.prog (ct m):=by
 intro m
 induction m using Nat.strongRecOn with
 |_ m ih=>
  intro R f args objs K r h
  unfold ct at h
  rcases bset_some h with⟨hb,h1⟩| ⟨_,h⟩
  · have e:=beq_eq hb
    subst e
    exact ct4_ok m ih h1
  rcases bset_some h with⟨hb,h1⟩| ⟨_,h⟩
  · have e:=beq_eq hb
    subst e
    exact ct5_ok m ih h1
  rcases bset_some h with⟨hb,h1⟩| ⟨_,h⟩
  · have e:=beq_eq hb
    subst e
    exact ct6_ok m ih h1
  rcases bset_some h with⟨hb,h1⟩| ⟨_,h⟩
  · have e:=beq_eq hb
    subst e
    exact ct12_ok m ih h1
  rcases bset_some h with⟨hb,h1⟩| ⟨_,h⟩
  · have e:=beq_eq hb
    subst e
    exact ct7_ok m ih h1
  rcases bset_some h with⟨hb,h1⟩| ⟨_,h⟩
  · have e:=beq_eq hb
    subst e
    exact ct13_ok m ih h1
  rcases bset_some h with⟨hb,h1⟩| ⟨_,h⟩
  · have e:=beq_eq hb
    subst e
    exact ct14_ok m ih h1
  rcases bset_some h with⟨hb,h1⟩| ⟨_,h⟩
  · have e:=beq_eq hb
    subst e
    exact ct10_ok m ih h1
  rcases bset_some h with⟨hb,h1⟩| ⟨_,h⟩
  · have e:=beq_eq hb
    subst e
    exact ct15_ok m ih h1
  rcases bset_some h with⟨hb,h1⟩| ⟨_,h⟩
  · have e:=beq_eq hb
    subst e
    exact ct23_ok m ih h1
  rcases bset_some h with⟨hb,h1⟩| ⟨_,h⟩
  · have e:=beq_eq hb
    subst e
    exact ct24_ok m ih h1
  rcases bset_some h with⟨hb,h1⟩| ⟨_,h⟩
  · have e:=beq_eq hb
    subst e
    exact ct25_ok m ih h1
  rcases bset_some h with⟨hb,h1⟩| ⟨_,h⟩
  · have e:=beq_eq hb
    subst e
    exact ct43_ok m ih h1
  rcases bset_some h with⟨hb,h1⟩| ⟨_,h⟩
  · have e:=beq_eq hb
    subst e
    exact ct64_ok m ih h1
  rcases bset_some h with⟨hb,h1⟩| ⟨_,h⟩
  · have e:=beq_eq hb
    subst e
    exact ct44_ok m ih h1
  rcases bset_some h with⟨hb,h1⟩| ⟨_,h⟩
  · have e:=beq_eq hb
    subst e
    exact ct8_ok m ih h1
  rcases bset_some h with⟨hb,h1⟩| ⟨_,h⟩
  · have e:=beq_eq hb
    subst e
    exact ct45_ok m ih h1
  rcases bset_some h with⟨hb,h1⟩| ⟨_,h⟩
  · have e:=beq_eq hb
    subst e
    exact ct46_ok m ih h1
  rcases bset_some h with⟨hb,h1⟩| ⟨_,h⟩
  · have e:=beq_eq hb
    subst e
    exact ct47_ok m ih h1
  rcases bset_some h with⟨hb,h1⟩| ⟨_,h⟩
  · have e:=beq_eq hb
    subst e
    exact ct53_ok m ih h1
  rcases bset_some h with⟨hb,h1⟩| ⟨_,h⟩
  · have e:=beq_eq hb
    subst e
    exact ct20_ok m ih h1
  rcases bset_some h with⟨hb,h1⟩| ⟨_,h⟩
  · have e:=beq_eq hb
    subst e
    exact ct21_ok m ih h1
  rcases bset_some h with⟨hb,h1⟩| ⟨_,h⟩
  · have e:=beq_eq hb
    subst e
    exact ct26_ok m ih h1
  rcases bset_some h with⟨hb,h1⟩| ⟨_,h⟩
  · have e:=beq_eq hb
    subst e
    exact ct17_ok m ih h1
  rcases bset_some h with⟨hb,h1⟩| ⟨_,h⟩
  · have e:=beq_eq hb
    subst e
    exact ct28_ok m ih h1
  rcases bset_some h with⟨hb,h1⟩| ⟨_,h⟩
  · have e:=beq_eq hb
    subst e
    exact ct18_ok m ih h1
  rcases bset_some h with⟨hb,h1⟩| ⟨_,h⟩
  · have e:=beq_eq hb
    subst e
    exact ct29_ok m ih h1
  rcases bset_some h with⟨hb,h1⟩| ⟨_,h⟩
  · have e:=beq_eq hb
    subst e
    exact ct19_ok m ih h1
  rcases bset_some h with⟨hb,h1⟩| ⟨_,h⟩
  · have e:=beq_eq hb
    subst e
    exact ct30_ok m ih h1
  rcases bset_some h with⟨hb,h1⟩| ⟨_,h⟩
  · have e:=beq_eq hb
    subst e
    exact ct49_ok m ih h1
  rcases bset_some h with⟨hb,h1⟩| ⟨_,h⟩
  · have e:=beq_eq hb
    subst e
    exact ct66_ok m ih h1
  rcases bset_some h with⟨hb,h1⟩| ⟨_,h⟩
  · have e:=beq_eq hb
    subst e
    exact ct78_ok m ih h1
  rcases bset_some h with⟨hb,h1⟩| ⟨_,h⟩
  · have e:=beq_eq hb
    subst e
    exact ct67_ok m ih h1
  rcases bset_some h with⟨hb,h1⟩| ⟨_,h⟩
  · have e:=beq_eq hb
    subst e
    exact ct79_ok m ih h1
  rcases bset_some h with⟨hb,h1⟩| ⟨_,h⟩
  · have e:=beq_eq hb
    subst e
    exact ct50_ok m ih h1
  rcases bset_some h with⟨hb,h1⟩| ⟨_,h⟩
  · have e:=beq_eq hb
    subst e
    exact ct31_ok m ih h1
  rcases bset_some h with⟨hb,h1⟩| ⟨_,h⟩
  · have e:=beq_eq hb
    subst e
    exact ct32_ok m ih h1
  rcases bset_some h with⟨hb,h1⟩| ⟨_,h⟩
  · have e:=beq_eq hb
    subst e
    exact ct51_ok m ih h1
  rcases bset_some h with⟨hb,h1⟩| ⟨_,h⟩
  · have e:=beq_eq hb
    subst e
    exact ct61_ok m ih h1
  rcases bset_some h with⟨hb,h1⟩| ⟨_,h⟩
  · have e:=beq_eq hb
    subst e
    exact ct52_ok m ih h1
  rcases bset_some h with⟨hb,h1⟩| ⟨_,h⟩
  · have e:=beq_eq hb
    subst e
    exact ct69_ok m ih h1
  rcases bset_some h with⟨hb,h1⟩| ⟨_,h⟩
  · have e:=beq_eq hb
    subst e
    exact ct33_ok m ih h1
  rcases bset_some h with⟨hb,h1⟩| ⟨_,h⟩
  · have e:=beq_eq hb
    subst e
    exact ct34_ok m ih h1
  rcases bset_some h with⟨hb,h1⟩| ⟨_,h⟩
  · have e:=beq_eq hb
    subst e
    exact ct54_ok m ih h1
  rcases bset_some h with⟨hb,h1⟩| ⟨_,h⟩
  · have e:=beq_eq hb
    subst e
    exact ct27_ok m ih h1
  rcases bset_some h with⟨hb,h1⟩| ⟨_,h⟩
  · have e:=beq_eq hb
    subst e
    exact ct39_ok m ih h1
  rcases bset_some h with⟨hb,h1⟩| ⟨_,h⟩
  · have e:=beq_eq hb
    subst e
    exact ct41_ok m ih h1
  rcases bset_some h with⟨hb,h1⟩| ⟨_,h⟩
  · have e:=beq_eq hb
    subst e
    exact ct42_ok m ih h1
  rcases bset_some h with⟨hb,h1⟩| ⟨_,h⟩
  · have e:=beq_eq hb
    subst e
    exact ct40_ok m ih h1
  rcases bset_some h with⟨hb,h1⟩| ⟨_,h⟩
  · have e:=beq_eq hb
    subst e
    exact ct35_ok m ih h1
  rcases bset_some h with⟨hb,h1⟩| ⟨_,h⟩
  · have e:=beq_eq hb
    subst e
    exact ct36_ok m ih h1
  rcases bset_some h with⟨hb,h1⟩| ⟨_,h⟩
  · have e:=beq_eq hb
    subst e
    exact ct48_ok m ih h1
  rcases bset_some h with⟨hb,h1⟩| ⟨_,h⟩
  · have e:=beq_eq hb
    subst e
    exact ct11_ok m ih h1
  rcases bset_some h with⟨hb,h1⟩| ⟨_,h⟩
  · have e:=beq_eq hb
    subst e
    exact ct59_ok m ih h1
  rcases bset_some h with⟨hb,h1⟩| ⟨_,h⟩
  · have e:=beq_eq hb
    subst e
    exact ct62_ok m ih h1
  rcases bset_some h with⟨hb,h1⟩| ⟨_,h⟩
  · have e:=beq_eq hb
    subst e
    exact ct63_ok m ih h1
  rcases bset_some h with⟨hb,h1⟩| ⟨_,h⟩
  · have e:=beq_eq hb
    subst e
    exact ct60_ok m ih h1
  rcases bset_some h with⟨hb,h1⟩| ⟨_,h⟩
  · have e:=beq_eq hb
    subst e
    exact ct55_ok m ih h1
  rcases bset_some h with⟨hb,h1⟩| ⟨_,h⟩
  · have e:=beq_eq hb
    subst e
    exact ct22_ok m ih h1
  rcases bset_some h with⟨hb,h1⟩| ⟨_,h⟩
  · have e:=beq_eq hb
    subst e
    exact ct72_ok m ih h1
  rcases bset_some h with⟨hb,h1⟩| ⟨_,h⟩
  · have e:=beq_eq hb
    subst e
    exact ct73_ok m ih h1
  rcases bset_some h with⟨hb,h1⟩| ⟨_,h⟩
  · have e:=beq_eq hb
    subst e
    exact ct76_ok m ih h1
  rcases bset_some h with⟨hb,h1⟩| ⟨_,h⟩
  · have e:=beq_eq hb
    subst e
    exact ct74_ok m ih h1
  rcases bset_some h with⟨hb,h1⟩| ⟨_,h⟩
  · have e:=beq_eq hb
    subst e
    exact ct37_ok m ih h1
  rcases bset_some h with⟨hb,h1⟩| ⟨_,h⟩
  · have e:=beq_eq hb
    subst e
    exact ct38_ok m ih h1
  rcases bset_some h with⟨hb,h1⟩| ⟨_,h⟩
  · have e:=beq_eq hb
    subst e
    exact ct86_ok m ih h1
  rcases bset_some h with⟨hb,h1⟩| ⟨_,h⟩
  · have e:=beq_eq hb
    subst e
    exact ct56_ok m ih h1
  rcases bset_some h with⟨hb,h1⟩| ⟨_,h⟩
  · have e:=beq_eq hb
    subst e
    exact ct57_ok m ih h1
  rcases bset_some h with⟨hb,h1⟩| ⟨_,h⟩
  · have e:=beq_eq hb
    subst e
    exact ct58_ok m ih h1
  cases h
end Go.Proofs.YtmejbpmceflcjaaDoor
