/- Generated: the contracts. -/
import Derived.Test.YtpifchdngodgjaaGreatDoorEq0
import Derived.Test.YtpifchdngodgjaaGreatDoorEq1
set_option linter.unusedVariables false
set_option linter.unusedSimpArgs false
namespace Go.Proofs.YtpifchdngodgjaaGreatDoor
open Go.Am
set_option maxRecDepth 100000
theorem mixed:Tryz.prog.follows .mixedOrders=true:=by kernel_rfl
abbrev CtH (m:Nat):Prop:=∀R,CallOK (R:=R) Tryz.prog (ct m)
abbrev CtK (m:Nat):Prop:=∀k,k<m→CtH k
abbrev FQ {R:Type} (f:Nat) (args:List AV) (objs:List Ob) (K:Res→Option R) (r:R):Prop:=∃q:Res,K q=some r∧FX Tryz.prog f args objs q.1 q.2∧HasBody Tryz.prog f
theorem fo {R:Type} {m f:Nat} {fn:Func} {c:Code} {args:List AV} {objs:List Ob} {res:AV} {ro:List Ob} {dec:Res→Option R} {r:R} (hct:CtH m) (hf:Tryz.prog.funcs[f]? =some fn) (hc:fn.body=some c) (hl:Nat.ble args.length fn.ntmps=true) (hd:∀{b:Res},dec b=some r→Sim Tryz.prog b (res,ro)) (h:ev Tryz.prog env (ct m) jn (m+1) f fn.ntmps c ⟨args,objs,objs.length⟩ (fun e σ=>(finE Tryz.prog env f fn e σ).bind dec)=some r):FX Tryz.prog f args objs res ro:=
 FX_of (q:=(res,ro)) (E:=env) (m:=m+1) (dec:=dec) jn_ok (hct _) mixed hf hc (Nat.le_of_ble_eq_true hl) (fun _ hb=>hd hb) h
section
variable {R:Type} {args:List AV} {objs:List Ob} {K:Res→Option R} {r:R}
theorem z6_fx m (hct:CtH m) (a0:Int) {r:Dt} (h:z6 (m+1) a0=some r):FX Tryz.prog 11 [(.dat 3 (.int a0))] [] (.dat 36 r) []:=
 fo hct Tryz.func11 rfl rfl d3_sim ((z6_eq m a0).trans h)
theorem qI_fx m (hct:CtH m) (a0 a1:Dt) {r:Bool} (h:qI (m+1) a0 a1=some r):FX Tryz.prog 21 [(.dat 36 a0),(.dat 36 a1)] [] (.dat 4 (.bool r)) []:=
 fo hct Tryz.func21 rfl rfl d14_sim ((qI_eq m a0 a1).trans h)
theorem zM_fx m (hct:CtH m) (a0 a1:List Dt) {r:Bool} (h:zM (m+1) a0 a1=some r):FX Tryz.prog 10 [(.dat 23 (.lst a0)),(.dat 23 (.lst a1))] [] (.dat 4 (.bool r)) []:=
 fo hct Tryz.func10 rfl rfl d14_sim ((zM_eq m a0 a1).trans h)
theorem i21_fx m (hct:CtH m) (a0:Dt) (a1:List Dt) {r:List Dt×List Dt×List Dt} (h:i21 (m+1) a0 a1=some r):FX Tryz.prog 34 [(.dat 44 a0),(.dat 23 (.lst a1))] [] (.ptr 0 [] 0) [(.box 79 (.agg 79 [(.row 1),(.row 2),(.row 3)])),(.row 23 r.1),(.row 76 r.2.1),(.row 77 r.2.2)]:=
 fo hct Tryz.func34 rfl rfl d21_sim ((i21_eq m a0 a1).trans h)
theorem qJ_fx m (hct:CtH m) (a0:Dt) {r:Dt} (h:qJ (m+1) a0=some r):FX Tryz.prog 58 [(.dat 36 a0)] [] (.dat 36 r) []:=
 fo hct Tryz.func58 rfl rfl d3_sim ((qJ_eq m a0).trans h)
theorem i24_fx m (hct:CtH m) (a0:Dt) (a1 a2 a3:List Dt) {r:List Dt×List Dt×List Dt×List Dt} (h:i24 (m+1) a0 a1 a2 a3=some r):FX Tryz.prog 35 [(.ptr 0 [] 0),(.dat 44 a0),(.fn 36 [])] [(.box 79 (.agg 79 [(.row 1),(.row 2),(.row 3)])),(.row 23 a1),(.row 76 a2),(.row 77 a3)] (.dat 23 (.lst r.1)) [(.box 79 (.agg 79 [(.row 1),(.row 2),(.row 3)])),(.frz 23 r.2.1),(.frz 76 r.2.2.1),(.frz 77 r.2.2.2)]:=
 fo hct Tryz.func35 rfl rfl d24_sim ((i24_eq m a0 a1 a2 a3).trans h)
theorem zY_fx m (hct:CtH m) (a0:Dt) (a1:List Dt) {r:List Dt} (h:zY (m+1) a0 a1=some r):FX Tryz.prog 22 [(.dat 44 a0),(.dat 23 (.lst a1))] [] (.dat 23 (.lst r)) []:=
 fo hct Tryz.func22 rfl rfl d11_sim ((zY_eq m a0 a1).trans h)
theorem zZ_fx m (hct:CtH m) (a0 a1:Dt) {r:Dt} (h:zZ (m+1) a0 a1=some r):FX Tryz.prog 37 [(.dat 83 a0),(.dat 85 a1)] [] (.dat 36 r) []:=
 fo hct Tryz.func37 rfl rfl d3_sim ((zZ_eq m a0 a1).trans h)
theorem i27_fx m (hct:CtH m) (a0:Dt) (a1 a2 a3:List Dt) {r:List Dt×List Dt×List Dt×List Dt} (h:i27 (m+1) a0 a1 a2 a3=some r):FX Tryz.prog 35 [(.ptr 0 [] 0),(.dat 44 a0),(.fn 37 [])] [(.box 79 (.agg 79 [(.row 1),(.row 2),(.row 3)])),(.row 23 a1),(.row 76 a2),(.row 77 a3)] (.dat 23 (.lst r.1)) [(.box 79 (.agg 79 [(.row 1),(.row 2),(.row 3)])),(.frz 23 r.2.1),(.frz 76 r.2.2.1),(.frz 77 r.2.2.2)]:=
 fo hct Tryz.func35 rfl rfl d24_sim ((i27_eq m a0 a1 a2 a3).trans h)
theorem zN_fx m (hct:CtH m) (a0:Dt) (a1:List Dt) {r:List Dt} (h:zN (m+1) a0 a1=some r):FX Tryz.prog 23 [(.dat 44 a0),(.dat 23 (.lst a1))] [] (.dat 23 (.lst r)) []:=
 fo hct Tryz.func23 rfl rfl d11_sim ((zN_eq m a0 a1).trans h)
theorem qZ_fx m (hct:CtH m) (a0 a1:Dt) {r:Bool} (h:qZ (m+1) a0 a1=some r):FX Tryz.prog 38 [(.dat 44 a0),(.dat 36 a1)] [] (.dat 4 (.bool r)) []:=
 fo hct Tryz.func38 rfl rfl d14_sim ((qZ_eq m a0 a1).trans h)
theorem qK_fx m (hct:CtH m) (a0:Dt) (a1:List Dt) {r:List Dt×Int} (h:qK (m+1) a0 a1=some r):FX Tryz.prog 24 [(.dat 44 a0),(.dat 23 (.lst a1))] [] (.tup [(.dat 23 (.lst r.1)),(.dat 27 (.int r.2))]) []:=
 fo hct Tryz.func24 rfl rfl d13_sim ((qK_eq m a0 a1).trans h)
theorem i46_fx m (hct:CtH m) (a0 a1 a2:Int) (a3 a4:List Dt) {r:List Dt×List Dt} (h:i46 (m+1) a0 a1 a2 a3 a4=some r):FX Tryz.prog 135 [(.row 0),(.dat 3 (.int a0)),(.dat 3 (.int a1)),(.dat 3 (.int a2)),(.fn 50 [(.ptr 1 [] 0)])] [(.row 91 a3),(.box 22 (.dat 22 (.lst a4)))] (.tup []) [(.row 91 r.1),(.box 22 (.dat 22 (.lst r.2)))]:=
 fo hct Tryz.func135 rfl rfl d46_sim ((i46_eq m a0 a1 a2 a3 a4).trans h)
theorem i45_fx m (hct:CtH m) (a0 a1 a2:Int) (a3 a4:List Dt) {r:List Dt×List Dt} (h:i45 (m+1) a0 a1 a2 a3 a4=some r):FX Tryz.prog 117 [(.row 0),(.dat 3 (.int a0)),(.dat 3 (.int a1)),(.dat 3 (.int a2)),(.fn 50 [(.ptr 1 [] 0)])] [(.row 91 a3),(.box 22 (.dat 22 (.lst a4)))] (.tup []) [(.row 91 r.1),(.box 22 (.dat 22 (.lst r.2)))]:=
 fo hct Tryz.func117 rfl rfl d46_sim ((i45_eq m a0 a1 a2 a3 a4).trans h)
theorem qG_fx m (hct:CtH m) (a0:Dt) {r:Dt} (h:qG (m+1) a0=some r):FX Tryz.prog 52 [(.dat 36 a0)] [] (.dat 36 r) []:=
 fo hct Tryz.func52 rfl rfl d3_sim ((qG_eq m a0).trans h)
theorem qP_fx m (hct:CtH m) (a0:Dt) {r:List Dt} (h:qP (m+1) a0=some r):FX Tryz.prog 72 [(.dat 36 a0)] [] (.dat 23 (.lst r)) []:=
 fo hct Tryz.func72 rfl rfl d11_sim ((qP_eq m a0).trans h)
theorem qM_fx m (hct:CtH m) (a0:Dt) (a1:Int) {r:Int} (h:qM (m+1) a0 a1=some r):FX Tryz.prog 42 [(.dat 36 a0),(.dat 3 (.int a1))] [] (.dat 3 (.int r)) []:=
 fo hct Tryz.func42 rfl rfl d32_sim ((qM_eq m a0 a1).trans h)
theorem zQ_fx m (hct:CtH m) (a0:Dt) {r:Int} (h:zQ (m+1) a0=some r):FX Tryz.prog 25 [(.dat 36 a0)] [] (.dat 3 (.int r)) []:=
 fo hct Tryz.func25 rfl rfl d32_sim ((zQ_eq m a0).trans h)
theorem zC_fx m (hct:CtH m) (a0:Dt) (a1:Int) {r:Int} (h:zC (m+1) a0 a1=some r):FX Tryz.prog 43 [(.dat 36 a0),(.dat 3 (.int a1))] [] (.dat 3 (.int r)) []:=
 fo hct Tryz.func43 rfl rfl d32_sim ((zC_eq m a0 a1).trans h)
theorem zT_fx m (hct:CtH m) (a0:Dt) {r:Int} (h:zT (m+1) a0=some r):FX Tryz.prog 26 [(.dat 36 a0)] [] (.dat 3 (.int r)) []:=
 fo hct Tryz.func26 rfl rfl d32_sim ((zT_eq m a0).trans h)
theorem zA_fx m (hct:CtH m) (a0:ByteArray) (a1 a2:Int) {r:Bool} (h:zA (m+1) a0 a1 a2=some r):FX Tryz.prog 73 [(.dat 9 (.str a0)),(.dat 3 (.int a1)),(.dat 3 (.int a2))] [] (.dat 4 (.bool r)) []:=
 fo hct Tryz.func73 rfl rfl d14_sim ((zA_eq m a0 a1 a2).trans h)
theorem qN_fx m (hct:CtH m) (a0:ByteArray) {r:Bool} (h:qN (m+1) a0=some r):FX Tryz.prog 44 [(.dat 9 (.str a0))] [] (.dat 4 (.bool r)) []:=
 fo hct Tryz.func44 rfl rfl d14_sim ((qN_eq m a0).trans h)
theorem qR_fx m (hct:CtH m) (a0:ByteArray) {r:Bool} (h:qR (m+1) a0=some r):FX Tryz.prog 28 [(.dat 9 (.str a0))] [] (.dat 4 (.bool r)) []:=
 fo hct Tryz.func28 rfl rfl d14_sim ((qR_eq m a0).trans h)
theorem qS_fx m (hct:CtH m) (a0:ByteArray) {r:Bool} (h:qS (m+1) a0=some r):FX Tryz.prog 74 [(.dat 9 (.str a0))] [] (.dat 4 (.bool r)) []:=
 fo hct Tryz.func74 rfl rfl d14_sim ((qS_eq m a0).trans h)
theorem qD_fx m (hct:CtH m) (a0:Dt) (a1:Bool) {r:Bool} (h:qD (m+1) a0 a1=some r):FX Tryz.prog 27 [(.dat 36 a0),(.dat 4 (.bool a1))] [] (.dat 4 (.bool r)) []:=
 fo hct Tryz.func27 rfl rfl d14_sim ((qD_eq m a0 a1).trans h)
theorem qF_fx m (hct:CtH m) (a0:Dt) (a1:Bool) {r:Bool} (h:qF (m+1) a0 a1=some r):FX Tryz.prog 45 [(.dat 36 a0),(.dat 4 (.bool a1))] [] (.dat 4 (.bool r)) []:=
 fo hct Tryz.func45 rfl rfl d14_sim ((qF_eq m a0 a1).trans h)
theorem zW_fx m (hct:CtH m) (a0:Dt) {r:Bool} (h:zW (m+1) a0=some r):FX Tryz.prog 13 [(.dat 36 a0)] [] (.dat 4 (.bool r)) []:=
 fo hct Tryz.func13 rfl rfl d14_sim ((zW_eq m a0).trans h)
theorem zD_fx m (hct:CtH m) (a0:List Dt) {r:Bool} (h:zD (m+1) a0=some r):FX Tryz.prog 5 [(.dat 23 (.lst a0))] [] (.dat 4 (.bool r)) []:=
 fo hct Tryz.func5 rfl rfl d14_sim ((zD_eq m a0).trans h)
theorem zL_fx m (hct:CtH m) (a0:Dt) (a1:Int) {r:Int} (h:zL (m+1) a0 a1=some r):FX Tryz.prog 94 [(.dat 36 a0),(.dat 3 (.int a1))] [] (.dat 3 (.int r)) []:=
 fo hct Tryz.func94 rfl rfl d32_sim ((zL_eq m a0 a1).trans h)
theorem i67_fx m (hct:CtH m) (a0:Dt) (a1 a2:Int) {r:Int×Int} (h:i67 (m+1) a0 a1 a2=some r):FX Tryz.prog 110 [(.dat 36 a0),(.fn 111 [(.ptr 0 [] 0),(.ptr 1 [] 0)])] [(.box 3 (.dat 3 (.int a1))),(.box 3 (.dat 3 (.int a2)))] (.tup []) [(.box 3 (.dat 3 (.int r.1))),(.box 3 (.dat 3 (.int r.2)))]:=
 fo hct Tryz.func110 rfl rfl d67_sim ((i67_eq m a0 a1 a2).trans h)
theorem i68_fx m (hct:CtH m) (a0:Dt) (a1 a2:Int) {r:Bool×Int×Int} (h:i68 (m+1) a0 a1 a2=some r):FX Tryz.prog 111 [(.dat 36 a0),(.ptr 0 [] 0),(.ptr 1 [] 0)] [(.box 3 (.dat 3 (.int a1))),(.box 3 (.dat 3 (.int a2)))] (.dat 4 (.bool r.1)) [(.box 3 (.dat 3 (.int r.2.1))),(.box 3 (.dat 3 (.int r.2.2)))]:=
 fo hct Tryz.func111 rfl rfl d68_sim ((i68_eq m a0 a1 a2).trans h)
theorem zR_fx m (hct:CtH m) (a0:Dt) {r:Int} (h:zR (m+1) a0=some r):FX Tryz.prog 75 [(.dat 36 a0)] [] (.dat 3 (.int r)) []:=
 fo hct Tryz.func75 rfl rfl d32_sim ((zR_eq m a0).trans h)
theorem zK_fx m (hct:CtH m) (a0:Dt) (a1:Int) {r:Int} (h:zK (m+1) a0 a1=some r):FX Tryz.prog 95 [(.dat 36 a0),(.dat 3 (.int a1))] [] (.dat 3 (.int r)) []:=
 fo hct Tryz.func95 rfl rfl d32_sim ((zK_eq m a0 a1).trans h)
theorem i69_fx m (hct:CtH m) (a0:Dt) (a1 a2:Int) {r:Int×Int} (h:i69 (m+1) a0 a1 a2=some r):FX Tryz.prog 110 [(.dat 36 a0),(.fn 112 [(.ptr 0 [] 0),(.ptr 1 [] 0)])] [(.box 3 (.dat 3 (.int a1))),(.box 3 (.dat 3 (.int a2)))] (.tup []) [(.box 3 (.dat 3 (.int r.1))),(.box 3 (.dat 3 (.int r.2)))]:=
 fo hct Tryz.func110 rfl rfl d67_sim ((i69_eq m a0 a1 a2).trans h)
theorem i70_fx m (hct:CtH m) (a0:Dt) (a1 a2:Int) {r:Bool×Int×Int} (h:i70 (m+1) a0 a1 a2=some r):FX Tryz.prog 112 [(.dat 36 a0),(.ptr 0 [] 0),(.ptr 1 [] 0)] [(.box 3 (.dat 3 (.int a1))),(.box 3 (.dat 3 (.int a2)))] (.dat 4 (.bool r.1)) [(.box 3 (.dat 3 (.int r.2.1))),(.box 3 (.dat 3 (.int r.2.2)))]:=
 fo hct Tryz.func112 rfl rfl d68_sim ((i70_eq m a0 a1 a2).trans h)
theorem zS_fx m (hct:CtH m) (a0:Dt) {r:Int} (h:zS (m+1) a0=some r):FX Tryz.prog 76 [(.dat 36 a0)] [] (.dat 3 (.int r)) []:=
 fo hct Tryz.func76 rfl rfl d32_sim ((zS_eq m a0).trans h)
theorem zP_fx m (hct:CtH m) (a0:Int) {r:Int} (h:zP (m+1) a0=some r):FX Tryz.prog 98 [(.dat 3 (.int a0))] [] (.dat 144 (.int r)) []:=
 fo hct Tryz.func98 rfl rfl d63_sim ((zP_eq m a0).trans h)
theorem qU_fx m (hct:CtH m) (a0:Int) {r:Int} (h:qU (m+1) a0=some r):FX Tryz.prog 78 [(.dat 3 (.int a0))] [] (.dat 3 (.int r)) []:=
 fo hct Tryz.func78 rfl rfl d32_sim ((qU_eq m a0).trans h)
theorem qE_fx m (hct:CtH m) (a0:Dt) {r:Int} (h:qE (m+1) a0=some r):FX Tryz.prog 47 [(.dat 36 a0)] [] (.dat 3 (.int r)) []:=
 fo hct Tryz.func47 rfl rfl d32_sim ((qE_eq m a0).trans h)
theorem qL_fx m (hct:CtH m) (a0:ByteArray) {r:Bool} (h:qL (m+1) a0=some r):FX Tryz.prog 114 [(.dat 9 (.str a0))] [] (.dat 4 (.bool r)) []:=
 fo hct Tryz.func114 rfl rfl d14_sim ((qL_eq m a0).trans h)
theorem qB_fx m (hct:CtH m) (a0:Dt) {r:Bool} (h:qB (m+1) a0=some r):FX Tryz.prog 77 [(.dat 36 a0)] [] (.dat 4 (.bool r)) []:=
 fo hct Tryz.func77 rfl rfl d14_sim ((qB_eq m a0).trans h)
theorem qH_fx m (hct:CtH m) (a0:List Dt) {r:Bool} (h:qH (m+1) a0=some r):FX Tryz.prog 97 [(.dat 34 (.lst a0))] [] (.dat 4 (.bool r)) []:=
 fo hct Tryz.func97 rfl rfl d14_sim ((qH_eq m a0).trans h)
theorem zV_fx m (hct:CtH m) (a0:Dt) {r:Bool} (h:zV (m+1) a0=some r):FX Tryz.prog 46 [(.dat 36 a0)] [] (.dat 4 (.bool r)) []:=
 fo hct Tryz.func46 rfl rfl d14_sim ((zV_eq m a0).trans h)
theorem zJ_fx m (hct:CtH m) (a0:Dt) {r:Int×Int} (h:zJ (m+1) a0=some r):FX Tryz.prog 29 [(.dat 36 a0)] [] (.tup [(.dat 3 (.int r.1)),(.dat 27 (.int r.2))]) []:=
 fo hct Tryz.func29 rfl rfl d18_sim ((zJ_eq m a0).trans h)
theorem qO_fx m (hct:CtH m) (a0:List Dt) (a1:Int) (a2:Bool) {r:List Dt×Int} (h:qO (m+1) a0 a1 a2=some r):FX Tryz.prog 16 [(.dat 23 (.lst a0)),(.dat 3 (.int a1)),(.dat 4 (.bool a2))] [] (.tup [(.dat 52 (.lst r.1)),(.dat 27 (.int r.2))]) []:=
 fo hct Tryz.func16 rfl rfl d8_sim ((qO_eq m a0 a1 a2).trans h)
theorem qW_fx m (hct:CtH m) (a0:Dt) (a1:List Dt) (a2:Int) (a3:Bool) {r:List Dt×Int×Int} (h:qW (m+1) a0 a1 a2 a3=some r):FX Tryz.prog 12 [(.dat 44 a0),(.dat 23 (.lst a1)),(.dat 3 (.int a2)),(.dat 4 (.bool a3))] [] (.tup [(.dat 23 (.lst r.1)),(.dat 3 (.int r.2.1)),(.dat 27 (.int r.2.2))]) []:=
 fo hct Tryz.func12 rfl rfl d5_sim ((qW_eq m a0 a1 a2 a3).trans h)
theorem zI_fx m (hct:CtH m) (a0:List Dt) (a1:ByteArray) {r:Int} (h:zI (m+1) a0 a1=some r):FX Tryz.prog 133 [(.dat 34 (.lst a0)),(.dat 9 (.str a1))] [] (.dat 3 (.int r)) []:=
 fo hct Tryz.func133 rfl rfl d32_sim ((zI_eq m a0 a1).trans h)
theorem zB_fx m (hct:CtH m) (a0:ByteArray) {r:Int×Bool} (h:zB (m+1) a0=some r):FX Tryz.prog 134 [(.dat 9 (.str a0))] [] (.tup [(.dat 3 (.int r.1)),(.dat 4 (.bool r.2))]) []:=
 fo hct Tryz.func134 rfl rfl d74_sim ((zB_eq m a0).trans h)
theorem i72_fx m (hct:CtH m) (a0:Dt) (a1 a2:List Dt) {r:List Dt} (h:i72 (m+1) a0 a1 a2=some r):FX Tryz.prog 115 [(.row 0),(.dat 36 a0),(.dat 38 (.lst a1))] [(.row 23 a2)] (.row 1) [.gone,(.row 23 r)]:=
 fo hct Tryz.func115 rfl rfl d72_sim ((i72_eq m a0 a1 a2).trans h)
theorem qV_fx m (hct:CtH m) (a0:Dt) {r:Int×Int×ByteArray×List Dt×List Dt} (h:qV (m+1) a0=some r):FX Tryz.prog 116 [(.dat 36 a0)] [] (.agg 36 [(.dat 3 (.int r.1)),(.dat 3 (.int r.2.1)),(.dat 9 (.str r.2.2.1)),(.row 0),(.row 1)]) [(.row 23 r.2.2.2.1),(.row 34 r.2.2.2.2)]:=
 fo hct Tryz.func116 rfl rfl d75_sim ((qV_eq m a0).trans h)
theorem zG_fx m (hct:CtH m) (a0:Dt) (a1:List Dt) {r:List Dt} (h:zG (m+1) a0 a1=some r):FX Tryz.prog 99 [(.dat 36 a0),(.dat 38 (.lst a1))] [] (.dat 23 (.lst r)) []:=
 fo hct Tryz.func99 rfl rfl d11_sim ((zG_eq m a0 a1).trans h)
theorem zX_fx m (hct:CtH m) (a0:Int) {r:Bool} (h:zX (m+1) a0=some r):FX Tryz.prog 107 [(.dat 3 (.int a0))] [] (.dat 4 (.bool r)) []:=
 fo hct Tryz.func107 rfl rfl d14_sim ((zX_eq m a0).trans h)
theorem zE_fx m (hct:CtH m) (a0 a1:Int) {r:Int} (h:zE (m+1) a0 a1=some r):FX Tryz.prog 90 [(.dat 3 (.int a0)),(.dat 3 (.int a1))] [] (.dat 3 (.int r)) []:=
 fo hct Tryz.func90 rfl rfl d32_sim ((zE_eq m a0 a1).trans h)
theorem qC_fx m (hct:CtH m) (a0 a1:Dt) {r:Int} (h:qC (m+1) a0 a1=some r):FX Tryz.prog 68 [(.dat 36 a0),(.dat 36 a1)] [] (.dat 3 (.int r)) []:=
 fo hct Tryz.func68 rfl rfl d32_sim ((qC_eq m a0 a1).trans h)
theorem qY_fx m (hct:CtH m) (a0 a1 a2:List Dt) {r:Int} (h:qY (m+1) a0 a1 a2=some r):FX Tryz.prog 51 [(.dat 22 (.lst a0)),(.dat 23 (.lst a1)),(.dat 23 (.lst a2))] [] (.dat 3 (.int r)) []:=
 fo hct Tryz.func51 rfl rfl d32_sim ((qY_eq m a0 a1 a2).trans h)
theorem i42_fx m (hct:CtH m) (a0 a1:Dt) (a2:List Dt) {r:Int×List Dt} (h:i42 (m+1) a0 a1 a2=some r):FX Tryz.prog 50 [(.dat 94 a0),(.dat 94 a1),(.ptr 0 [] 0)] [(.box 22 (.dat 22 (.lst a2)))] (.dat 3 (.int r.1)) [(.box 22 (.dat 22 (.lst r.2)))]:=
 fo hct Tryz.func50 rfl rfl d42_sim ((i42_eq m a0 a1 a2).trans h)
theorem i41_fx m (hct:CtH m) (a0 a1:Int) (a2 a3:List Dt) {r:List Dt×List Dt} (h:i41 (m+1) a0 a1 a2 a3=some r):FX Tryz.prog 100 [(.row 0),(.dat 3 (.int a0)),(.dat 3 (.int a1)),(.fn 50 [(.ptr 1 [] 0)])] [(.row 91 a2),(.box 22 (.dat 22 (.lst a3)))] (.tup []) [(.row 91 r.1),(.box 22 (.dat 22 (.lst r.2)))]:=
 fo hct Tryz.func100 rfl rfl d46_sim ((i41_eq m a0 a1 a2 a3).trans h)
theorem i44_fx m (hct:CtH m) (a0 a1 a2:Int) (a3 a4:List Dt) {r:List Dt×List Dt} (h:i44 (m+1) a0 a1 a2 a3 a4=some r):FX Tryz.prog 101 [(.row 0),(.dat 3 (.int a0)),(.dat 3 (.int a1)),(.dat 3 (.int a2)),(.fn 50 [(.ptr 1 [] 0)])] [(.row 91 a3),(.box 22 (.dat 22 (.lst a4)))] (.tup []) [(.row 91 r.1),(.box 22 (.dat 22 (.lst r.2)))]:=
 fo hct Tryz.func101 rfl rfl d46_sim ((i44_eq m a0 a1 a2 a3 a4).trans h)
theorem i40_fx m (hct:CtH m) (a0:Int) (a1 a2:List Dt) {r:List Dt×List Dt} (h:i40 (m+1) a0 a1 a2=some r):FX Tryz.prog 80 [(.row 0),(.dat 3 (.int a0)),(.fn 50 [(.ptr 1 [] 0)])] [(.row 91 a1),(.box 22 (.dat 22 (.lst a2)))] (.tup []) [(.row 91 r.1),(.box 22 (.dat 22 (.lst r.2)))]:=
 fo hct Tryz.func80 rfl rfl d46_sim ((i40_eq m a0 a1 a2).trans h)
theorem i39_fx m (hct:CtH m) (a0 a1:List Dt) {r:List Dt×List Dt} (h:i39 (m+1) a0 a1=some r):FX Tryz.prog 49 [(.row 0),(.fn 50 [(.ptr 1 [] 0)])] [(.row 91 a0),(.box 22 (.dat 22 (.lst a1)))] (.tup []) [(.row 91 r.1),(.box 22 (.dat 22 (.lst r.2)))]:=
 fo hct Tryz.func49 rfl rfl d46_sim ((i39_eq m a0 a1).trans h)
theorem qX_fx m (hct:CtH m) (a0 a1:Dt) {r:Dt} (h:qX (m+1) a0 a1=some r):FX Tryz.prog 79 [(.dat 50 a0),(.dat 36 a1)] [] (.dat 36 r) []:=
 fo hct Tryz.func79 rfl rfl d3_sim ((qX_eq m a0 a1).trans h)
theorem zH_fx m (hct:CtH m) (a0:List Dt) (a1:Dt) {r:List Dt} (h:zH (m+1) a0 a1=some r):FX Tryz.prog 48 [(.dat 22 (.lst a0)),(.dat 36 a1)] [] (.dat 23 (.lst r)) []:=
 fo hct Tryz.func48 rfl rfl d11_sim ((zH_eq m a0 a1).trans h)
theorem qT_fx m (hct:CtH m) (a0 a1:List Dt) (a2:Int) {r:List Dt} (h:qT (m+1) a0 a1 a2=some r):FX Tryz.prog 30 [(.dat 22 (.lst a0)),(.dat 23 (.lst a1)),(.dat 3 (.int a2))] [] (.dat 23 (.lst r)) []:=
 fo hct Tryz.func30 rfl rfl d11_sim ((qT_eq m a0 a1 a2).trans h)
theorem zU_fx m (hct:CtH m) (a0 a1:List Dt) {r:List Dt} (h:zU (m+1) a0 a1=some r):FX Tryz.prog 17 [(.dat 22 (.lst a0)),(.dat 23 (.lst a1))] [] (.dat 23 (.lst r)) []:=
 fo hct Tryz.func17 rfl rfl d11_sim ((zU_eq m a0 a1).trans h)
theorem zO_fx m (hct:CtH m) (a0:List Dt) (a1 a2:Dt) {r:Int} (h:zO (m+1) a0 a1 a2=some r):FX Tryz.prog 31 [(.dat 22 (.lst a0)),(.dat 36 a1),(.dat 36 a2)] [] (.dat 3 (.int r)) []:=
 fo hct Tryz.func31 rfl rfl d32_sim ((zO_eq m a0 a1 a2).trans h)
theorem zF_fx m (hct:CtH m) (a0 a1 a2:List Dt) {r:List Dt} (h:zF (m+1) a0 a1 a2=some r):FX Tryz.prog 18 [(.dat 22 (.lst a0)),(.dat 23 (.lst a1)),(.dat 23 (.lst a2))] [] (.dat 23 (.lst r)) []:=
 fo hct Tryz.func18 rfl rfl d11_sim ((zF_eq m a0 a1 a2).trans h)
theorem qA_fx m (hct:CtH m) (a0 a1:List Dt) (a2:Int) (a3:Bool) {r:List Dt×Int×Int} (h:qA (m+1) a0 a1 a2 a3=some r):FX Tryz.prog 8 [(.dat 22 (.lst a0)),(.dat 23 (.lst a1)),(.dat 3 (.int a2)),(.dat 4 (.bool a3))] [] (.tup [(.dat 23 (.lst r.1)),(.dat 3 (.int r.2.1)),(.dat 27 (.int r.2.2))]) []:=
 fo hct Tryz.func8 rfl rfl d5_sim ((qA_eq m a0 a1 a2 a3).trans h)
theorem qQ_fx m (hct:CtH m) (a0:List Dt) (a1 a2:Int) {r:Bool} (h:qQ (m+1) a0 a1 a2=some r):FX Tryz.prog 4 [(.dat 23 (.lst a0)),(.dat 3 (.int a1)),(.dat 3 (.int a2))] [] (.dat 4 (.bool r)) []:=
 fo hct Tryz.func4 rfl rfl d14_sim ((qQ_eq m a0 a1 a2).trans h)
theorem ct40_ok (m:Nat) (hct:∀k,k<m→∀R,CallOK (R:=R) Tryz.prog (ct k)) {R:Type} {args:List AV} {objs:List Ob} {K:Res→Option R} {r:R} (h:ct40 m args objs K=some r):∃q:Res,K q=some r∧FX Tryz.prog 40 args objs q.1 q.2∧HasBody Tryz.prog 40:=findM_ok h
theorem ct4_ok m (hct:CtK m) (h:ct4 m args objs K=some r):FQ 4 args objs K r:=by
 unfold ct4 at h
 split at h
 ·rename_i l hl
  obtain⟨x,hx,hk⟩:=Option.bind_eq_some_iff.1 h
  obtain⟨h1,h2⟩:=sel0_ok hl
  cases m with
  |zero=>cases hx
  |succ m=>exact⟨_,hk,(qQ_fx m (hct m (Nat.lt_succ_self m)) _ _ _ hx).conv h1 h2,⟨_,Tryz.func4,rfl,by decide⟩⟩
 cases h
theorem ct5_ok m (hct:CtK m) (h:ct5 m args objs K=some r):FQ 5 args objs K r:=by
 unfold ct5 at h
 split at h
 ·rename_i l hl
  obtain⟨x,hx,hk⟩:=Option.bind_eq_some_iff.1 h
  obtain⟨h1,h2⟩:=sel1_ok hl
  cases m with
  |zero=>cases hx
  |succ m=>exact⟨_,hk,(zD_fx m (hct m (Nat.lt_succ_self m)) _ hx).conv h1 h2,⟨_,Tryz.func5,rfl,by decide⟩⟩
 cases h
theorem ct7_ok m (hct:CtK m) (h:ct7 m args objs K=some r):FQ 7 args objs K r:=by
 unfold ct7 at h
 split at h
 ·rename_i l hl
  obtain⟨x,hx,hk⟩:=Option.bind_eq_some_iff.1 h
  obtain⟨h1,h2⟩:=sel2_ok hl
  exact⟨_,hk,(awakeC_fx hx).conv h1 h2,⟨_,Tryz.func7,rfl,by decide⟩⟩
 cases h
theorem ct11_ok m (hct:CtK m) (h:ct11 m args objs K=some r):FQ 11 args objs K r:=by
 unfold ct11 at h
 split at h
 ·rename_i l hl
  obtain⟨x,hx,hk⟩:=Option.bind_eq_some_iff.1 h
  obtain⟨h1,h2⟩:=sel3_ok hl
  cases m with
  |zero=>cases hx
  |succ m=>exact⟨_,hk,(z6_fx m (hct m (Nat.lt_succ_self m)) _ hx).conv h1 h2,⟨_,Tryz.func11,rfl,by decide⟩⟩
 cases h
theorem ct8_ok m (hct:CtK m) (h:ct8 m args objs K=some r):FQ 8 args objs K r:=by
 unfold ct8 at h
 split at h
 ·rename_i l hl
  obtain⟨x,hx,hk⟩:=Option.bind_eq_some_iff.1 h
  obtain⟨h1,h2⟩:=sel4_ok hl
  cases m with
  |zero=>cases hx
  |succ m=>exact⟨_,hk,(qA_fx m (hct m (Nat.lt_succ_self m)) _ _ _ _ hx).conv h1 h2,⟨_,Tryz.func8,rfl,by decide⟩⟩
 cases h
theorem ct12_ok m (hct:CtK m) (h:ct12 m args objs K=some r):FQ 12 args objs K r:=by
 unfold ct12 at h
 split at h
 ·rename_i l hl
  obtain⟨x,hx,hk⟩:=Option.bind_eq_some_iff.1 h
  obtain⟨h1,h2⟩:=sel5_ok hl
  cases m with
  |zero=>cases hx
  |succ m=>exact⟨_,hk,(qW_fx m (hct m (Nat.lt_succ_self m)) _ _ _ _ hx).conv h1 h2,⟨_,Tryz.func12,rfl,by decide⟩⟩
 cases h
theorem ct10_ok m (hct:CtK m) (h:ct10 m args objs K=some r):FQ 10 args objs K r:=by
 unfold ct10 at h
 split at h
 ·rename_i l hl
  obtain⟨x,hx,hk⟩:=Option.bind_eq_some_iff.1 h
  obtain⟨h1,h2⟩:=sel6_ok hl
  cases m with
  |zero=>cases hx
  |succ m=>exact⟨_,hk,(zM_fx m (hct m (Nat.lt_succ_self m)) _ _ hx).conv h1 h2,⟨_,Tryz.func10,rfl,by decide⟩⟩
 cases h
theorem ct13_ok m (hct:CtK m) (h:ct13 m args objs K=some r):FQ 13 args objs K r:=by
 unfold ct13 at h
 split at h
 ·rename_i l hl
  obtain⟨x,hx,hk⟩:=Option.bind_eq_some_iff.1 h
  obtain⟨h1,h2⟩:=sel7_ok hl
  cases m with
  |zero=>cases hx
  |succ m=>exact⟨_,hk,(zW_fx m (hct m (Nat.lt_succ_self m)) _ hx).conv h1 h2,⟨_,Tryz.func13,rfl,by decide⟩⟩
 cases h
theorem ct16_ok m (hct:CtK m) (h:ct16 m args objs K=some r):FQ 16 args objs K r:=by
 unfold ct16 at h
 split at h
 ·rename_i l hl
  obtain⟨x,hx,hk⟩:=Option.bind_eq_some_iff.1 h
  obtain⟨h1,h2⟩:=sel8_ok hl
  cases m with
  |zero=>cases hx
  |succ m=>exact⟨_,hk,(qO_fx m (hct m (Nat.lt_succ_self m)) _ _ _ hx).conv h1 h2,⟨_,Tryz.func16,rfl,by decide⟩⟩
 cases h
theorem ct17_ok m (hct:CtK m) (h:ct17 m args objs K=some r):FQ 17 args objs K r:=by
 unfold ct17 at h
 split at h
 ·rename_i l hl
  obtain⟨x,hx,hk⟩:=Option.bind_eq_some_iff.1 h
  obtain⟨h1,h2⟩:=sel9_ok hl
  cases m with
  |zero=>cases hx
  |succ m=>exact⟨_,hk,(zU_fx m (hct m (Nat.lt_succ_self m)) _ _ hx).conv h1 h2,⟨_,Tryz.func17,rfl,by decide⟩⟩
 cases h
theorem ct18_ok m (hct:CtK m) (h:ct18 m args objs K=some r):FQ 18 args objs K r:=by
 unfold ct18 at h
 split at h
 ·rename_i l hl
  obtain⟨x,hx,hk⟩:=Option.bind_eq_some_iff.1 h
  obtain⟨h1,h2⟩:=sel10_ok hl
  cases m with
  |zero=>cases hx
  |succ m=>exact⟨_,hk,(zF_fx m (hct m (Nat.lt_succ_self m)) _ _ _ hx).conv h1 h2,⟨_,Tryz.func18,rfl,by decide⟩⟩
 cases h
theorem ct22_ok m (hct:CtK m) (h:ct22 m args objs K=some r):FQ 22 args objs K r:=by
 unfold ct22 at h
 split at h
 ·rename_i l hl
  obtain⟨x,hx,hk⟩:=Option.bind_eq_some_iff.1 h
  obtain⟨h1,h2⟩:=sel11_ok hl
  cases m with
  |zero=>cases hx
  |succ m=>exact⟨_,hk,(zY_fx m (hct m (Nat.lt_succ_self m)) _ _ hx).conv h1 h2,⟨_,Tryz.func22,rfl,by decide⟩⟩
 cases h
theorem ct23_ok m (hct:CtK m) (h:ct23 m args objs K=some r):FQ 23 args objs K r:=by
 unfold ct23 at h
 split at h
 ·rename_i l hl
  obtain⟨x,hx,hk⟩:=Option.bind_eq_some_iff.1 h
  obtain⟨h1,h2⟩:=sel11_ok hl
  cases m with
  |zero=>cases hx
  |succ m=>exact⟨_,hk,(zN_fx m (hct m (Nat.lt_succ_self m)) _ _ hx).conv h1 h2,⟨_,Tryz.func23,rfl,by decide⟩⟩
 cases h
theorem ct24_ok m (hct:CtK m) (h:ct24 m args objs K=some r):FQ 24 args objs K r:=by
 unfold ct24 at h
 split at h
 ·rename_i l hl
  obtain⟨x,hx,hk⟩:=Option.bind_eq_some_iff.1 h
  obtain⟨h1,h2⟩:=sel11_ok hl
  cases m with
  |zero=>cases hx
  |succ m=>exact⟨_,hk,(qK_fx m (hct m (Nat.lt_succ_self m)) _ _ hx).conv h1 h2,⟨_,Tryz.func24,rfl,by decide⟩⟩
 cases h
theorem ct21_ok m (hct:CtK m) (h:ct21 m args objs K=some r):FQ 21 args objs K r:=by
 unfold ct21 at h
 split at h
 ·rename_i l hl
  obtain⟨x,hx,hk⟩:=Option.bind_eq_some_iff.1 h
  obtain⟨h1,h2⟩:=sel14_ok hl
  cases m with
  |zero=>cases hx
  |succ m=>exact⟨_,hk,(qI_fx m (hct m (Nat.lt_succ_self m)) _ _ hx).conv h1 h2,⟨_,Tryz.func21,rfl,by decide⟩⟩
 cases h
theorem ct25_ok m (hct:CtK m) (h:ct25 m args objs K=some r):FQ 25 args objs K r:=by
 unfold ct25 at h
 split at h
 ·rename_i l hl
  obtain⟨x,hx,hk⟩:=Option.bind_eq_some_iff.1 h
  obtain⟨h1,h2⟩:=sel7_ok hl
  cases m with
  |zero=>cases hx
  |succ m=>exact⟨_,hk,(zQ_fx m (hct m (Nat.lt_succ_self m)) _ hx).conv h1 h2,⟨_,Tryz.func25,rfl,by decide⟩⟩
 cases h
theorem ct26_ok m (hct:CtK m) (h:ct26 m args objs K=some r):FQ 26 args objs K r:=by
 unfold ct26 at h
 split at h
 ·rename_i l hl
  obtain⟨x,hx,hk⟩:=Option.bind_eq_some_iff.1 h
  obtain⟨h1,h2⟩:=sel7_ok hl
  cases m with
  |zero=>cases hx
  |succ m=>exact⟨_,hk,(zT_fx m (hct m (Nat.lt_succ_self m)) _ hx).conv h1 h2,⟨_,Tryz.func26,rfl,by decide⟩⟩
 cases h
theorem ct27_ok m (hct:CtK m) (h:ct27 m args objs K=some r):FQ 27 args objs K r:=by
 unfold ct27 at h
 split at h
 ·rename_i l hl
  obtain⟨x,hx,hk⟩:=Option.bind_eq_some_iff.1 h
  obtain⟨h1,h2⟩:=sel17_ok hl
  cases m with
  |zero=>cases hx
  |succ m=>exact⟨_,hk,(qD_fx m (hct m (Nat.lt_succ_self m)) _ _ hx).conv h1 h2,⟨_,Tryz.func27,rfl,by decide⟩⟩
 cases h
theorem ct29_ok m (hct:CtK m) (h:ct29 m args objs K=some r):FQ 29 args objs K r:=by
 unfold ct29 at h
 split at h
 ·rename_i l hl
  obtain⟨x,hx,hk⟩:=Option.bind_eq_some_iff.1 h
  obtain⟨h1,h2⟩:=sel7_ok hl
  cases m with
  |zero=>cases hx
  |succ m=>exact⟨_,hk,(zJ_fx m (hct m (Nat.lt_succ_self m)) _ hx).conv h1 h2,⟨_,Tryz.func29,rfl,by decide⟩⟩
 cases h
theorem ct30_ok m (hct:CtK m) (h:ct30 m args objs K=some r):FQ 30 args objs K r:=by
 unfold ct30 at h
 split at h
 ·rename_i l hl
  obtain⟨x,hx,hk⟩:=Option.bind_eq_some_iff.1 h
  obtain⟨h1,h2⟩:=sel19_ok hl
  cases m with
  |zero=>cases hx
  |succ m=>exact⟨_,hk,(qT_fx m (hct m (Nat.lt_succ_self m)) _ _ _ hx).conv h1 h2,⟨_,Tryz.func30,rfl,by decide⟩⟩
 cases h
theorem ct31_ok m (hct:CtK m) (h:ct31 m args objs K=some r):FQ 31 args objs K r:=by
 unfold ct31 at h
 split at h
 ·rename_i l hl
  obtain⟨x,hx,hk⟩:=Option.bind_eq_some_iff.1 h
  obtain⟨h1,h2⟩:=sel20_ok hl
  cases m with
  |zero=>cases hx
  |succ m=>exact⟨_,hk,(zO_fx m (hct m (Nat.lt_succ_self m)) _ _ _ hx).conv h1 h2,⟨_,Tryz.func31,rfl,by decide⟩⟩
 cases h
theorem ct34_ok m (hct:CtK m) (h:ct34 m args objs K=some r):FQ 34 args objs K r:=by
 unfold ct34 at h
 split at h
 ·rename_i l hl
  obtain⟨x,hx,hk⟩:=Option.bind_eq_some_iff.1 h
  obtain⟨h1,h2⟩:=sel11_ok hl
  cases m with
  |zero=>cases hx
  |succ m=>exact⟨_,hk,(i21_fx m (hct m (Nat.lt_succ_self m)) _ _ hx).conv h1 h2,⟨_,Tryz.func34,rfl,by decide⟩⟩
 cases h
theorem ct56_ok m (hct:CtK m) (h:ct56 m args objs K=some r):FQ 56 args objs K r:=by
 unfold ct56 at h
 split at h
 ·rename_i l hl
  obtain⟨x,hx,hk⟩:=Option.bind_eq_some_iff.1 h
  obtain⟨h1,h2⟩:=sel22_ok hl
  exact⟨_,hk,(expr_EvalC_fx hx).conv h1 h2,⟨_,Tryz.func56,rfl,by decide⟩⟩
 cases h
theorem ct57_ok m (hct:CtK m) (h:ct57 m args objs K=some r):FQ 57 args objs K r:=by
 unfold ct57 at h
 split at h
 ·rename_i l hl
  obtain⟨x,hx,hk⟩:=Option.bind_eq_some_iff.1 h
  obtain⟨h1,h2⟩:=sel23_ok hl
  exact⟨_,hk,(accAddN_fx hx).conv h1 h2,⟨_,Tryz.func57,rfl,by decide⟩⟩
 cases h
theorem ct35_ok m (hct:CtK m) (h:ct35 m args objs K=some r):FQ 35 args objs K r:=by
 unfold ct35 at h
 split at h
 ·rename_i l hl
  obtain⟨x,hx,hk⟩:=Option.bind_eq_some_iff.1 h
  obtain⟨h1,h2⟩:=sel24_ok hl
  cases m with
  |zero=>cases hx
  |succ m=>exact⟨_,hk,(i24_fx m (hct m (Nat.lt_succ_self m)) _ _ _ _ hx).conv h1 h2,⟨_,Tryz.func35,rfl,by decide⟩⟩
 split at h
 ·rename_i l hl
  obtain⟨x,hx,hk⟩:=Option.bind_eq_some_iff.1 h
  obtain⟨h1,h2⟩:=sel27_ok hl
  cases m with
  |zero=>cases hx
  |succ m=>exact⟨_,hk,(i27_fx m (hct m (Nat.lt_succ_self m)) _ _ _ _ hx).conv h1 h2,⟨_,Tryz.func35,rfl,by decide⟩⟩
 cases h
theorem ct58_ok m (hct:CtK m) (h:ct58 m args objs K=some r):FQ 58 args objs K r:=by
 unfold ct58 at h
 split at h
 ·rename_i l hl
  obtain⟨x,hx,hk⟩:=Option.bind_eq_some_iff.1 h
  obtain⟨h1,h2⟩:=sel7_ok hl
  cases m with
  |zero=>cases hx
  |succ m=>exact⟨_,hk,(qJ_fx m (hct m (Nat.lt_succ_self m)) _ hx).conv h1 h2,⟨_,Tryz.func58,rfl,by decide⟩⟩
 cases h
theorem ct36_ok m (hct:CtK m) (h:ct36 m args objs K=some r):FQ 36 args objs K r:=by
 unfold ct36 at h
 split at h
 ·rename_i l hl
  obtain⟨x,hx,hk⟩:=Option.bind_eq_some_iff.1 h
  obtain⟨h1,h2⟩:=sel26_ok hl
  exact⟨_,hk,(accResultN_fx hx).conv h1 h2,⟨_,Tryz.func36,rfl,by decide⟩⟩
 cases h
theorem ct37_ok m (hct:CtK m) (h:ct37 m args objs K=some r):FQ 37 args objs K r:=by
 unfold ct37 at h
 split at h
 ·rename_i l hl
  obtain⟨x,hx,hk⟩:=Option.bind_eq_some_iff.1 h
  obtain⟨h1,h2⟩:=sel26_ok hl
  cases m with
  |zero=>cases hx
  |succ m=>exact⟨_,hk,(zZ_fx m (hct m (Nat.lt_succ_self m)) _ _ hx).conv h1 h2,⟨_,Tryz.func37,rfl,by decide⟩⟩
 cases h
theorem ct38_ok m (hct:CtK m) (h:ct38 m args objs K=some r):FQ 38 args objs K r:=by
 unfold ct38 at h
 split at h
 ·rename_i l hl
  obtain⟨x,hx,hk⟩:=Option.bind_eq_some_iff.1 h
  obtain⟨h1,h2⟩:=sel29_ok hl
  cases m with
  |zero=>cases hx
  |succ m=>exact⟨_,hk,(qZ_fx m (hct m (Nat.lt_succ_self m)) _ _ hx).conv h1 h2,⟨_,Tryz.func38,rfl,by decide⟩⟩
 cases h
theorem ct39_ok m (hct:CtK m) (h:ct39 m args objs K=some r):FQ 39 args objs K r:=by
 unfold ct39 at h
 split at h
 ·rename_i l hl
  obtain⟨x,hx,hk⟩:=Option.bind_eq_some_iff.1 h
  obtain⟨h1,h2⟩:=sel7_ok hl
  exact⟨_,hk,(accUnpackN_fx hx).conv h1 h2,⟨_,Tryz.func39,rfl,by decide⟩⟩
 cases h
theorem ct41_ok m (hct:CtK m) (h:ct41 m args objs K=some r):FQ 41 args objs K r:=by
 unfold ct41 at h
 split at h
 ·rename_i l hl
  obtain⟨x,hx,hk⟩:=Option.bind_eq_some_iff.1 h
  obtain⟨h1,h2⟩:=sel31_ok hl
  exact⟨_,hk,(accJoinN_fx hx).conv h1 h2,⟨_,Tryz.func41,rfl,by decide⟩⟩
 cases h
theorem ct42_ok m (hct:CtK m) (h:ct42 m args objs K=some r):FQ 42 args objs K r:=by
 unfold ct42 at h
 split at h
 ·rename_i l hl
  obtain⟨x,hx,hk⟩:=Option.bind_eq_some_iff.1 h
  obtain⟨h1,h2⟩:=sel32_ok hl
  cases m with
  |zero=>cases hx
  |succ m=>exact⟨_,hk,(qM_fx m (hct m (Nat.lt_succ_self m)) _ _ hx).conv h1 h2,⟨_,Tryz.func42,rfl,by decide⟩⟩
 cases h
theorem ct43_ok m (hct:CtK m) (h:ct43 m args objs K=some r):FQ 43 args objs K r:=by
 unfold ct43 at h
 split at h
 ·rename_i l hl
  obtain⟨x,hx,hk⟩:=Option.bind_eq_some_iff.1 h
  obtain⟨h1,h2⟩:=sel32_ok hl
  cases m with
  |zero=>cases hx
  |succ m=>exact⟨_,hk,(zC_fx m (hct m (Nat.lt_succ_self m)) _ _ hx).conv h1 h2,⟨_,Tryz.func43,rfl,by decide⟩⟩
 cases h
theorem ct44_ok m (hct:CtK m) (h:ct44 m args objs K=some r):FQ 44 args objs K r:=by
 unfold ct44 at h
 split at h
 ·rename_i l hl
  obtain⟨x,hx,hk⟩:=Option.bind_eq_some_iff.1 h
  obtain⟨h1,h2⟩:=sel34_ok hl
  cases m with
  |zero=>cases hx
  |succ m=>exact⟨_,hk,(qN_fx m (hct m (Nat.lt_succ_self m)) _ hx).conv h1 h2,⟨_,Tryz.func44,rfl,by decide⟩⟩
 cases h
theorem ct45_ok m (hct:CtK m) (h:ct45 m args objs K=some r):FQ 45 args objs K r:=by
 unfold ct45 at h
 split at h
 ·rename_i l hl
  obtain⟨x,hx,hk⟩:=Option.bind_eq_some_iff.1 h
  obtain⟨h1,h2⟩:=sel17_ok hl
  cases m with
  |zero=>cases hx
  |succ m=>exact⟨_,hk,(qF_fx m (hct m (Nat.lt_succ_self m)) _ _ hx).conv h1 h2,⟨_,Tryz.func45,rfl,by decide⟩⟩
 cases h
theorem ct46_ok m (hct:CtK m) (h:ct46 m args objs K=some r):FQ 46 args objs K r:=by
 unfold ct46 at h
 split at h
 ·rename_i l hl
  obtain⟨x,hx,hk⟩:=Option.bind_eq_some_iff.1 h
  obtain⟨h1,h2⟩:=sel7_ok hl
  cases m with
  |zero=>cases hx
  |succ m=>exact⟨_,hk,(zV_fx m (hct m (Nat.lt_succ_self m)) _ hx).conv h1 h2,⟨_,Tryz.func46,rfl,by decide⟩⟩
 cases h
theorem ct47_ok m (hct:CtK m) (h:ct47 m args objs K=some r):FQ 47 args objs K r:=by
 unfold ct47 at h
 split at h
 ·rename_i l hl
  obtain⟨x,hx,hk⟩:=Option.bind_eq_some_iff.1 h
  obtain⟨h1,h2⟩:=sel7_ok hl
  cases m with
  |zero=>cases hx
  |succ m=>exact⟨_,hk,(qE_fx m (hct m (Nat.lt_succ_self m)) _ hx).conv h1 h2,⟨_,Tryz.func47,rfl,by decide⟩⟩
 cases h
theorem ct48_ok m (hct:CtK m) (h:ct48 m args objs K=some r):FQ 48 args objs K r:=by
 unfold ct48 at h
 split at h
 ·rename_i l hl
  obtain⟨x,hx,hk⟩:=Option.bind_eq_some_iff.1 h
  obtain⟨h1,h2⟩:=sel38_ok hl
  cases m with
  |zero=>cases hx
  |succ m=>exact⟨_,hk,(zH_fx m (hct m (Nat.lt_succ_self m)) _ _ hx).conv h1 h2,⟨_,Tryz.func48,rfl,by decide⟩⟩
 cases h
theorem ct49_ok m (hct:CtK m) (h:ct49 m args objs K=some r):FQ 49 args objs K r:=by
 unfold ct49 at h
 split at h
 ·rename_i l hl
  obtain⟨x,hx,hk⟩:=Option.bind_eq_some_iff.1 h
  obtain⟨h1,h2⟩:=sel39_ok hl
  cases m with
  |zero=>cases hx
  |succ m=>exact⟨_,hk,(i39_fx m (hct m (Nat.lt_succ_self m)) _ _ hx).conv h1 h2,⟨_,Tryz.func49,rfl,by decide⟩⟩
 cases h
theorem ct80_ok m (hct:CtK m) (h:ct80 m args objs K=some r):FQ 80 args objs K r:=by
 unfold ct80 at h
 split at h
 ·rename_i l hl
  obtain⟨x,hx,hk⟩:=Option.bind_eq_some_iff.1 h
  obtain⟨h1,h2⟩:=sel40_ok hl
  cases m with
  |zero=>cases hx
  |succ m=>exact⟨_,hk,(i40_fx m (hct m (Nat.lt_succ_self m)) _ _ _ hx).conv h1 h2,⟨_,Tryz.func80,rfl,by decide⟩⟩
 cases h
theorem ct100_ok m (hct:CtK m) (h:ct100 m args objs K=some r):FQ 100 args objs K r:=by
 unfold ct100 at h
 split at h
 ·rename_i l hl
  obtain⟨x,hx,hk⟩:=Option.bind_eq_some_iff.1 h
  obtain⟨h1,h2⟩:=sel41_ok hl
  cases m with
  |zero=>cases hx
  |succ m=>exact⟨_,hk,(i41_fx m (hct m (Nat.lt_succ_self m)) _ _ _ _ hx).conv h1 h2,⟨_,Tryz.func100,rfl,by decide⟩⟩
 cases h
theorem ct50_ok m (hct:CtK m) (h:ct50 m args objs K=some r):FQ 50 args objs K r:=by
 unfold ct50 at h
 split at h
 ·rename_i l hl
  obtain⟨x,hx,hk⟩:=Option.bind_eq_some_iff.1 h
  obtain⟨h1,h2⟩:=sel42_ok hl
  cases m with
  |zero=>cases hx
  |succ m=>exact⟨_,hk,(i42_fx m (hct m (Nat.lt_succ_self m)) _ _ _ hx).conv h1 h2,⟨_,Tryz.func50,rfl,by decide⟩⟩
 cases h
theorem ct51_ok m (hct:CtK m) (h:ct51 m args objs K=some r):FQ 51 args objs K r:=by
 unfold ct51 at h
 split at h
 ·rename_i l hl
  obtain⟨x,hx,hk⟩:=Option.bind_eq_some_iff.1 h
  obtain⟨h1,h2⟩:=sel10_ok hl
  cases m with
  |zero=>cases hx
  |succ m=>exact⟨_,hk,(qY_fx m (hct m (Nat.lt_succ_self m)) _ _ _ hx).conv h1 h2,⟨_,Tryz.func51,rfl,by decide⟩⟩
 cases h
theorem ct101_ok m (hct:CtK m) (h:ct101 m args objs K=some r):FQ 101 args objs K r:=by
 unfold ct101 at h
 split at h
 ·rename_i l hl
  obtain⟨x,hx,hk⟩:=Option.bind_eq_some_iff.1 h
  obtain⟨h1,h2⟩:=sel44_ok hl
  cases m with
  |zero=>cases hx
  |succ m=>exact⟨_,hk,(i44_fx m (hct m (Nat.lt_succ_self m)) _ _ _ _ _ hx).conv h1 h2,⟨_,Tryz.func101,rfl,by decide⟩⟩
 cases h
theorem ct117_ok m (hct:CtK m) (h:ct117 m args objs K=some r):FQ 117 args objs K r:=by
 unfold ct117 at h
 split at h
 ·rename_i l hl
  obtain⟨x,hx,hk⟩:=Option.bind_eq_some_iff.1 h
  obtain⟨h1,h2⟩:=sel44_ok hl
  cases m with
  |zero=>cases hx
  |succ m=>exact⟨_,hk,(i45_fx m (hct m (Nat.lt_succ_self m)) _ _ _ _ _ hx).conv h1 h2,⟨_,Tryz.func117,rfl,by decide⟩⟩
 cases h
theorem ct135_ok m (hct:CtK m) (h:ct135 m args objs K=some r):FQ 135 args objs K r:=by
 unfold ct135 at h
 split at h
 ·rename_i l hl
  obtain⟨x,hx,hk⟩:=Option.bind_eq_some_iff.1 h
  obtain⟨h1,h2⟩:=sel44_ok hl
  cases m with
  |zero=>cases hx
  |succ m=>exact⟨_,hk,(i46_fx m (hct m (Nat.lt_succ_self m)) _ _ _ _ _ hx).conv h1 h2,⟨_,Tryz.func135,rfl,by decide⟩⟩
 cases h
theorem ct52_ok m (hct:CtK m) (h:ct52 m args objs K=some r):FQ 52 args objs K r:=by
 unfold ct52 at h
 split at h
 ·rename_i l hl
  obtain⟨x,hx,hk⟩:=Option.bind_eq_some_iff.1 h
  obtain⟨h1,h2⟩:=sel7_ok hl
  cases m with
  |zero=>cases hx
  |succ m=>exact⟨_,hk,(qG_fx m (hct m (Nat.lt_succ_self m)) _ hx).conv h1 h2,⟨_,Tryz.func52,rfl,by decide⟩⟩
 cases h
theorem ct61_ok m (hct:CtK m) (h:ct61 m args objs K=some r):FQ 61 args objs K r:=by
 unfold ct61 at h
 split at h
 ·rename_i l hl
  obtain⟨x,hx,hk⟩:=Option.bind_eq_some_iff.1 h
  obtain⟨h1,h2⟩:=sel48_ok hl
  exact⟨_,hk,(accPackN_fx hx).conv h1 h2,⟨_,Tryz.func61,rfl,by decide⟩⟩
 cases h
theorem ct72_ok m (hct:CtK m) (h:ct72 m args objs K=some r):FQ 72 args objs K r:=by
 unfold ct72 at h
 split at h
 ·rename_i l hl
  obtain⟨x,hx,hk⟩:=Option.bind_eq_some_iff.1 h
  obtain⟨h1,h2⟩:=sel7_ok hl
  cases m with
  |zero=>cases hx
  |succ m=>exact⟨_,hk,(qP_fx m (hct m (Nat.lt_succ_self m)) _ hx).conv h1 h2,⟨_,Tryz.func72,rfl,by decide⟩⟩
 cases h
theorem ct73_ok m (hct:CtK m) (h:ct73 m args objs K=some r):FQ 73 args objs K r:=by
 unfold ct73 at h
 split at h
 ·rename_i l hl
  obtain⟨x,hx,hk⟩:=Option.bind_eq_some_iff.1 h
  obtain⟨h1,h2⟩:=sel50_ok hl
  cases m with
  |zero=>cases hx
  |succ m=>exact⟨_,hk,(zA_fx m (hct m (Nat.lt_succ_self m)) _ _ _ hx).conv h1 h2,⟨_,Tryz.func73,rfl,by decide⟩⟩
 cases h
theorem ct28_ok m (hct:CtK m) (h:ct28 m args objs K=some r):FQ 28 args objs K r:=by
 unfold ct28 at h
 split at h
 ·rename_i l hl
  obtain⟨x,hx,hk⟩:=Option.bind_eq_some_iff.1 h
  obtain⟨h1,h2⟩:=sel34_ok hl
  cases m with
  |zero=>cases hx
  |succ m=>exact⟨_,hk,(qR_fx m (hct m (Nat.lt_succ_self m)) _ hx).conv h1 h2,⟨_,Tryz.func28,rfl,by decide⟩⟩
 cases h
theorem ct74_ok m (hct:CtK m) (h:ct74 m args objs K=some r):FQ 74 args objs K r:=by
 unfold ct74 at h
 split at h
 ·rename_i l hl
  obtain⟨x,hx,hk⟩:=Option.bind_eq_some_iff.1 h
  obtain⟨h1,h2⟩:=sel34_ok hl
  cases m with
  |zero=>cases hx
  |succ m=>exact⟨_,hk,(qS_fx m (hct m (Nat.lt_succ_self m)) _ hx).conv h1 h2,⟨_,Tryz.func74,rfl,by decide⟩⟩
 cases h
theorem ct75_ok m (hct:CtK m) (h:ct75 m args objs K=some r):FQ 75 args objs K r:=by
 unfold ct75 at h
 split at h
 ·rename_i l hl
  obtain⟨x,hx,hk⟩:=Option.bind_eq_some_iff.1 h
  obtain⟨h1,h2⟩:=sel7_ok hl
  cases m with
  |zero=>cases hx
  |succ m=>exact⟨_,hk,(zR_fx m (hct m (Nat.lt_succ_self m)) _ hx).conv h1 h2,⟨_,Tryz.func75,rfl,by decide⟩⟩
 cases h
theorem ct76_ok m (hct:CtK m) (h:ct76 m args objs K=some r):FQ 76 args objs K r:=by
 unfold ct76 at h
 split at h
 ·rename_i l hl
  obtain⟨x,hx,hk⟩:=Option.bind_eq_some_iff.1 h
  obtain⟨h1,h2⟩:=sel7_ok hl
  cases m with
  |zero=>cases hx
  |succ m=>exact⟨_,hk,(zS_fx m (hct m (Nat.lt_succ_self m)) _ hx).conv h1 h2,⟨_,Tryz.func76,rfl,by decide⟩⟩
 cases h
theorem ct77_ok m (hct:CtK m) (h:ct77 m args objs K=some r):FQ 77 args objs K r:=by
 unfold ct77 at h
 split at h
 ·rename_i l hl
  obtain⟨x,hx,hk⟩:=Option.bind_eq_some_iff.1 h
  obtain⟨h1,h2⟩:=sel7_ok hl
  cases m with
  |zero=>cases hx
  |succ m=>exact⟨_,hk,(qB_fx m (hct m (Nat.lt_succ_self m)) _ hx).conv h1 h2,⟨_,Tryz.func77,rfl,by decide⟩⟩
 cases h
theorem ct78_ok m (hct:CtK m) (h:ct78 m args objs K=some r):FQ 78 args objs K r:=by
 unfold ct78 at h
 split at h
 ·rename_i l hl
  obtain⟨x,hx,hk⟩:=Option.bind_eq_some_iff.1 h
  obtain⟨h1,h2⟩:=sel3_ok hl
  cases m with
  |zero=>cases hx
  |succ m=>exact⟨_,hk,(qU_fx m (hct m (Nat.lt_succ_self m)) _ hx).conv h1 h2,⟨_,Tryz.func78,rfl,by decide⟩⟩
 cases h
theorem ct79_ok m (hct:CtK m) (h:ct79 m args objs K=some r):FQ 79 args objs K r:=by
 unfold ct79 at h
 split at h
 ·rename_i l hl
  obtain⟨x,hx,hk⟩:=Option.bind_eq_some_iff.1 h
  obtain⟨h1,h2⟩:=sel57_ok hl
  cases m with
  |zero=>cases hx
  |succ m=>exact⟨_,hk,(qX_fx m (hct m (Nat.lt_succ_self m)) _ _ hx).conv h1 h2,⟨_,Tryz.func79,rfl,by decide⟩⟩
 cases h
theorem ct68_ok m (hct:CtK m) (h:ct68 m args objs K=some r):FQ 68 args objs K r:=by
 unfold ct68 at h
 split at h
 ·rename_i l hl
  obtain⟨x,hx,hk⟩:=Option.bind_eq_some_iff.1 h
  obtain⟨h1,h2⟩:=sel14_ok hl
  cases m with
  |zero=>cases hx
  |succ m=>exact⟨_,hk,(qC_fx m (hct m (Nat.lt_succ_self m)) _ _ hx).conv h1 h2,⟨_,Tryz.func68,rfl,by decide⟩⟩
 cases h
theorem ct94_ok m (hct:CtK m) (h:ct94 m args objs K=some r):FQ 94 args objs K r:=by
 unfold ct94 at h
 split at h
 ·rename_i l hl
  obtain⟨x,hx,hk⟩:=Option.bind_eq_some_iff.1 h
  obtain⟨h1,h2⟩:=sel32_ok hl
  cases m with
  |zero=>cases hx
  |succ m=>exact⟨_,hk,(zL_fx m (hct m (Nat.lt_succ_self m)) _ _ hx).conv h1 h2,⟨_,Tryz.func94,rfl,by decide⟩⟩
 cases h
theorem ct95_ok m (hct:CtK m) (h:ct95 m args objs K=some r):FQ 95 args objs K r:=by
 unfold ct95 at h
 split at h
 ·rename_i l hl
  obtain⟨x,hx,hk⟩:=Option.bind_eq_some_iff.1 h
  obtain⟨h1,h2⟩:=sel32_ok hl
  cases m with
  |zero=>cases hx
  |succ m=>exact⟨_,hk,(zK_fx m (hct m (Nat.lt_succ_self m)) _ _ hx).conv h1 h2,⟨_,Tryz.func95,rfl,by decide⟩⟩
 cases h
theorem ct96_ok m (hct:CtK m) (h:ct96 m args objs K=some r):FQ 96 args objs K r:=by
 unfold ct96 at h
 split at h
 ·rename_i l hl
  obtain⟨x,hx,hk⟩:=Option.bind_eq_some_iff.1 h
  obtain⟨h1,h2⟩:=sel34_ok hl
  exact⟨_,hk,(ValidString_fx hx).conv h1 h2,⟨_,Tryz.func96,rfl,by decide⟩⟩
 cases h
theorem ct97_ok m (hct:CtK m) (h:ct97 m args objs K=some r):FQ 97 args objs K r:=by
 unfold ct97 at h
 split at h
 ·rename_i l hl
  obtain⟨x,hx,hk⟩:=Option.bind_eq_some_iff.1 h
  obtain⟨h1,h2⟩:=sel62_ok hl
  cases m with
  |zero=>cases hx
  |succ m=>exact⟨_,hk,(qH_fx m (hct m (Nat.lt_succ_self m)) _ hx).conv h1 h2,⟨_,Tryz.func97,rfl,by decide⟩⟩
 cases h
theorem ct98_ok m (hct:CtK m) (h:ct98 m args objs K=some r):FQ 98 args objs K r:=by
 unfold ct98 at h
 split at h
 ·rename_i l hl
  obtain⟨x,hx,hk⟩:=Option.bind_eq_some_iff.1 h
  obtain⟨h1,h2⟩:=sel3_ok hl
  cases m with
  |zero=>cases hx
  |succ m=>exact⟨_,hk,(zP_fx m (hct m (Nat.lt_succ_self m)) _ hx).conv h1 h2,⟨_,Tryz.func98,rfl,by decide⟩⟩
 cases h
theorem ct99_ok m (hct:CtK m) (h:ct99 m args objs K=some r):FQ 99 args objs K r:=by
 unfold ct99 at h
 split at h
 ·rename_i l hl
  obtain⟨x,hx,hk⟩:=Option.bind_eq_some_iff.1 h
  obtain⟨h1,h2⟩:=sel64_ok hl
  cases m with
  |zero=>cases hx
  |succ m=>exact⟨_,hk,(zG_fx m (hct m (Nat.lt_succ_self m)) _ _ hx).conv h1 h2,⟨_,Tryz.func99,rfl,by decide⟩⟩
 cases h
theorem ct90_ok m (hct:CtK m) (h:ct90 m args objs K=some r):FQ 90 args objs K r:=by
 unfold ct90 at h
 split at h
 ·rename_i l hl
  obtain⟨x,hx,hk⟩:=Option.bind_eq_some_iff.1 h
  obtain⟨h1,h2⟩:=sel65_ok hl
  cases m with
  |zero=>cases hx
  |succ m=>exact⟨_,hk,(zE_fx m (hct m (Nat.lt_succ_self m)) _ _ hx).conv h1 h2,⟨_,Tryz.func90,rfl,by decide⟩⟩
 cases h
theorem ct91_ok m (hct:CtK m) (h:ct91 m args objs K=some r):FQ 91 args objs K r:=by
 unfold ct91 at h
 split at h
 ·rename_i l hl
  obtain⟨x,hx,hk⟩:=Option.bind_eq_some_iff.1 h
  obtain⟨h1,h2⟩:=sel66_ok hl
  exact⟨_,hk,(Compare_fx hx).conv h1 h2,⟨_,Tryz.func91,rfl,by decide⟩⟩
 cases h
theorem ct110_ok m (hct:CtK m) (h:ct110 m args objs K=some r):FQ 110 args objs K r:=by
 unfold ct110 at h
 split at h
 ·rename_i l hl
  obtain⟨x,hx,hk⟩:=Option.bind_eq_some_iff.1 h
  obtain⟨h1,h2⟩:=sel67_ok hl
  cases m with
  |zero=>cases hx
  |succ m=>exact⟨_,hk,(i67_fx m (hct m (Nat.lt_succ_self m)) _ _ _ hx).conv h1 h2,⟨_,Tryz.func110,rfl,by decide⟩⟩
 split at h
 ·rename_i l hl
  obtain⟨x,hx,hk⟩:=Option.bind_eq_some_iff.1 h
  obtain⟨h1,h2⟩:=sel69_ok hl
  cases m with
  |zero=>cases hx
  |succ m=>exact⟨_,hk,(i69_fx m (hct m (Nat.lt_succ_self m)) _ _ _ hx).conv h1 h2,⟨_,Tryz.func110,rfl,by decide⟩⟩
 cases h
theorem ct111_ok m (hct:CtK m) (h:ct111 m args objs K=some r):FQ 111 args objs K r:=by
 unfold ct111 at h
 split at h
 ·rename_i l hl
  obtain⟨x,hx,hk⟩:=Option.bind_eq_some_iff.1 h
  obtain⟨h1,h2⟩:=sel68_ok hl
  cases m with
  |zero=>cases hx
  |succ m=>exact⟨_,hk,(i68_fx m (hct m (Nat.lt_succ_self m)) _ _ _ hx).conv h1 h2,⟨_,Tryz.func111,rfl,by decide⟩⟩
 cases h
theorem ct112_ok m (hct:CtK m) (h:ct112 m args objs K=some r):FQ 112 args objs K r:=by
 unfold ct112 at h
 split at h
 ·rename_i l hl
  obtain⟨x,hx,hk⟩:=Option.bind_eq_some_iff.1 h
  obtain⟨h1,h2⟩:=sel68_ok hl
  cases m with
  |zero=>cases hx
  |succ m=>exact⟨_,hk,(i70_fx m (hct m (Nat.lt_succ_self m)) _ _ _ hx).conv h1 h2,⟨_,Tryz.func112,rfl,by decide⟩⟩
 cases h
theorem ct114_ok m (hct:CtK m) (h:ct114 m args objs K=some r):FQ 114 args objs K r:=by
 unfold ct114 at h
 split at h
 ·rename_i l hl
  obtain⟨x,hx,hk⟩:=Option.bind_eq_some_iff.1 h
  obtain⟨h1,h2⟩:=sel34_ok hl
  cases m with
  |zero=>cases hx
  |succ m=>exact⟨_,hk,(qL_fx m (hct m (Nat.lt_succ_self m)) _ hx).conv h1 h2,⟨_,Tryz.func114,rfl,by decide⟩⟩
 cases h
theorem ct115_ok m (hct:CtK m) (h:ct115 m args objs K=some r):FQ 115 args objs K r:=by
 unfold ct115 at h
 split at h
 ·rename_i l hl
  obtain⟨x,hx,hk⟩:=Option.bind_eq_some_iff.1 h
  obtain⟨h1,h2⟩:=sel72_ok hl
  cases m with
  |zero=>cases hx
  |succ m=>exact⟨_,hk,(i72_fx m (hct m (Nat.lt_succ_self m)) _ _ _ hx).conv h1 h2,⟨_,Tryz.func115,rfl,by decide⟩⟩
 cases h
theorem ct133_ok m (hct:CtK m) (h:ct133 m args objs K=some r):FQ 133 args objs K r:=by
 unfold ct133 at h
 split at h
 ·rename_i l hl
  obtain⟨x,hx,hk⟩:=Option.bind_eq_some_iff.1 h
  obtain⟨h1,h2⟩:=sel73_ok hl
  cases m with
  |zero=>cases hx
  |succ m=>exact⟨_,hk,(zI_fx m (hct m (Nat.lt_succ_self m)) _ _ hx).conv h1 h2,⟨_,Tryz.func133,rfl,by decide⟩⟩
 cases h
theorem ct134_ok m (hct:CtK m) (h:ct134 m args objs K=some r):FQ 134 args objs K r:=by
 unfold ct134 at h
 split at h
 ·rename_i l hl
  obtain⟨x,hx,hk⟩:=Option.bind_eq_some_iff.1 h
  obtain⟨h1,h2⟩:=sel34_ok hl
  cases m with
  |zero=>cases hx
  |succ m=>exact⟨_,hk,(zB_fx m (hct m (Nat.lt_succ_self m)) _ hx).conv h1 h2,⟨_,Tryz.func134,rfl,by decide⟩⟩
 cases h
theorem ct116_ok m (hct:CtK m) (h:ct116 m args objs K=some r):FQ 116 args objs K r:=by
 unfold ct116 at h
 split at h
 ·rename_i l hl
  obtain⟨x,hx,hk⟩:=Option.bind_eq_some_iff.1 h
  obtain⟨h1,h2⟩:=sel7_ok hl
  cases m with
  |zero=>cases hx
  |succ m=>exact⟨_,hk,(qV_fx m (hct m (Nat.lt_succ_self m)) _ hx).conv h1 h2,⟨_,Tryz.func116,rfl,by decide⟩⟩
 cases h
theorem ct107_ok m (hct:CtK m) (h:ct107 m args objs K=some r):FQ 107 args objs K r:=by
 unfold ct107 at h
 split at h
 ·rename_i l hl
  obtain⟨x,hx,hk⟩:=Option.bind_eq_some_iff.1 h
  obtain⟨h1,h2⟩:=sel3_ok hl
  cases m with
  |zero=>cases hx
  |succ m=>exact⟨_,hk,(zX_fx m (hct m (Nat.lt_succ_self m)) _ hx).conv h1 h2,⟨_,Tryz.func107,rfl,by decide⟩⟩
 cases h
end
set_option maxHeartbeats 4000000 in
theorem ct_ok:∀(m:Nat) (R:Type),CallOK (R:=R) Tryz.prog (ct m):=by
 intro m
 induction m using Nat.strongRecOn with
 |_ m ih=>
  intro R f args objs K r h
  unfold ct at h
  rcases bset_some h with⟨hb,h1⟩| ⟨_,h⟩
  ·cases beq_eq hb;exact ct4_ok m ih h1
  rcases bset_some h with⟨hb,h1⟩| ⟨_,h⟩
  ·cases beq_eq hb;exact ct5_ok m ih h1
  rcases bset_some h with⟨hb,h1⟩| ⟨_,h⟩
  ·cases beq_eq hb;exact ct7_ok m ih h1
  rcases bset_some h with⟨hb,h1⟩| ⟨_,h⟩
  ·cases beq_eq hb;exact ct11_ok m ih h1
  rcases bset_some h with⟨hb,h1⟩| ⟨_,h⟩
  ·cases beq_eq hb;exact ct8_ok m ih h1
  rcases bset_some h with⟨hb,h1⟩| ⟨_,h⟩
  ·cases beq_eq hb;exact ct12_ok m ih h1
  rcases bset_some h with⟨hb,h1⟩| ⟨_,h⟩
  ·cases beq_eq hb;exact ct10_ok m ih h1
  rcases bset_some h with⟨hb,h1⟩| ⟨_,h⟩
  ·cases beq_eq hb;exact ct13_ok m ih h1
  rcases bset_some h with⟨hb,h1⟩| ⟨_,h⟩
  ·cases beq_eq hb;exact ct16_ok m ih h1
  rcases bset_some h with⟨hb,h1⟩| ⟨_,h⟩
  ·cases beq_eq hb;exact ct17_ok m ih h1
  rcases bset_some h with⟨hb,h1⟩| ⟨_,h⟩
  ·cases beq_eq hb;exact ct18_ok m ih h1
  rcases bset_some h with⟨hb,h1⟩| ⟨_,h⟩
  ·cases beq_eq hb;exact ct22_ok m ih h1
  rcases bset_some h with⟨hb,h1⟩| ⟨_,h⟩
  ·cases beq_eq hb;exact ct23_ok m ih h1
  rcases bset_some h with⟨hb,h1⟩| ⟨_,h⟩
  ·cases beq_eq hb;exact ct24_ok m ih h1
  rcases bset_some h with⟨hb,h1⟩| ⟨_,h⟩
  ·cases beq_eq hb;exact ct21_ok m ih h1
  rcases bset_some h with⟨hb,h1⟩| ⟨_,h⟩
  ·cases beq_eq hb;exact ct25_ok m ih h1
  rcases bset_some h with⟨hb,h1⟩| ⟨_,h⟩
  ·cases beq_eq hb;exact ct26_ok m ih h1
  rcases bset_some h with⟨hb,h1⟩| ⟨_,h⟩
  ·cases beq_eq hb;exact ct27_ok m ih h1
  rcases bset_some h with⟨hb,h1⟩| ⟨_,h⟩
  ·cases beq_eq hb;exact ct29_ok m ih h1
  rcases bset_some h with⟨hb,h1⟩| ⟨_,h⟩
  ·cases beq_eq hb;exact ct30_ok m ih h1
  rcases bset_some h with⟨hb,h1⟩| ⟨_,h⟩
  ·cases beq_eq hb;exact ct31_ok m ih h1
  rcases bset_some h with⟨hb,h1⟩| ⟨_,h⟩
  ·cases beq_eq hb;exact ct34_ok m ih h1
  rcases bset_some h with⟨hb,h1⟩| ⟨_,h⟩
  ·cases beq_eq hb;exact ct56_ok m ih h1
  rcases bset_some h with⟨hb,h1⟩| ⟨_,h⟩
  ·cases beq_eq hb;exact ct57_ok m ih h1
  rcases bset_some h with⟨hb,h1⟩| ⟨_,h⟩
  ·cases beq_eq hb;exact ct35_ok m ih h1
  rcases bset_some h with⟨hb,h1⟩| ⟨_,h⟩
  ·cases beq_eq hb;exact ct58_ok m ih h1
  rcases bset_some h with⟨hb,h1⟩| ⟨_,h⟩
  ·cases beq_eq hb;exact ct36_ok m ih h1
  rcases bset_some h with⟨hb,h1⟩| ⟨_,h⟩
  ·cases beq_eq hb;exact ct37_ok m ih h1
  rcases bset_some h with⟨hb,h1⟩| ⟨_,h⟩
  ·cases beq_eq hb;exact ct38_ok m ih h1
  rcases bset_some h with⟨hb,h1⟩| ⟨_,h⟩
  ·cases beq_eq hb;exact ct39_ok m ih h1
  rcases bset_some h with⟨hb,h1⟩| ⟨_,h⟩
  ·cases beq_eq hb;exact ct41_ok m ih h1
  rcases bset_some h with⟨hb,h1⟩| ⟨_,h⟩
  ·cases beq_eq hb;exact ct42_ok m ih h1
  rcases bset_some h with⟨hb,h1⟩| ⟨_,h⟩
  ·cases beq_eq hb;exact ct43_ok m ih h1
  rcases bset_some h with⟨hb,h1⟩| ⟨_,h⟩
  ·cases beq_eq hb;exact ct44_ok m ih h1
  rcases bset_some h with⟨hb,h1⟩| ⟨_,h⟩
  ·cases beq_eq hb;exact ct45_ok m ih h1
  rcases bset_some h with⟨hb,h1⟩| ⟨_,h⟩
  ·cases beq_eq hb;exact ct46_ok m ih h1
  rcases bset_some h with⟨hb,h1⟩| ⟨_,h⟩
  ·cases beq_eq hb;exact ct47_ok m ih h1
  rcases bset_some h with⟨hb,h1⟩| ⟨_,h⟩
  ·cases beq_eq hb;exact ct48_ok m ih h1
  rcases bset_some h with⟨hb,h1⟩| ⟨_,h⟩
  ·cases beq_eq hb;exact ct49_ok m ih h1
  rcases bset_some h with⟨hb,h1⟩| ⟨_,h⟩
  ·cases beq_eq hb;exact ct80_ok m ih h1
  rcases bset_some h with⟨hb,h1⟩| ⟨_,h⟩
  ·cases beq_eq hb;exact ct100_ok m ih h1
  rcases bset_some h with⟨hb,h1⟩| ⟨_,h⟩
  ·cases beq_eq hb;exact ct50_ok m ih h1
  rcases bset_some h with⟨hb,h1⟩| ⟨_,h⟩
  ·cases beq_eq hb;exact ct51_ok m ih h1
  rcases bset_some h with⟨hb,h1⟩| ⟨_,h⟩
  ·cases beq_eq hb;exact ct101_ok m ih h1
  rcases bset_some h with⟨hb,h1⟩| ⟨_,h⟩
  ·cases beq_eq hb;exact ct117_ok m ih h1
  rcases bset_some h with⟨hb,h1⟩| ⟨_,h⟩
  ·cases beq_eq hb;exact ct135_ok m ih h1
  rcases bset_some h with⟨hb,h1⟩| ⟨_,h⟩
  ·cases beq_eq hb;exact ct52_ok m ih h1
  rcases bset_some h with⟨hb,h1⟩| ⟨_,h⟩
  ·cases beq_eq hb;exact ct61_ok m ih h1
  rcases bset_some h with⟨hb,h1⟩| ⟨_,h⟩
  ·cases beq_eq hb;exact ct72_ok m ih h1
  rcases bset_some h with⟨hb,h1⟩| ⟨_,h⟩
  ·cases beq_eq hb;exact ct73_ok m ih h1
  rcases bset_some h with⟨hb,h1⟩| ⟨_,h⟩
  ·cases beq_eq hb;exact ct28_ok m ih h1
  rcases bset_some h with⟨hb,h1⟩| ⟨_,h⟩
  ·cases beq_eq hb;exact ct74_ok m ih h1
  rcases bset_some h with⟨hb,h1⟩| ⟨_,h⟩
  ·cases beq_eq hb;exact ct75_ok m ih h1
  rcases bset_some h with⟨hb,h1⟩| ⟨_,h⟩
  ·cases beq_eq hb;exact ct76_ok m ih h1
  rcases bset_some h with⟨hb,h1⟩| ⟨_,h⟩
  ·cases beq_eq hb;exact ct77_ok m ih h1
  rcases bset_some h with⟨hb,h1⟩| ⟨_,h⟩
  ·cases beq_eq hb;exact ct78_ok m ih h1
  rcases bset_some h with⟨hb,h1⟩| ⟨_,h⟩
  ·cases beq_eq hb;exact ct79_ok m ih h1
  rcases bset_some h with⟨hb,h1⟩| ⟨_,h⟩
  ·cases beq_eq hb;exact ct68_ok m ih h1
  rcases bset_some h with⟨hb,h1⟩| ⟨_,h⟩
  ·cases beq_eq hb;exact ct94_ok m ih h1
  rcases bset_some h with⟨hb,h1⟩| ⟨_,h⟩
  ·cases beq_eq hb;exact ct95_ok m ih h1
  rcases bset_some h with⟨hb,h1⟩| ⟨_,h⟩
  ·cases beq_eq hb;exact ct96_ok m ih h1
  rcases bset_some h with⟨hb,h1⟩| ⟨_,h⟩
  ·cases beq_eq hb;exact ct97_ok m ih h1
  rcases bset_some h with⟨hb,h1⟩| ⟨_,h⟩
  ·cases beq_eq hb;exact ct98_ok m ih h1
  rcases bset_some h with⟨hb,h1⟩| ⟨_,h⟩
  ·cases beq_eq hb;exact ct99_ok m ih h1
  rcases bset_some h with⟨hb,h1⟩| ⟨_,h⟩
  ·cases beq_eq hb;exact ct90_ok m ih h1
  rcases bset_some h with⟨hb,h1⟩| ⟨_,h⟩
  ·cases beq_eq hb;exact ct91_ok m ih h1
  rcases bset_some h with⟨hb,h1⟩| ⟨_,h⟩
  ·cases beq_eq hb;exact ct110_ok m ih h1
  rcases bset_some h with⟨hb,h1⟩| ⟨_,h⟩
  ·cases beq_eq hb;exact ct111_ok m ih h1
  rcases bset_some h with⟨hb,h1⟩| ⟨_,h⟩
  ·cases beq_eq hb;exact ct112_ok m ih h1
  rcases bset_some h with⟨hb,h1⟩| ⟨_,h⟩
  ·cases beq_eq hb;exact ct114_ok m ih h1
  rcases bset_some h with⟨hb,h1⟩| ⟨_,h⟩
  ·cases beq_eq hb;exact ct115_ok m ih h1
  rcases bset_some h with⟨hb,h1⟩| ⟨_,h⟩
  ·cases beq_eq hb;exact ct133_ok m ih h1
  rcases bset_some h with⟨hb,h1⟩| ⟨_,h⟩
  ·cases beq_eq hb;exact ct134_ok m ih h1
  rcases bset_some h with⟨hb,h1⟩| ⟨_,h⟩
  ·cases beq_eq hb;exact ct116_ok m ih h1
  rcases bset_some h with⟨hb,h1⟩| ⟨_,h⟩
  ·cases beq_eq hb;exact ct107_ok m ih h1
  rcases bset_some h with⟨hb,h1⟩| ⟨_,h⟩
  ·cases beq_eq hb;exact ct40_ok m ih h1
  cases h
end Go.Proofs.YtpifchdngodgjaaGreatDoor
