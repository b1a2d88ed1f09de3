/- Generated: the contracts. -/
import Derived.Test.YtpifchdngodgjaaGreatDoorEq0
import Derived.Test.YtpifchdngodgjaaGreatDoorEq1
set_option linter.unusedVariables false
set_option linter.unusedSimpArgs false
namespace Go.Proofs.YtpifchdngodgjaaGreatDoor
open Go.Am
set_option maxRecDepth 100000
theorem mixed:Tryz.prog.follows .mixedOrders=true:=by kernel_rfl
abbrev CtH (m:Nat):Prop:=∀R,CallOK (R:=R) Tryz.prog (ct m)
abbrev CtK (m:Nat):Prop:=∀k,k<m→CtH k
abbrev FQ {R:Type} (f:Nat) (args:List AV) (objs:List Ob) (K:Res→Option R) (r:R):Prop:=∃q:Res,K q=some r∧FX Tryz.prog f args objs q.1 q.2∧HasBody Tryz.prog f
theorem fo {R:Type} {m f:Nat} {fn:Func} {c:Code} {args:List AV} {objs:List Ob} {res:AV} {ro:List Ob} {dec:Res→Option R} {r:R} (hct:CtH m) (hf:Tryz.prog.funcs[f]? =some fn) (hc:fn.body=some c) (hl:Nat.ble args.length fn.ntmps=true) (hd:∀{b:Res},dec b=some r→Sim Tryz.prog b (res,ro)) (h:ev Tryz.prog env (ct m) jn (m+1) f fn.ntmps c ⟨args,objs,objs.length⟩ (fun e σ=>(finE Tryz.prog env f fn e σ).bind dec)=some r):FX Tryz.prog f args objs res ro:=
 FX_of (q:=(res,ro)) (E:=env) (m:=m+1) (dec:=dec) jn_ok (hct _) mixed hf hc (Nat.le_of_ble_eq_true hl) (fun _ hb=>hd hb) h
section
variable {R:Type} {args:List AV} {objs:List Ob} {K:Res→Option R} {r:R}
theorem qJ_fx m (hct:CtH m) (a0 a1:Dt) {r:Bool} (h:qJ (m+1) a0 a1=some r):FX Tryz.prog 21 [(.dat 36 a0),(.dat 36 a1)] [] (.dat 4 (.bool r)) []:=
 fo hct Tryz.func21 rfl rfl d13_sim ((qJ_eq m a0 a1).trans h)
theorem z7_fx m (hct:CtH m) (a0 a1:List Dt) {r:Bool} (h:z7 (m+1) a0 a1=some r):FX Tryz.prog 10 [(.dat 23 (.lst a0)),(.dat 23 (.lst a1))] [] (.dat 4 (.bool r)) []:=
 fo hct Tryz.func10 rfl rfl d13_sim ((z7_eq m a0 a1).trans h)
theorem zO_fx m (hct:CtH m) (a0 a1:List Dt) {r:Bool} (h:zO (m+1) a0 a1=some r):FX Tryz.prog 15 [(.dat 38 (.lst a0)),(.dat 38 (.lst a1))] [] (.dat 4 (.bool r)) []:=
 fo hct Tryz.func15 rfl rfl d13_sim ((zO_eq m a0 a1).trans h)
theorem qT_fx m (hct:CtH m) (a0:ByteArray) {r:Bool} (h:qT (m+1) a0=some r):FX Tryz.prog 28 [(.dat 9 (.str a0))] [] (.dat 4 (.bool r)) []:=
 fo hct Tryz.func28 rfl rfl d13_sim ((qT_eq m a0).trans h)
theorem zC_fx m (hct:CtH m) (a0:List Dt) {r:Bool} (h:zC (m+1) a0=some r):FX Tryz.prog 14 [(.dat 38 (.lst a0))] [] (.dat 4 (.bool r)) []:=
 fo hct Tryz.func14 rfl rfl d13_sim ((zC_eq m a0).trans h)
theorem qS_fx m (hct:CtH m) (a0:List Dt) {r:Int} (h:qS (m+1) a0=some r):FX Tryz.prog 6 [(.dat 22 (.lst a0))] [] (.dat 27 (.int r)) []:=
 fo hct Tryz.func6 rfl rfl d6_sim ((qS_eq m a0).trans h)
theorem i39_fx m (hct:CtH m) (a0 a1 a2:Int) (a3 a4:List Dt) {r:List Dt×List Dt} (h:i39 (m+1) a0 a1 a2 a3 a4=some r):FX Tryz.prog 135 [(.row 0),(.dat 3 (.int a0)),(.dat 3 (.int a1)),(.dat 3 (.int a2)),(.fn 50 [(.ptr 1 [] 0)])] [(.row 91 a3),(.box 22 (.dat 22 (.lst a4)))] (.tup []) [(.row 91 r.1),(.box 22 (.dat 22 (.lst r.2)))]:=
 fo hct Tryz.func135 rfl rfl d39_sim ((i39_eq m a0 a1 a2 a3 a4).trans h)
theorem i38_fx m (hct:CtH m) (a0 a1 a2:Int) (a3 a4:List Dt) {r:List Dt×List Dt} (h:i38 (m+1) a0 a1 a2 a3 a4=some r):FX Tryz.prog 117 [(.row 0),(.dat 3 (.int a0)),(.dat 3 (.int a1)),(.dat 3 (.int a2)),(.fn 50 [(.ptr 1 [] 0)])] [(.row 91 a3),(.box 22 (.dat 22 (.lst a4)))] (.tup []) [(.row 91 r.1),(.box 22 (.dat 22 (.lst r.2)))]:=
 fo hct Tryz.func117 rfl rfl d39_sim ((i38_eq m a0 a1 a2 a3 a4).trans h)
theorem qH_fx m (hct:CtH m) (a0:Dt) {r:Dt} (h:qH (m+1) a0=some r):FX Tryz.prog 52 [(.dat 36 a0)] [] (.dat 36 r) []:=
 fo hct Tryz.func52 rfl rfl d40_sim ((qH_eq m a0).trans h)
theorem qR_fx m (hct:CtH m) (a0:Dt) {r:List Dt} (h:qR (m+1) a0=some r):FX Tryz.prog 72 [(.dat 36 a0)] [] (.dat 23 (.lst r)) []:=
 fo hct Tryz.func72 rfl rfl d44_sim ((qR_eq m a0).trans h)
theorem qM_fx m (hct:CtH m) (a0:Dt) (a1:Int) {r:Int} (h:qM (m+1) a0 a1=some r):FX Tryz.prog 42 [(.dat 36 a0),(.dat 3 (.int a1))] [] (.dat 3 (.int r)) []:=
 fo hct Tryz.func42 rfl rfl d25_sim ((qM_eq m a0 a1).trans h)
theorem yI_fx m (hct:CtH m) (a0:Dt) {r:Int} (h:yI (m+1) a0=some r):FX Tryz.prog 25 [(.dat 36 a0)] [] (.dat 3 (.int r)) []:=
 fo hct Tryz.func25 rfl rfl d25_sim ((yI_eq m a0).trans h)
theorem zH_fx m (hct:CtH m) (a0:Dt) (a1:Int) {r:Int} (h:zH (m+1) a0 a1=some r):FX Tryz.prog 43 [(.dat 36 a0),(.dat 3 (.int a1))] [] (.dat 3 (.int r)) []:=
 fo hct Tryz.func43 rfl rfl d25_sim ((zH_eq m a0 a1).trans h)
theorem yH_fx m (hct:CtH m) (a0:Dt) {r:Int} (h:yH (m+1) a0=some r):FX Tryz.prog 26 [(.dat 36 a0)] [] (.dat 3 (.int r)) []:=
 fo hct Tryz.func26 rfl rfl d25_sim ((yH_eq m a0).trans h)
theorem zG_fx m (hct:CtH m) (a0:ByteArray) (a1 a2:Int) {r:Bool} (h:zG (m+1) a0 a1 a2=some r):FX Tryz.prog 73 [(.dat 9 (.str a0)),(.dat 3 (.int a1)),(.dat 3 (.int a2))] [] (.dat 4 (.bool r)) []:=
 fo hct Tryz.func73 rfl rfl d13_sim ((zG_eq m a0 a1 a2).trans h)
theorem qP_fx m (hct:CtH m) (a0:ByteArray) {r:Bool} (h:qP (m+1) a0=some r):FX Tryz.prog 44 [(.dat 9 (.str a0))] [] (.dat 4 (.bool r)) []:=
 fo hct Tryz.func44 rfl rfl d13_sim ((qP_eq m a0).trans h)
theorem qU_fx m (hct:CtH m) (a0:ByteArray) {r:Bool} (h:qU (m+1) a0=some r):FX Tryz.prog 74 [(.dat 9 (.str a0))] [] (.dat 4 (.bool r)) []:=
 fo hct Tryz.func74 rfl rfl d13_sim ((qU_eq m a0).trans h)
theorem qE_fx m (hct:CtH m) (a0:Dt) (a1:Bool) {r:Bool} (h:qE (m+1) a0 a1=some r):FX Tryz.prog 27 [(.dat 36 a0),(.dat 4 (.bool a1))] [] (.dat 4 (.bool r)) []:=
 fo hct Tryz.func27 rfl rfl d13_sim ((qE_eq m a0 a1).trans h)
theorem qG_fx m (hct:CtH m) (a0:Dt) (a1:Bool) {r:Bool} (h:qG (m+1) a0 a1=some r):FX Tryz.prog 45 [(.dat 36 a0),(.dat 4 (.bool a1))] [] (.dat 4 (.bool r)) []:=
 fo hct Tryz.func45 rfl rfl d13_sim ((qG_eq m a0 a1).trans h)
theorem yC_fx m (hct:CtH m) (a0:Dt) {r:Bool} (h:yC (m+1) a0=some r):FX Tryz.prog 13 [(.dat 36 a0)] [] (.dat 4 (.bool r)) []:=
 fo hct Tryz.func13 rfl rfl d13_sim ((yC_eq m a0).trans h)
theorem zI_fx m (hct:CtH m) (a0:List Dt) {r:Bool} (h:zI (m+1) a0=some r):FX Tryz.prog 5 [(.dat 23 (.lst a0))] [] (.dat 4 (.bool r)) []:=
 fo hct Tryz.func5 rfl rfl d13_sim ((zI_eq m a0).trans h)
theorem zU_fx m (hct:CtH m) (a0 a1:Int) {r:Int} (h:zU (m+1) a0 a1=some r):FX Tryz.prog 82 [(.dat 3 (.int a0)),(.dat 3 (.int a1))] [] (.dat 3 (.int r)) []:=
 fo hct Tryz.func82 rfl rfl d25_sim ((zU_eq m a0 a1).trans h)
theorem zN_fx m (hct:CtH m) (a0 a1:ByteArray) {r:Int} (h:zN (m+1) a0 a1=some r):FX Tryz.prog 83 [(.dat 9 (.str a0)),(.dat 9 (.str a1))] [] (.dat 3 (.int r)) []:=
 fo hct Tryz.func83 rfl rfl d25_sim ((zN_eq m a0 a1).trans h)
theorem qB_fx m (hct:CtH m) (a0 a1:Dt) {r:Int} (h:qB (m+1) a0 a1=some r):FX Tryz.prog 54 [(.dat 36 a0),(.dat 36 a1)] [] (.dat 3 (.int r)) []:=
 fo hct Tryz.func54 rfl rfl d25_sim ((qB_eq m a0 a1).trans h)
theorem zZ_fx m (hct:CtH m) (a0:Dt) (a1:Int) {r:Int} (h:zZ (m+1) a0 a1=some r):FX Tryz.prog 94 [(.dat 36 a0),(.dat 3 (.int a1))] [] (.dat 3 (.int r)) []:=
 fo hct Tryz.func94 rfl rfl d25_sim ((zZ_eq m a0 a1).trans h)
theorem i67_fx m (hct:CtH m) (a0:Dt) (a1 a2:Int) {r:Int×Int} (h:i67 (m+1) a0 a1 a2=some r):FX Tryz.prog 110 [(.dat 36 a0),(.fn 111 [(.ptr 0 [] 0),(.ptr 1 [] 0)])] [(.box 3 (.dat 3 (.int a1))),(.box 3 (.dat 3 (.int a2)))] (.tup []) [(.box 3 (.dat 3 (.int r.1))),(.box 3 (.dat 3 (.int r.2)))]:=
 fo hct Tryz.func110 rfl rfl d67_sim ((i67_eq m a0 a1 a2).trans h)
theorem i68_fx m (hct:CtH m) (a0:Dt) (a1 a2:Int) {r:Bool×Int×Int} (h:i68 (m+1) a0 a1 a2=some r):FX Tryz.prog 111 [(.dat 36 a0),(.ptr 0 [] 0),(.ptr 1 [] 0)] [(.box 3 (.dat 3 (.int a1))),(.box 3 (.dat 3 (.int a2)))] (.dat 4 (.bool r.1)) [(.box 3 (.dat 3 (.int r.2.1))),(.box 3 (.dat 3 (.int r.2.2)))]:=
 fo hct Tryz.func111 rfl rfl d68_sim ((i68_eq m a0 a1 a2).trans h)
theorem yF_fx m (hct:CtH m) (a0:Dt) {r:Int} (h:yF (m+1) a0=some r):FX Tryz.prog 75 [(.dat 36 a0)] [] (.dat 3 (.int r)) []:=
 fo hct Tryz.func75 rfl rfl d25_sim ((yF_eq m a0).trans h)
theorem zY_fx m (hct:CtH m) (a0:Dt) (a1:Int) {r:Int} (h:zY (m+1) a0 a1=some r):FX Tryz.prog 95 [(.dat 36 a0),(.dat 3 (.int a1))] [] (.dat 3 (.int r)) []:=
 fo hct Tryz.func95 rfl rfl d25_sim ((zY_eq m a0 a1).trans h)
theorem i69_fx m (hct:CtH m) (a0:Dt) (a1 a2:Int) {r:Int×Int} (h:i69 (m+1) a0 a1 a2=some r):FX Tryz.prog 110 [(.dat 36 a0),(.fn 112 [(.ptr 0 [] 0),(.ptr 1 [] 0)])] [(.box 3 (.dat 3 (.int a1))),(.box 3 (.dat 3 (.int a2)))] (.tup []) [(.box 3 (.dat 3 (.int r.1))),(.box 3 (.dat 3 (.int r.2)))]:=
 fo hct Tryz.func110 rfl rfl d67_sim ((i69_eq m a0 a1 a2).trans h)
theorem i70_fx m (hct:CtH m) (a0:Dt) (a1 a2:Int) {r:Bool×Int×Int} (h:i70 (m+1) a0 a1 a2=some r):FX Tryz.prog 112 [(.dat 36 a0),(.ptr 0 [] 0),(.ptr 1 [] 0)] [(.box 3 (.dat 3 (.int a1))),(.box 3 (.dat 3 (.int a2)))] (.dat 4 (.bool r.1)) [(.box 3 (.dat 3 (.int r.2.1))),(.box 3 (.dat 3 (.int r.2.2)))]:=
 fo hct Tryz.func112 rfl rfl d68_sim ((i70_eq m a0 a1 a2).trans h)
theorem yG_fx m (hct:CtH m) (a0:Dt) {r:Int} (h:yG (m+1) a0=some r):FX Tryz.prog 76 [(.dat 36 a0)] [] (.dat 3 (.int r)) []:=
 fo hct Tryz.func76 rfl rfl d25_sim ((yG_eq m a0).trans h)
theorem yE_fx m (hct:CtH m) (a0:Int) {r:Int} (h:yE (m+1) a0=some r):FX Tryz.prog 98 [(.dat 3 (.int a0))] [] (.dat 144 (.int r)) []:=
 fo hct Tryz.func98 rfl rfl d61_sim ((yE_eq m a0).trans h)
theorem qZ_fx m (hct:CtH m) (a0:Int) {r:Int} (h:qZ (m+1) a0=some r):FX Tryz.prog 78 [(.dat 3 (.int a0))] [] (.dat 3 (.int r)) []:=
 fo hct Tryz.func78 rfl rfl d25_sim ((qZ_eq m a0).trans h)
theorem qF_fx m (hct:CtH m) (a0:Dt) {r:Int} (h:qF (m+1) a0=some r):FX Tryz.prog 47 [(.dat 36 a0)] [] (.dat 3 (.int r)) []:=
 fo hct Tryz.func47 rfl rfl d25_sim ((qF_eq m a0).trans h)
theorem qL_fx m (hct:CtH m) (a0:ByteArray) {r:Bool} (h:qL (m+1) a0=some r):FX Tryz.prog 114 [(.dat 9 (.str a0))] [] (.dat 4 (.bool r)) []:=
 fo hct Tryz.func114 rfl rfl d13_sim ((qL_eq m a0).trans h)
theorem qC_fx m (hct:CtH m) (a0:Dt) {r:Bool} (h:qC (m+1) a0=some r):FX Tryz.prog 77 [(.dat 36 a0)] [] (.dat 4 (.bool r)) []:=
 fo hct Tryz.func77 rfl rfl d13_sim ((qC_eq m a0).trans h)
theorem qI_fx m (hct:CtH m) (a0:List Dt) {r:Bool} (h:qI (m+1) a0=some r):FX Tryz.prog 97 [(.dat 34 (.lst a0))] [] (.dat 4 (.bool r)) []:=
 fo hct Tryz.func97 rfl rfl d13_sim ((qI_eq m a0).trans h)
theorem yK_fx m (hct:CtH m) (a0:Dt) {r:Bool} (h:yK (m+1) a0=some r):FX Tryz.prog 46 [(.dat 36 a0)] [] (.dat 4 (.bool r)) []:=
 fo hct Tryz.func46 rfl rfl d13_sim ((yK_eq m a0).trans h)
theorem zW_fx m (hct:CtH m) (a0:Dt) {r:Int×Int} (h:zW (m+1) a0=some r):FX Tryz.prog 29 [(.dat 36 a0)] [] (.tup [(.dat 3 (.int r.1)),(.dat 27 (.int r.2))]) []:=
 fo hct Tryz.func29 rfl rfl d19_sim ((zW_eq m a0).trans h)
theorem qQ_fx m (hct:CtH m) (a0:List Dt) (a1:Int) (a2:Bool) {r:List Dt×Int} (h:qQ (m+1) a0 a1 a2=some r):FX Tryz.prog 16 [(.dat 23 (.lst a0)),(.dat 3 (.int a1)),(.dat 4 (.bool a2))] [] (.tup [(.dat 52 (.lst r.1)),(.dat 27 (.int r.2))]) []:=
 fo hct Tryz.func16 rfl rfl d8_sim ((qQ_eq m a0 a1 a2).trans h)
theorem zR_fx m (hct:CtH m) (a0:List Dt) (a1:ByteArray) {r:Int} (h:zR (m+1) a0 a1=some r):FX Tryz.prog 133 [(.dat 34 (.lst a0)),(.dat 9 (.str a1))] [] (.dat 3 (.int r)) []:=
 fo hct Tryz.func133 rfl rfl d25_sim ((zR_eq m a0 a1).trans h)
theorem zD_fx m (hct:CtH m) (a0:ByteArray) {r:Int×Bool} (h:zD (m+1) a0=some r):FX Tryz.prog 134 [(.dat 9 (.str a0))] [] (.tup [(.dat 3 (.int r.1)),(.dat 4 (.bool r.2))]) []:=
 fo hct Tryz.func134 rfl rfl d74_sim ((zD_eq m a0).trans h)
theorem i72_fx m (hct:CtH m) (a0:Dt) (a1 a2:List Dt) {r:List Dt} (h:i72 (m+1) a0 a1 a2=some r):FX Tryz.prog 115 [(.row 0),(.dat 36 a0),(.dat 38 (.lst a1))] [(.row 23 a2)] (.row 1) [.gone,(.row 23 r)]:=
 fo hct Tryz.func115 rfl rfl d72_sim ((i72_eq m a0 a1 a2).trans h)
theorem qN_fx m (hct:CtH m) (a0:Dt) {r:Int×Int×ByteArray×List Dt×List Dt} (h:qN (m+1) a0=some r):FX Tryz.prog 116 [(.dat 36 a0)] [] (.agg 36 [(.dat 3 (.int r.1)),(.dat 3 (.int r.2.1)),(.dat 9 (.str r.2.2.1)),(.row 0),(.row 1)]) [(.row 23 r.2.2.2.1),(.row 34 r.2.2.2.2)]:=
 fo hct Tryz.func116 rfl rfl d75_sim ((qN_eq m a0).trans h)
theorem zP_fx m (hct:CtH m) (a0:Dt) (a1:List Dt) {r:List Dt} (h:zP (m+1) a0 a1=some r):FX Tryz.prog 99 [(.dat 36 a0),(.dat 38 (.lst a1))] [] (.dat 23 (.lst r)) []:=
 fo hct Tryz.func99 rfl rfl d44_sim ((zP_eq m a0 a1).trans h)
theorem yL_fx m (hct:CtH m) (a0:Int) {r:Bool} (h:yL (m+1) a0=some r):FX Tryz.prog 107 [(.dat 3 (.int a0))] [] (.dat 4 (.bool r)) []:=
 fo hct Tryz.func107 rfl rfl d13_sim ((yL_eq m a0).trans h)
theorem zM_fx m (hct:CtH m) (a0 a1:Int) {r:Int} (h:zM (m+1) a0 a1=some r):FX Tryz.prog 90 [(.dat 3 (.int a0)),(.dat 3 (.int a1))] [] (.dat 3 (.int r)) []:=
 fo hct Tryz.func90 rfl rfl d25_sim ((zM_eq m a0 a1).trans h)
theorem qD_fx m (hct:CtH m) (a0 a1:Dt) {r:Int} (h:qD (m+1) a0 a1=some r):FX Tryz.prog 68 [(.dat 36 a0),(.dat 36 a1)] [] (.dat 3 (.int r)) []:=
 fo hct Tryz.func68 rfl rfl d25_sim ((qD_eq m a0 a1).trans h)
theorem zF_fx m (hct:CtH m) (a0 a1 a2:List Dt) {r:Int} (h:zF (m+1) a0 a1 a2=some r):FX Tryz.prog 51 [(.dat 22 (.lst a0)),(.dat 23 (.lst a1)),(.dat 23 (.lst a2))] [] (.dat 3 (.int r)) []:=
 fo hct Tryz.func51 rfl rfl d25_sim ((zF_eq m a0 a1 a2).trans h)
theorem i35_fx m (hct:CtH m) (a0 a1:Dt) (a2:List Dt) {r:Int×List Dt} (h:i35 (m+1) a0 a1 a2=some r):FX Tryz.prog 50 [(.dat 94 a0),(.dat 94 a1),(.ptr 0 [] 0)] [(.box 22 (.dat 22 (.lst a2)))] (.dat 3 (.int r.1)) [(.box 22 (.dat 22 (.lst r.2)))]:=
 fo hct Tryz.func50 rfl rfl d35_sim ((i35_eq m a0 a1 a2).trans h)
theorem i34_fx m (hct:CtH m) (a0 a1:Int) (a2 a3:List Dt) {r:List Dt×List Dt} (h:i34 (m+1) a0 a1 a2 a3=some r):FX Tryz.prog 100 [(.row 0),(.dat 3 (.int a0)),(.dat 3 (.int a1)),(.fn 50 [(.ptr 1 [] 0)])] [(.row 91 a2),(.box 22 (.dat 22 (.lst a3)))] (.tup []) [(.row 91 r.1),(.box 22 (.dat 22 (.lst r.2)))]:=
 fo hct Tryz.func100 rfl rfl d39_sim ((i34_eq m a0 a1 a2 a3).trans h)
theorem i37_fx m (hct:CtH m) (a0 a1 a2:Int) (a3 a4:List Dt) {r:List Dt×List Dt} (h:i37 (m+1) a0 a1 a2 a3 a4=some r):FX Tryz.prog 101 [(.row 0),(.dat 3 (.int a0)),(.dat 3 (.int a1)),(.dat 3 (.int a2)),(.fn 50 [(.ptr 1 [] 0)])] [(.row 91 a3),(.box 22 (.dat 22 (.lst a4)))] (.tup []) [(.row 91 r.1),(.box 22 (.dat 22 (.lst r.2)))]:=
 fo hct Tryz.func101 rfl rfl d39_sim ((i37_eq m a0 a1 a2 a3 a4).trans h)
theorem i33_fx m (hct:CtH m) (a0:Int) (a1 a2:List Dt) {r:List Dt×List Dt} (h:i33 (m+1) a0 a1 a2=some r):FX Tryz.prog 80 [(.row 0),(.dat 3 (.int a0)),(.fn 50 [(.ptr 1 [] 0)])] [(.row 91 a1),(.box 22 (.dat 22 (.lst a2)))] (.tup []) [(.row 91 r.1),(.box 22 (.dat 22 (.lst r.2)))]:=
 fo hct Tryz.func80 rfl rfl d39_sim ((i33_eq m a0 a1 a2).trans h)
theorem i32_fx m (hct:CtH m) (a0 a1:List Dt) {r:List Dt×List Dt} (h:i32 (m+1) a0 a1=some r):FX Tryz.prog 49 [(.row 0),(.fn 50 [(.ptr 1 [] 0)])] [(.row 91 a0),(.box 22 (.dat 22 (.lst a1)))] (.tup []) [(.row 91 r.1),(.box 22 (.dat 22 (.lst r.2)))]:=
 fo hct Tryz.func49 rfl rfl d39_sim ((i32_eq m a0 a1).trans h)
theorem qW_fx m (hct:CtH m) (a0 a1:Dt) {r:Dt} (h:qW (m+1) a0 a1=some r):FX Tryz.prog 79 [(.dat 50 a0),(.dat 36 a1)] [] (.dat 36 r) []:=
 fo hct Tryz.func79 rfl rfl d40_sim ((qW_eq m a0 a1).trans h)
theorem zS_fx m (hct:CtH m) (a0:List Dt) (a1:Dt) {r:List Dt} (h:zS (m+1) a0 a1=some r):FX Tryz.prog 48 [(.dat 22 (.lst a0)),(.dat 36 a1)] [] (.dat 23 (.lst r)) []:=
 fo hct Tryz.func48 rfl rfl d44_sim ((zS_eq m a0 a1).trans h)
theorem qV_fx m (hct:CtH m) (a0 a1:List Dt) (a2:Int) {r:List Dt} (h:qV (m+1) a0 a1 a2=some r):FX Tryz.prog 30 [(.dat 22 (.lst a0)),(.dat 23 (.lst a1)),(.dat 3 (.int a2))] [] (.dat 23 (.lst r)) []:=
 fo hct Tryz.func30 rfl rfl d44_sim ((qV_eq m a0 a1 a2).trans h)
theorem yJ_fx m (hct:CtH m) (a0 a1:List Dt) {r:List Dt} (h:yJ (m+1) a0 a1=some r):FX Tryz.prog 17 [(.dat 22 (.lst a0)),(.dat 23 (.lst a1))] [] (.dat 23 (.lst r)) []:=
 fo hct Tryz.func17 rfl rfl d44_sim ((yJ_eq m a0 a1).trans h)
theorem yB_fx m (hct:CtH m) (a0:List Dt) (a1 a2:Dt) {r:Int} (h:yB (m+1) a0 a1 a2=some r):FX Tryz.prog 31 [(.dat 22 (.lst a0)),(.dat 36 a1),(.dat 36 a2)] [] (.dat 3 (.int r)) []:=
 fo hct Tryz.func31 rfl rfl d25_sim ((yB_eq m a0 a1 a2).trans h)
theorem zL_fx m (hct:CtH m) (a0 a1 a2:List Dt) {r:List Dt} (h:zL (m+1) a0 a1 a2=some r):FX Tryz.prog 18 [(.dat 22 (.lst a0)),(.dat 23 (.lst a1)),(.dat 23 (.lst a2))] [] (.dat 23 (.lst r)) []:=
 fo hct Tryz.func18 rfl rfl d44_sim ((zL_eq m a0 a1 a2).trans h)
theorem qA_fx m (hct:CtH m) (a0 a1:List Dt) (a2:Int) (a3:Bool) {r:List Dt×Int×Int} (h:qA (m+1) a0 a1 a2 a3=some r):FX Tryz.prog 8 [(.dat 22 (.lst a0)),(.dat 23 (.lst a1)),(.dat 3 (.int a2)),(.dat 4 (.bool a3))] [] (.tup [(.dat 23 (.lst r.1)),(.dat 3 (.int r.2.1)),(.dat 27 (.int r.2.2))]) []:=
 fo hct Tryz.func8 rfl rfl d3_sim ((qA_eq m a0 a1 a2 a3).trans h)
theorem zJ_fx m (hct:CtH m) (a0:Int) {r:ByteArray} (h:zJ (m+1) a0=some r):FX Tryz.prog 118 [(.dat 3 (.int a0))] [] (.dat 9 (.str r)) []:=
 fo hct Tryz.func118 rfl rfl d77_sim ((zJ_eq m a0).trans h)
theorem qK_fx m (hct:CtH m) (a0:Dt) {r:ByteArray} (h:qK (m+1) a0=some r):FX Tryz.prog 102 [(.dat 36 a0)] [] (.dat 9 (.str r)) []:=
 fo hct Tryz.func102 rfl rfl d77_sim ((qK_eq m a0).trans h)
theorem z6_fx m (hct:CtH m) (a0:Dt) {r:ByteArray×Int} (h:z6 (m+1) a0=some r):FX Tryz.prog 81 [(.dat 36 a0)] [] (.tup [(.dat 9 (.str r.1)),(.dat 27 (.int r.2))]) []:=
 fo hct Tryz.func81 rfl rfl d53_sim ((z6_eq m a0).trans h)
theorem z8_fx m (hct:CtH m) (a0:Dt) {r:Int×Int} (h:z8 (m+1) a0=some r):FX Tryz.prog 53 [(.dat 36 a0)] [] (.tup [(.dat 3 (.int r.1)),(.dat 27 (.int r.2))]) []:=
 fo hct Tryz.func53 rfl rfl d19_sim ((z8_eq m a0).trans h)
theorem zA_fx m (hct:CtH m) (a0:List Dt) (a1:Int) {r:Int} (h:zA (m+1) a0 a1=some r):FX Tryz.prog 32 [(.dat 23 (.lst a0)),(.dat 3 (.int a1))] [] (.dat 3 (.int r)) []:=
 fo hct Tryz.func32 rfl rfl d25_sim ((zA_eq m a0 a1).trans h)
theorem zV_fx m (hct:CtH m) (a0:List Dt) (a1:Int) (a2:Bool) {r:Int×Int} (h:zV (m+1) a0 a1 a2=some r):FX Tryz.prog 19 [(.dat 23 (.lst a0)),(.dat 3 (.int a1)),(.dat 4 (.bool a2))] [] (.tup [(.dat 3 (.int r.1)),(.dat 27 (.int r.2))]) []:=
 fo hct Tryz.func19 rfl rfl d19_sim ((zV_eq m a0 a1 a2).trans h)
theorem qY_fx m (hct:CtH m) (a0:ByteArray) {r:Int×Bool} (h:qY (m+1) a0=some r):FX Tryz.prog 137 [(.dat 9 (.str a0))] [] (.tup [(.dat 3 (.int r.1)),(.dat 4 (.bool r.2))]) []:=
 fo hct Tryz.func137 rfl rfl d74_sim ((qY_eq m a0).trans h)
theorem zT_fx m (hct:CtH m) (a0:Dt) (a1:ByteArray) {r:Int} (h:zT (m+1) a0 a1=some r):FX Tryz.prog 155 [(.dat 36 a0),(.dat 9 (.str a1))] [] (.dat 3 (.int r)) []:=
 fo hct Tryz.func155 rfl rfl d25_sim ((zT_eq m a0 a1).trans h)
theorem yD_fx m (hct:CtH m) (a0:Dt) (a1:ByteArray) {r:Dt×Bool} (h:yD (m+1) a0 a1=some r):FX Tryz.prog 136 [(.dat 36 a0),(.dat 9 (.str a1))] [] (.tup [(.dat 36 r.1),(.dat 4 (.bool r.2))]) []:=
 fo hct Tryz.func136 rfl rfl d79_sim ((yD_eq m a0 a1).trans h)
theorem qO_fx m (hct:CtH m) (a0:Dt) (a1:List Dt) {r:List Dt} (h:qO (m+1) a0 a1=some r):FX Tryz.prog 119 [(.dat 36 a0),(.dat 38 (.lst a1))] [] (.dat 23 (.lst r)) []:=
 fo hct Tryz.func119 rfl rfl d44_sim ((qO_eq m a0 a1).trans h)
theorem zX_fx m (hct:CtH m) (a0:Dt) (a1:List Dt) {r:List Dt} (h:zX (m+1) a0 a1=some r):FX Tryz.prog 103 [(.dat 36 a0),(.dat 38 (.lst a1))] [] (.dat 23 (.lst r)) []:=
 fo hct Tryz.func103 rfl rfl d44_sim ((zX_eq m a0 a1).trans h)
theorem zB_fx m (hct:CtH m) (a0:Dt) (a1:List Dt) {r:List Dt} (h:zB (m+1) a0 a1=some r):FX Tryz.prog 84 [(.dat 36 a0),(.dat 38 (.lst a1))] [] (.dat 23 (.lst r)) []:=
 fo hct Tryz.func84 rfl rfl d44_sim ((zB_eq m a0 a1).trans h)
theorem zK_fx m (hct:CtH m) (a0 a1:Dt) {r:Dt} (h:zK (m+1) a0 a1=some r):FX Tryz.prog 55 [(.dat 50 a0),(.dat 36 a1)] [] (.dat 36 r) []:=
 fo hct Tryz.func55 rfl rfl d40_sim ((zK_eq m a0 a1).trans h)
theorem qX_fx m (hct:CtH m) (a0:List Dt) (a1 a2:Dt) {r:Int} (h:qX (m+1) a0 a1 a2=some r):FX Tryz.prog 33 [(.dat 22 (.lst a0)),(.dat 36 a1),(.dat 36 a2)] [] (.dat 3 (.int r)) []:=
 fo hct Tryz.func33 rfl rfl d25_sim ((qX_eq m a0 a1 a2).trans h)
theorem zE_fx m (hct:CtH m) (a0 a1:List Dt) {r:List Dt} (h:zE (m+1) a0 a1=some r):FX Tryz.prog 20 [(.dat 22 (.lst a0)),(.dat 23 (.lst a1))] [] (.dat 23 (.lst r)) []:=
 fo hct Tryz.func20 rfl rfl d44_sim ((zE_eq m a0 a1).trans h)
theorem yA_fx m (hct:CtH m) (a0 a1:List Dt) (a2:Int) (a3:Bool) {r:List Dt×Int×Int} (h:yA (m+1) a0 a1 a2 a3=some r):FX Tryz.prog 9 [(.dat 22 (.lst a0)),(.dat 23 (.lst a1)),(.dat 3 (.int a2)),(.dat 4 (.bool a3))] [] (.tup [(.dat 23 (.lst r.1)),(.dat 3 (.int r.2.1)),(.dat 27 (.int r.2.2))]) []:=
 fo hct Tryz.func9 rfl rfl d3_sim ((yA_eq m a0 a1 a2 a3).trans h)
theorem zQ_fx m (hct:CtH m) (a0:Dt) {r:Bool} (h:zQ (m+1) a0=some r):FX Tryz.prog 3 [(.dat 25 a0)] [] (.dat 4 (.bool r)) []:=
 fo hct Tryz.func3 rfl rfl d13_sim ((zQ_eq m a0).trans h)
theorem ct3_ok m (hct:CtK m) (h:ct3 m args objs K=some r):FQ 3 args objs K r:=by
 unfold ct3 at h
 split at h
 ·rename_i l hl
  obtain⟨x,hx,hk⟩:=Option.bind_eq_some_iff.1 h
  obtain⟨h1,h2⟩:=sel0_ok hl
  cases m with
  |zero=>cases hx
  |succ m=>exact⟨_,hk,(zQ_fx m (hct m (Nat.lt_succ_self m)) _ hx).conv h1 h2,⟨_,Tryz.func3,rfl,by decide⟩⟩
 cases h
theorem ct5_ok m (hct:CtK m) (h:ct5 m args objs K=some r):FQ 5 args objs K r:=by
 unfold ct5 at h
 split at h
 ·rename_i l hl
  obtain⟨x,hx,hk⟩:=Option.bind_eq_some_iff.1 h
  obtain⟨h1,h2⟩:=sel1_ok hl
  cases m with
  |zero=>cases hx
  |succ m=>exact⟨_,hk,(zI_fx m (hct m (Nat.lt_succ_self m)) _ hx).conv h1 h2,⟨_,Tryz.func5,rfl,by decide⟩⟩
 cases h
theorem ct7_ok m (hct:CtK m) (h:ct7 m args objs K=some r):FQ 7 args objs K r:=by
 unfold ct7 at h
 split at h
 ·rename_i l hl
  obtain⟨x,hx,hk⟩:=Option.bind_eq_some_iff.1 h
  obtain⟨h1,h2⟩:=sel2_ok hl
  exact⟨_,hk,(awakeC_fx hx).conv h1 h2,⟨_,Tryz.func7,rfl,by decide⟩⟩
 cases h
theorem ct8_ok m (hct:CtK m) (h:ct8 m args objs K=some r):FQ 8 args objs K r:=by
 unfold ct8 at h
 split at h
 ·rename_i l hl
  obtain⟨x,hx,hk⟩:=Option.bind_eq_some_iff.1 h
  obtain⟨h1,h2⟩:=sel3_ok hl
  cases m with
  |zero=>cases hx
  |succ m=>exact⟨_,hk,(qA_fx m (hct m (Nat.lt_succ_self m)) _ _ _ _ hx).conv h1 h2,⟨_,Tryz.func8,rfl,by decide⟩⟩
 cases h
theorem ct9_ok m (hct:CtK m) (h:ct9 m args objs K=some r):FQ 9 args objs K r:=by
 unfold ct9 at h
 split at h
 ·rename_i l hl
  obtain⟨x,hx,hk⟩:=Option.bind_eq_some_iff.1 h
  obtain⟨h1,h2⟩:=sel3_ok hl
  cases m with
  |zero=>cases hx
  |succ m=>exact⟨_,hk,(yA_fx m (hct m (Nat.lt_succ_self m)) _ _ _ _ hx).conv h1 h2,⟨_,Tryz.func9,rfl,by decide⟩⟩
 cases h
theorem ct10_ok m (hct:CtK m) (h:ct10 m args objs K=some r):FQ 10 args objs K r:=by
 unfold ct10 at h
 split at h
 ·rename_i l hl
  obtain⟨x,hx,hk⟩:=Option.bind_eq_some_iff.1 h
  obtain⟨h1,h2⟩:=sel5_ok hl
  cases m with
  |zero=>cases hx
  |succ m=>exact⟨_,hk,(z7_fx m (hct m (Nat.lt_succ_self m)) _ _ hx).conv h1 h2,⟨_,Tryz.func10,rfl,by decide⟩⟩
 cases h
theorem ct6_ok m (hct:CtK m) (h:ct6 m args objs K=some r):FQ 6 args objs K r:=by
 unfold ct6 at h
 split at h
 ·rename_i l hl
  obtain⟨x,hx,hk⟩:=Option.bind_eq_some_iff.1 h
  obtain⟨h1,h2⟩:=sel6_ok hl
  cases m with
  |zero=>cases hx
  |succ m=>exact⟨_,hk,(qS_fx m (hct m (Nat.lt_succ_self m)) _ hx).conv h1 h2,⟨_,Tryz.func6,rfl,by decide⟩⟩
 cases h
theorem ct13_ok m (hct:CtK m) (h:ct13 m args objs K=some r):FQ 13 args objs K r:=by
 unfold ct13 at h
 split at h
 ·rename_i l hl
  obtain⟨x,hx,hk⟩:=Option.bind_eq_some_iff.1 h
  obtain⟨h1,h2⟩:=sel7_ok hl
  cases m with
  |zero=>cases hx
  |succ m=>exact⟨_,hk,(yC_fx m (hct m (Nat.lt_succ_self m)) _ hx).conv h1 h2,⟨_,Tryz.func13,rfl,by decide⟩⟩
 cases h
theorem ct16_ok m (hct:CtK m) (h:ct16 m args objs K=some r):FQ 16 args objs K r:=by
 unfold ct16 at h
 split at h
 ·rename_i l hl
  obtain⟨x,hx,hk⟩:=Option.bind_eq_some_iff.1 h
  obtain⟨h1,h2⟩:=sel8_ok hl
  cases m with
  |zero=>cases hx
  |succ m=>exact⟨_,hk,(qQ_fx m (hct m (Nat.lt_succ_self m)) _ _ _ hx).conv h1 h2,⟨_,Tryz.func16,rfl,by decide⟩⟩
 cases h
theorem ct17_ok m (hct:CtK m) (h:ct17 m args objs K=some r):FQ 17 args objs K r:=by
 unfold ct17 at h
 split at h
 ·rename_i l hl
  obtain⟨x,hx,hk⟩:=Option.bind_eq_some_iff.1 h
  obtain⟨h1,h2⟩:=sel9_ok hl
  cases m with
  |zero=>cases hx
  |succ m=>exact⟨_,hk,(yJ_fx m (hct m (Nat.lt_succ_self m)) _ _ hx).conv h1 h2,⟨_,Tryz.func17,rfl,by decide⟩⟩
 cases h
theorem ct18_ok m (hct:CtK m) (h:ct18 m args objs K=some r):FQ 18 args objs K r:=by
 unfold ct18 at h
 split at h
 ·rename_i l hl
  obtain⟨x,hx,hk⟩:=Option.bind_eq_some_iff.1 h
  obtain⟨h1,h2⟩:=sel10_ok hl
  cases m with
  |zero=>cases hx
  |succ m=>exact⟨_,hk,(zL_fx m (hct m (Nat.lt_succ_self m)) _ _ _ hx).conv h1 h2,⟨_,Tryz.func18,rfl,by decide⟩⟩
 cases h
theorem ct19_ok m (hct:CtK m) (h:ct19 m args objs K=some r):FQ 19 args objs K r:=by
 unfold ct19 at h
 split at h
 ·rename_i l hl
  obtain⟨x,hx,hk⟩:=Option.bind_eq_some_iff.1 h
  obtain⟨h1,h2⟩:=sel8_ok hl
  cases m with
  |zero=>cases hx
  |succ m=>exact⟨_,hk,(zV_fx m (hct m (Nat.lt_succ_self m)) _ _ _ hx).conv h1 h2,⟨_,Tryz.func19,rfl,by decide⟩⟩
 cases h
theorem ct20_ok m (hct:CtK m) (h:ct20 m args objs K=some r):FQ 20 args objs K r:=by
 unfold ct20 at h
 split at h
 ·rename_i l hl
  obtain⟨x,hx,hk⟩:=Option.bind_eq_some_iff.1 h
  obtain⟨h1,h2⟩:=sel9_ok hl
  cases m with
  |zero=>cases hx
  |succ m=>exact⟨_,hk,(zE_fx m (hct m (Nat.lt_succ_self m)) _ _ hx).conv h1 h2,⟨_,Tryz.func20,rfl,by decide⟩⟩
 cases h
theorem ct21_ok m (hct:CtK m) (h:ct21 m args objs K=some r):FQ 21 args objs K r:=by
 unfold ct21 at h
 split at h
 ·rename_i l hl
  obtain⟨x,hx,hk⟩:=Option.bind_eq_some_iff.1 h
  obtain⟨h1,h2⟩:=sel13_ok hl
  cases m with
  |zero=>cases hx
  |succ m=>exact⟨_,hk,(qJ_fx m (hct m (Nat.lt_succ_self m)) _ _ hx).conv h1 h2,⟨_,Tryz.func21,rfl,by decide⟩⟩
 cases h
theorem ct14_ok m (hct:CtK m) (h:ct14 m args objs K=some r):FQ 14 args objs K r:=by
 unfold ct14 at h
 split at h
 ·rename_i l hl
  obtain⟨x,hx,hk⟩:=Option.bind_eq_some_iff.1 h
  obtain⟨h1,h2⟩:=sel14_ok hl
  cases m with
  |zero=>cases hx
  |succ m=>exact⟨_,hk,(zC_fx m (hct m (Nat.lt_succ_self m)) _ hx).conv h1 h2,⟨_,Tryz.func14,rfl,by decide⟩⟩
 cases h
theorem ct15_ok m (hct:CtK m) (h:ct15 m args objs K=some r):FQ 15 args objs K r:=by
 unfold ct15 at h
 split at h
 ·rename_i l hl
  obtain⟨x,hx,hk⟩:=Option.bind_eq_some_iff.1 h
  obtain⟨h1,h2⟩:=sel15_ok hl
  cases m with
  |zero=>cases hx
  |succ m=>exact⟨_,hk,(zO_fx m (hct m (Nat.lt_succ_self m)) _ _ hx).conv h1 h2,⟨_,Tryz.func15,rfl,by decide⟩⟩
 cases h
theorem ct25_ok m (hct:CtK m) (h:ct25 m args objs K=some r):FQ 25 args objs K r:=by
 unfold ct25 at h
 split at h
 ·rename_i l hl
  obtain⟨x,hx,hk⟩:=Option.bind_eq_some_iff.1 h
  obtain⟨h1,h2⟩:=sel7_ok hl
  cases m with
  |zero=>cases hx
  |succ m=>exact⟨_,hk,(yI_fx m (hct m (Nat.lt_succ_self m)) _ hx).conv h1 h2,⟨_,Tryz.func25,rfl,by decide⟩⟩
 cases h
theorem ct26_ok m (hct:CtK m) (h:ct26 m args objs K=some r):FQ 26 args objs K r:=by
 unfold ct26 at h
 split at h
 ·rename_i l hl
  obtain⟨x,hx,hk⟩:=Option.bind_eq_some_iff.1 h
  obtain⟨h1,h2⟩:=sel7_ok hl
  cases m with
  |zero=>cases hx
  |succ m=>exact⟨_,hk,(yH_fx m (hct m (Nat.lt_succ_self m)) _ hx).conv h1 h2,⟨_,Tryz.func26,rfl,by decide⟩⟩
 cases h
theorem ct27_ok m (hct:CtK m) (h:ct27 m args objs K=some r):FQ 27 args objs K r:=by
 unfold ct27 at h
 split at h
 ·rename_i l hl
  obtain⟨x,hx,hk⟩:=Option.bind_eq_some_iff.1 h
  obtain⟨h1,h2⟩:=sel18_ok hl
  cases m with
  |zero=>cases hx
  |succ m=>exact⟨_,hk,(qE_fx m (hct m (Nat.lt_succ_self m)) _ _ hx).conv h1 h2,⟨_,Tryz.func27,rfl,by decide⟩⟩
 cases h
theorem ct29_ok m (hct:CtK m) (h:ct29 m args objs K=some r):FQ 29 args objs K r:=by
 unfold ct29 at h
 split at h
 ·rename_i l hl
  obtain⟨x,hx,hk⟩:=Option.bind_eq_some_iff.1 h
  obtain⟨h1,h2⟩:=sel7_ok hl
  cases m with
  |zero=>cases hx
  |succ m=>exact⟨_,hk,(zW_fx m (hct m (Nat.lt_succ_self m)) _ hx).conv h1 h2,⟨_,Tryz.func29,rfl,by decide⟩⟩
 cases h
theorem ct30_ok m (hct:CtK m) (h:ct30 m args objs K=some r):FQ 30 args objs K r:=by
 unfold ct30 at h
 split at h
 ·rename_i l hl
  obtain⟨x,hx,hk⟩:=Option.bind_eq_some_iff.1 h
  obtain⟨h1,h2⟩:=sel20_ok hl
  cases m with
  |zero=>cases hx
  |succ m=>exact⟨_,hk,(qV_fx m (hct m (Nat.lt_succ_self m)) _ _ _ hx).conv h1 h2,⟨_,Tryz.func30,rfl,by decide⟩⟩
 cases h
theorem ct31_ok m (hct:CtK m) (h:ct31 m args objs K=some r):FQ 31 args objs K r:=by
 unfold ct31 at h
 split at h
 ·rename_i l hl
  obtain⟨x,hx,hk⟩:=Option.bind_eq_some_iff.1 h
  obtain⟨h1,h2⟩:=sel21_ok hl
  cases m with
  |zero=>cases hx
  |succ m=>exact⟨_,hk,(yB_fx m (hct m (Nat.lt_succ_self m)) _ _ _ hx).conv h1 h2,⟨_,Tryz.func31,rfl,by decide⟩⟩
 cases h
theorem ct32_ok m (hct:CtK m) (h:ct32 m args objs K=some r):FQ 32 args objs K r:=by
 unfold ct32 at h
 split at h
 ·rename_i l hl
  obtain⟨x,hx,hk⟩:=Option.bind_eq_some_iff.1 h
  obtain⟨h1,h2⟩:=sel22_ok hl
  cases m with
  |zero=>cases hx
  |succ m=>exact⟨_,hk,(zA_fx m (hct m (Nat.lt_succ_self m)) _ _ hx).conv h1 h2,⟨_,Tryz.func32,rfl,by decide⟩⟩
 cases h
theorem ct33_ok m (hct:CtK m) (h:ct33 m args objs K=some r):FQ 33 args objs K r:=by
 unfold ct33 at h
 split at h
 ·rename_i l hl
  obtain⟨x,hx,hk⟩:=Option.bind_eq_some_iff.1 h
  obtain⟨h1,h2⟩:=sel21_ok hl
  cases m with
  |zero=>cases hx
  |succ m=>exact⟨_,hk,(qX_fx m (hct m (Nat.lt_succ_self m)) _ _ _ hx).conv h1 h2,⟨_,Tryz.func33,rfl,by decide⟩⟩
 cases h
theorem ct28_ok m (hct:CtK m) (h:ct28 m args objs K=some r):FQ 28 args objs K r:=by
 unfold ct28 at h
 split at h
 ·rename_i l hl
  obtain⟨x,hx,hk⟩:=Option.bind_eq_some_iff.1 h
  obtain⟨h1,h2⟩:=sel24_ok hl
  cases m with
  |zero=>cases hx
  |succ m=>exact⟨_,hk,(qT_fx m (hct m (Nat.lt_succ_self m)) _ hx).conv h1 h2,⟨_,Tryz.func28,rfl,by decide⟩⟩
 cases h
theorem ct42_ok m (hct:CtK m) (h:ct42 m args objs K=some r):FQ 42 args objs K r:=by
 unfold ct42 at h
 split at h
 ·rename_i l hl
  obtain⟨x,hx,hk⟩:=Option.bind_eq_some_iff.1 h
  obtain⟨h1,h2⟩:=sel25_ok hl
  cases m with
  |zero=>cases hx
  |succ m=>exact⟨_,hk,(qM_fx m (hct m (Nat.lt_succ_self m)) _ _ hx).conv h1 h2,⟨_,Tryz.func42,rfl,by decide⟩⟩
 cases h
theorem ct43_ok m (hct:CtK m) (h:ct43 m args objs K=some r):FQ 43 args objs K r:=by
 unfold ct43 at h
 split at h
 ·rename_i l hl
  obtain⟨x,hx,hk⟩:=Option.bind_eq_some_iff.1 h
  obtain⟨h1,h2⟩:=sel25_ok hl
  cases m with
  |zero=>cases hx
  |succ m=>exact⟨_,hk,(zH_fx m (hct m (Nat.lt_succ_self m)) _ _ hx).conv h1 h2,⟨_,Tryz.func43,rfl,by decide⟩⟩
 cases h
theorem ct44_ok m (hct:CtK m) (h:ct44 m args objs K=some r):FQ 44 args objs K r:=by
 unfold ct44 at h
 split at h
 ·rename_i l hl
  obtain⟨x,hx,hk⟩:=Option.bind_eq_some_iff.1 h
  obtain⟨h1,h2⟩:=sel24_ok hl
  cases m with
  |zero=>cases hx
  |succ m=>exact⟨_,hk,(qP_fx m (hct m (Nat.lt_succ_self m)) _ hx).conv h1 h2,⟨_,Tryz.func44,rfl,by decide⟩⟩
 cases h
theorem ct45_ok m (hct:CtK m) (h:ct45 m args objs K=some r):FQ 45 args objs K r:=by
 unfold ct45 at h
 split at h
 ·rename_i l hl
  obtain⟨x,hx,hk⟩:=Option.bind_eq_some_iff.1 h
  obtain⟨h1,h2⟩:=sel18_ok hl
  cases m with
  |zero=>cases hx
  |succ m=>exact⟨_,hk,(qG_fx m (hct m (Nat.lt_succ_self m)) _ _ hx).conv h1 h2,⟨_,Tryz.func45,rfl,by decide⟩⟩
 cases h
theorem ct46_ok m (hct:CtK m) (h:ct46 m args objs K=some r):FQ 46 args objs K r:=by
 unfold ct46 at h
 split at h
 ·rename_i l hl
  obtain⟨x,hx,hk⟩:=Option.bind_eq_some_iff.1 h
  obtain⟨h1,h2⟩:=sel7_ok hl
  cases m with
  |zero=>cases hx
  |succ m=>exact⟨_,hk,(yK_fx m (hct m (Nat.lt_succ_self m)) _ hx).conv h1 h2,⟨_,Tryz.func46,rfl,by decide⟩⟩
 cases h
theorem ct47_ok m (hct:CtK m) (h:ct47 m args objs K=some r):FQ 47 args objs K r:=by
 unfold ct47 at h
 split at h
 ·rename_i l hl
  obtain⟨x,hx,hk⟩:=Option.bind_eq_some_iff.1 h
  obtain⟨h1,h2⟩:=sel7_ok hl
  cases m with
  |zero=>cases hx
  |succ m=>exact⟨_,hk,(qF_fx m (hct m (Nat.lt_succ_self m)) _ hx).conv h1 h2,⟨_,Tryz.func47,rfl,by decide⟩⟩
 cases h
theorem ct48_ok m (hct:CtK m) (h:ct48 m args objs K=some r):FQ 48 args objs K r:=by
 unfold ct48 at h
 split at h
 ·rename_i l hl
  obtain⟨x,hx,hk⟩:=Option.bind_eq_some_iff.1 h
  obtain⟨h1,h2⟩:=sel31_ok hl
  cases m with
  |zero=>cases hx
  |succ m=>exact⟨_,hk,(zS_fx m (hct m (Nat.lt_succ_self m)) _ _ hx).conv h1 h2,⟨_,Tryz.func48,rfl,by decide⟩⟩
 cases h
theorem ct49_ok m (hct:CtK m) (h:ct49 m args objs K=some r):FQ 49 args objs K r:=by
 unfold ct49 at h
 split at h
 ·rename_i l hl
  obtain⟨x,hx,hk⟩:=Option.bind_eq_some_iff.1 h
  obtain⟨h1,h2⟩:=sel32_ok hl
  cases m with
  |zero=>cases hx
  |succ m=>exact⟨_,hk,(i32_fx m (hct m (Nat.lt_succ_self m)) _ _ hx).conv h1 h2,⟨_,Tryz.func49,rfl,by decide⟩⟩
 cases h
theorem ct80_ok m (hct:CtK m) (h:ct80 m args objs K=some r):FQ 80 args objs K r:=by
 unfold ct80 at h
 split at h
 ·rename_i l hl
  obtain⟨x,hx,hk⟩:=Option.bind_eq_some_iff.1 h
  obtain⟨h1,h2⟩:=sel33_ok hl
  cases m with
  |zero=>cases hx
  |succ m=>exact⟨_,hk,(i33_fx m (hct m (Nat.lt_succ_self m)) _ _ _ hx).conv h1 h2,⟨_,Tryz.func80,rfl,by decide⟩⟩
 cases h
theorem ct100_ok m (hct:CtK m) (h:ct100 m args objs K=some r):FQ 100 args objs K r:=by
 unfold ct100 at h
 split at h
 ·rename_i l hl
  obtain⟨x,hx,hk⟩:=Option.bind_eq_some_iff.1 h
  obtain⟨h1,h2⟩:=sel34_ok hl
  cases m with
  |zero=>cases hx
  |succ m=>exact⟨_,hk,(i34_fx m (hct m (Nat.lt_succ_self m)) _ _ _ _ hx).conv h1 h2,⟨_,Tryz.func100,rfl,by decide⟩⟩
 cases h
theorem ct50_ok m (hct:CtK m) (h:ct50 m args objs K=some r):FQ 50 args objs K r:=by
 unfold ct50 at h
 split at h
 ·rename_i l hl
  obtain⟨x,hx,hk⟩:=Option.bind_eq_some_iff.1 h
  obtain⟨h1,h2⟩:=sel35_ok hl
  cases m with
  |zero=>cases hx
  |succ m=>exact⟨_,hk,(i35_fx m (hct m (Nat.lt_succ_self m)) _ _ _ hx).conv h1 h2,⟨_,Tryz.func50,rfl,by decide⟩⟩
 cases h
theorem ct51_ok m (hct:CtK m) (h:ct51 m args objs K=some r):FQ 51 args objs K r:=by
 unfold ct51 at h
 split at h
 ·rename_i l hl
  obtain⟨x,hx,hk⟩:=Option.bind_eq_some_iff.1 h
  obtain⟨h1,h2⟩:=sel10_ok hl
  cases m with
  |zero=>cases hx
  |succ m=>exact⟨_,hk,(zF_fx m (hct m (Nat.lt_succ_self m)) _ _ _ hx).conv h1 h2,⟨_,Tryz.func51,rfl,by decide⟩⟩
 cases h
theorem ct101_ok m (hct:CtK m) (h:ct101 m args objs K=some r):FQ 101 args objs K r:=by
 unfold ct101 at h
 split at h
 ·rename_i l hl
  obtain⟨x,hx,hk⟩:=Option.bind_eq_some_iff.1 h
  obtain⟨h1,h2⟩:=sel37_ok hl
  cases m with
  |zero=>cases hx
  |succ m=>exact⟨_,hk,(i37_fx m (hct m (Nat.lt_succ_self m)) _ _ _ _ _ hx).conv h1 h2,⟨_,Tryz.func101,rfl,by decide⟩⟩
 cases h
theorem ct117_ok m (hct:CtK m) (h:ct117 m args objs K=some r):FQ 117 args objs K r:=by
 unfold ct117 at h
 split at h
 ·rename_i l hl
  obtain⟨x,hx,hk⟩:=Option.bind_eq_some_iff.1 h
  obtain⟨h1,h2⟩:=sel37_ok hl
  cases m with
  |zero=>cases hx
  |succ m=>exact⟨_,hk,(i38_fx m (hct m (Nat.lt_succ_self m)) _ _ _ _ _ hx).conv h1 h2,⟨_,Tryz.func117,rfl,by decide⟩⟩
 cases h
theorem ct135_ok m (hct:CtK m) (h:ct135 m args objs K=some r):FQ 135 args objs K r:=by
 unfold ct135 at h
 split at h
 ·rename_i l hl
  obtain⟨x,hx,hk⟩:=Option.bind_eq_some_iff.1 h
  obtain⟨h1,h2⟩:=sel37_ok hl
  cases m with
  |zero=>cases hx
  |succ m=>exact⟨_,hk,(i39_fx m (hct m (Nat.lt_succ_self m)) _ _ _ _ _ hx).conv h1 h2,⟨_,Tryz.func135,rfl,by decide⟩⟩
 cases h
theorem ct52_ok m (hct:CtK m) (h:ct52 m args objs K=some r):FQ 52 args objs K r:=by
 unfold ct52 at h
 split at h
 ·rename_i l hl
  obtain⟨x,hx,hk⟩:=Option.bind_eq_some_iff.1 h
  obtain⟨h1,h2⟩:=sel7_ok hl
  cases m with
  |zero=>cases hx
  |succ m=>exact⟨_,hk,(qH_fx m (hct m (Nat.lt_succ_self m)) _ hx).conv h1 h2,⟨_,Tryz.func52,rfl,by decide⟩⟩
 cases h
theorem ct53_ok m (hct:CtK m) (h:ct53 m args objs K=some r):FQ 53 args objs K r:=by
 unfold ct53 at h
 split at h
 ·rename_i l hl
  obtain⟨x,hx,hk⟩:=Option.bind_eq_some_iff.1 h
  obtain⟨h1,h2⟩:=sel7_ok hl
  cases m with
  |zero=>cases hx
  |succ m=>exact⟨_,hk,(z8_fx m (hct m (Nat.lt_succ_self m)) _ hx).conv h1 h2,⟨_,Tryz.func53,rfl,by decide⟩⟩
 cases h
theorem ct55_ok m (hct:CtK m) (h:ct55 m args objs K=some r):FQ 55 args objs K r:=by
 unfold ct55 at h
 split at h
 ·rename_i l hl
  obtain⟨x,hx,hk⟩:=Option.bind_eq_some_iff.1 h
  obtain⟨h1,h2⟩:=sel42_ok hl
  cases m with
  |zero=>cases hx
  |succ m=>exact⟨_,hk,(zK_fx m (hct m (Nat.lt_succ_self m)) _ _ hx).conv h1 h2,⟨_,Tryz.func55,rfl,by decide⟩⟩
 cases h
theorem ct54_ok m (hct:CtK m) (h:ct54 m args objs K=some r):FQ 54 args objs K r:=by
 unfold ct54 at h
 split at h
 ·rename_i l hl
  obtain⟨x,hx,hk⟩:=Option.bind_eq_some_iff.1 h
  obtain⟨h1,h2⟩:=sel13_ok hl
  cases m with
  |zero=>cases hx
  |succ m=>exact⟨_,hk,(qB_fx m (hct m (Nat.lt_succ_self m)) _ _ hx).conv h1 h2,⟨_,Tryz.func54,rfl,by decide⟩⟩
 cases h
theorem ct72_ok m (hct:CtK m) (h:ct72 m args objs K=some r):FQ 72 args objs K r:=by
 unfold ct72 at h
 split at h
 ·rename_i l hl
  obtain⟨x,hx,hk⟩:=Option.bind_eq_some_iff.1 h
  obtain⟨h1,h2⟩:=sel7_ok hl
  cases m with
  |zero=>cases hx
  |succ m=>exact⟨_,hk,(qR_fx m (hct m (Nat.lt_succ_self m)) _ hx).conv h1 h2,⟨_,Tryz.func72,rfl,by decide⟩⟩
 cases h
theorem ct73_ok m (hct:CtK m) (h:ct73 m args objs K=some r):FQ 73 args objs K r:=by
 unfold ct73 at h
 split at h
 ·rename_i l hl
  obtain⟨x,hx,hk⟩:=Option.bind_eq_some_iff.1 h
  obtain⟨h1,h2⟩:=sel45_ok hl
  cases m with
  |zero=>cases hx
  |succ m=>exact⟨_,hk,(zG_fx m (hct m (Nat.lt_succ_self m)) _ _ _ hx).conv h1 h2,⟨_,Tryz.func73,rfl,by decide⟩⟩
 cases h
theorem ct74_ok m (hct:CtK m) (h:ct74 m args objs K=some r):FQ 74 args objs K r:=by
 unfold ct74 at h
 split at h
 ·rename_i l hl
  obtain⟨x,hx,hk⟩:=Option.bind_eq_some_iff.1 h
  obtain⟨h1,h2⟩:=sel24_ok hl
  cases m with
  |zero=>cases hx
  |succ m=>exact⟨_,hk,(qU_fx m (hct m (Nat.lt_succ_self m)) _ hx).conv h1 h2,⟨_,Tryz.func74,rfl,by decide⟩⟩
 cases h
theorem ct75_ok m (hct:CtK m) (h:ct75 m args objs K=some r):FQ 75 args objs K r:=by
 unfold ct75 at h
 split at h
 ·rename_i l hl
  obtain⟨x,hx,hk⟩:=Option.bind_eq_some_iff.1 h
  obtain⟨h1,h2⟩:=sel7_ok hl
  cases m with
  |zero=>cases hx
  |succ m=>exact⟨_,hk,(yF_fx m (hct m (Nat.lt_succ_self m)) _ hx).conv h1 h2,⟨_,Tryz.func75,rfl,by decide⟩⟩
 cases h
theorem ct76_ok m (hct:CtK m) (h:ct76 m args objs K=some r):FQ 76 args objs K r:=by
 unfold ct76 at h
 split at h
 ·rename_i l hl
  obtain⟨x,hx,hk⟩:=Option.bind_eq_some_iff.1 h
  obtain⟨h1,h2⟩:=sel7_ok hl
  cases m with
  |zero=>cases hx
  |succ m=>exact⟨_,hk,(yG_fx m (hct m (Nat.lt_succ_self m)) _ hx).conv h1 h2,⟨_,Tryz.func76,rfl,by decide⟩⟩
 cases h
theorem ct77_ok m (hct:CtK m) (h:ct77 m args objs K=some r):FQ 77 args objs K r:=by
 unfold ct77 at h
 split at h
 ·rename_i l hl
  obtain⟨x,hx,hk⟩:=Option.bind_eq_some_iff.1 h
  obtain⟨h1,h2⟩:=sel7_ok hl
  cases m with
  |zero=>cases hx
  |succ m=>exact⟨_,hk,(qC_fx m (hct m (Nat.lt_succ_self m)) _ hx).conv h1 h2,⟨_,Tryz.func77,rfl,by decide⟩⟩
 cases h
theorem ct78_ok m (hct:CtK m) (h:ct78 m args objs K=some r):FQ 78 args objs K r:=by
 unfold ct78 at h
 split at h
 ·rename_i l hl
  obtain⟨x,hx,hk⟩:=Option.bind_eq_some_iff.1 h
  obtain⟨h1,h2⟩:=sel50_ok hl
  cases m with
  |zero=>cases hx
  |succ m=>exact⟨_,hk,(qZ_fx m (hct m (Nat.lt_succ_self m)) _ hx).conv h1 h2,⟨_,Tryz.func78,rfl,by decide⟩⟩
 cases h
theorem ct79_ok m (hct:CtK m) (h:ct79 m args objs K=some r):FQ 79 args objs K r:=by
 unfold ct79 at h
 split at h
 ·rename_i l hl
  obtain⟨x,hx,hk⟩:=Option.bind_eq_some_iff.1 h
  obtain⟨h1,h2⟩:=sel42_ok hl
  cases m with
  |zero=>cases hx
  |succ m=>exact⟨_,hk,(qW_fx m (hct m (Nat.lt_succ_self m)) _ _ hx).conv h1 h2,⟨_,Tryz.func79,rfl,by decide⟩⟩
 cases h
theorem ct68_ok m (hct:CtK m) (h:ct68 m args objs K=some r):FQ 68 args objs K r:=by
 unfold ct68 at h
 split at h
 ·rename_i l hl
  obtain⟨x,hx,hk⟩:=Option.bind_eq_some_iff.1 h
  obtain⟨h1,h2⟩:=sel13_ok hl
  cases m with
  |zero=>cases hx
  |succ m=>exact⟨_,hk,(qD_fx m (hct m (Nat.lt_succ_self m)) _ _ hx).conv h1 h2,⟨_,Tryz.func68,rfl,by decide⟩⟩
 cases h
theorem ct81_ok m (hct:CtK m) (h:ct81 m args objs K=some r):FQ 81 args objs K r:=by
 unfold ct81 at h
 split at h
 ·rename_i l hl
  obtain⟨x,hx,hk⟩:=Option.bind_eq_some_iff.1 h
  obtain⟨h1,h2⟩:=sel7_ok hl
  cases m with
  |zero=>cases hx
  |succ m=>exact⟨_,hk,(z6_fx m (hct m (Nat.lt_succ_self m)) _ hx).conv h1 h2,⟨_,Tryz.func81,rfl,by decide⟩⟩
 cases h
theorem ct84_ok m (hct:CtK m) (h:ct84 m args objs K=some r):FQ 84 args objs K r:=by
 unfold ct84 at h
 split at h
 ·rename_i l hl
  obtain⟨x,hx,hk⟩:=Option.bind_eq_some_iff.1 h
  obtain⟨h1,h2⟩:=sel54_ok hl
  cases m with
  |zero=>cases hx
  |succ m=>exact⟨_,hk,(zB_fx m (hct m (Nat.lt_succ_self m)) _ _ hx).conv h1 h2,⟨_,Tryz.func84,rfl,by decide⟩⟩
 cases h
theorem ct82_ok m (hct:CtK m) (h:ct82 m args objs K=some r):FQ 82 args objs K r:=by
 unfold ct82 at h
 split at h
 ·rename_i l hl
  obtain⟨x,hx,hk⟩:=Option.bind_eq_some_iff.1 h
  obtain⟨h1,h2⟩:=sel55_ok hl
  cases m with
  |zero=>cases hx
  |succ m=>exact⟨_,hk,(zU_fx m (hct m (Nat.lt_succ_self m)) _ _ hx).conv h1 h2,⟨_,Tryz.func82,rfl,by decide⟩⟩
 cases h
theorem ct83_ok m (hct:CtK m) (h:ct83 m args objs K=some r):FQ 83 args objs K r:=by
 unfold ct83 at h
 split at h
 ·rename_i l hl
  obtain⟨x,hx,hk⟩:=Option.bind_eq_some_iff.1 h
  obtain⟨h1,h2⟩:=sel56_ok hl
  cases m with
  |zero=>cases hx
  |succ m=>exact⟨_,hk,(zN_fx m (hct m (Nat.lt_succ_self m)) _ _ hx).conv h1 h2,⟨_,Tryz.func83,rfl,by decide⟩⟩
 cases h
theorem ct94_ok m (hct:CtK m) (h:ct94 m args objs K=some r):FQ 94 args objs K r:=by
 unfold ct94 at h
 split at h
 ·rename_i l hl
  obtain⟨x,hx,hk⟩:=Option.bind_eq_some_iff.1 h
  obtain⟨h1,h2⟩:=sel25_ok hl
  cases m with
  |zero=>cases hx
  |succ m=>exact⟨_,hk,(zZ_fx m (hct m (Nat.lt_succ_self m)) _ _ hx).conv h1 h2,⟨_,Tryz.func94,rfl,by decide⟩⟩
 cases h
theorem ct95_ok m (hct:CtK m) (h:ct95 m args objs K=some r):FQ 95 args objs K r:=by
 unfold ct95 at h
 split at h
 ·rename_i l hl
  obtain⟨x,hx,hk⟩:=Option.bind_eq_some_iff.1 h
  obtain⟨h1,h2⟩:=sel25_ok hl
  cases m with
  |zero=>cases hx
  |succ m=>exact⟨_,hk,(zY_fx m (hct m (Nat.lt_succ_self m)) _ _ hx).conv h1 h2,⟨_,Tryz.func95,rfl,by decide⟩⟩
 cases h
theorem ct96_ok m (hct:CtK m) (h:ct96 m args objs K=some r):FQ 96 args objs K r:=by
 unfold ct96 at h
 split at h
 ·rename_i l hl
  obtain⟨x,hx,hk⟩:=Option.bind_eq_some_iff.1 h
  obtain⟨h1,h2⟩:=sel24_ok hl
  exact⟨_,hk,(ValidString_fx hx).conv h1 h2,⟨_,Tryz.func96,rfl,by decide⟩⟩
 cases h
theorem ct97_ok m (hct:CtK m) (h:ct97 m args objs K=some r):FQ 97 args objs K r:=by
 unfold ct97 at h
 split at h
 ·rename_i l hl
  obtain⟨x,hx,hk⟩:=Option.bind_eq_some_iff.1 h
  obtain⟨h1,h2⟩:=sel60_ok hl
  cases m with
  |zero=>cases hx
  |succ m=>exact⟨_,hk,(qI_fx m (hct m (Nat.lt_succ_self m)) _ hx).conv h1 h2,⟨_,Tryz.func97,rfl,by decide⟩⟩
 cases h
theorem ct98_ok m (hct:CtK m) (h:ct98 m args objs K=some r):FQ 98 args objs K r:=by
 unfold ct98 at h
 split at h
 ·rename_i l hl
  obtain⟨x,hx,hk⟩:=Option.bind_eq_some_iff.1 h
  obtain⟨h1,h2⟩:=sel50_ok hl
  cases m with
  |zero=>cases hx
  |succ m=>exact⟨_,hk,(yE_fx m (hct m (Nat.lt_succ_self m)) _ hx).conv h1 h2,⟨_,Tryz.func98,rfl,by decide⟩⟩
 cases h
theorem ct99_ok m (hct:CtK m) (h:ct99 m args objs K=some r):FQ 99 args objs K r:=by
 unfold ct99 at h
 split at h
 ·rename_i l hl
  obtain⟨x,hx,hk⟩:=Option.bind_eq_some_iff.1 h
  obtain⟨h1,h2⟩:=sel54_ok hl
  cases m with
  |zero=>cases hx
  |succ m=>exact⟨_,hk,(zP_fx m (hct m (Nat.lt_succ_self m)) _ _ hx).conv h1 h2,⟨_,Tryz.func99,rfl,by decide⟩⟩
 cases h
theorem ct90_ok m (hct:CtK m) (h:ct90 m args objs K=some r):FQ 90 args objs K r:=by
 unfold ct90 at h
 split at h
 ·rename_i l hl
  obtain⟨x,hx,hk⟩:=Option.bind_eq_some_iff.1 h
  obtain⟨h1,h2⟩:=sel55_ok hl
  cases m with
  |zero=>cases hx
  |succ m=>exact⟨_,hk,(zM_fx m (hct m (Nat.lt_succ_self m)) _ _ hx).conv h1 h2,⟨_,Tryz.func90,rfl,by decide⟩⟩
 cases h
theorem ct91_ok m (hct:CtK m) (h:ct91 m args objs K=some r):FQ 91 args objs K r:=by
 unfold ct91 at h
 split at h
 ·rename_i l hl
  obtain⟨x,hx,hk⟩:=Option.bind_eq_some_iff.1 h
  obtain⟨h1,h2⟩:=sel56_ok hl
  exact⟨_,hk,(Compare_fx hx).conv h1 h2,⟨_,Tryz.func91,rfl,by decide⟩⟩
 cases h
theorem ct102_ok m (hct:CtK m) (h:ct102 m args objs K=some r):FQ 102 args objs K r:=by
 unfold ct102 at h
 split at h
 ·rename_i l hl
  obtain⟨x,hx,hk⟩:=Option.bind_eq_some_iff.1 h
  obtain⟨h1,h2⟩:=sel7_ok hl
  cases m with
  |zero=>cases hx
  |succ m=>exact⟨_,hk,(qK_fx m (hct m (Nat.lt_succ_self m)) _ hx).conv h1 h2,⟨_,Tryz.func102,rfl,by decide⟩⟩
 cases h
theorem ct103_ok m (hct:CtK m) (h:ct103 m args objs K=some r):FQ 103 args objs K r:=by
 unfold ct103 at h
 split at h
 ·rename_i l hl
  obtain⟨x,hx,hk⟩:=Option.bind_eq_some_iff.1 h
  obtain⟨h1,h2⟩:=sel54_ok hl
  cases m with
  |zero=>cases hx
  |succ m=>exact⟨_,hk,(zX_fx m (hct m (Nat.lt_succ_self m)) _ _ hx).conv h1 h2,⟨_,Tryz.func103,rfl,by decide⟩⟩
 cases h
theorem ct110_ok m (hct:CtK m) (h:ct110 m args objs K=some r):FQ 110 args objs K r:=by
 unfold ct110 at h
 split at h
 ·rename_i l hl
  obtain⟨x,hx,hk⟩:=Option.bind_eq_some_iff.1 h
  obtain⟨h1,h2⟩:=sel67_ok hl
  cases m with
  |zero=>cases hx
  |succ m=>exact⟨_,hk,(i67_fx m (hct m (Nat.lt_succ_self m)) _ _ _ hx).conv h1 h2,⟨_,Tryz.func110,rfl,by decide⟩⟩
 split at h
 ·rename_i l hl
  obtain⟨x,hx,hk⟩:=Option.bind_eq_some_iff.1 h
  obtain⟨h1,h2⟩:=sel69_ok hl
  cases m with
  |zero=>cases hx
  |succ m=>exact⟨_,hk,(i69_fx m (hct m (Nat.lt_succ_self m)) _ _ _ hx).conv h1 h2,⟨_,Tryz.func110,rfl,by decide⟩⟩
 cases h
theorem ct111_ok m (hct:CtK m) (h:ct111 m args objs K=some r):FQ 111 args objs K r:=by
 unfold ct111 at h
 split at h
 ·rename_i l hl
  obtain⟨x,hx,hk⟩:=Option.bind_eq_some_iff.1 h
  obtain⟨h1,h2⟩:=sel68_ok hl
  cases m with
  |zero=>cases hx
  |succ m=>exact⟨_,hk,(i68_fx m (hct m (Nat.lt_succ_self m)) _ _ _ hx).conv h1 h2,⟨_,Tryz.func111,rfl,by decide⟩⟩
 cases h
theorem ct112_ok m (hct:CtK m) (h:ct112 m args objs K=some r):FQ 112 args objs K r:=by
 unfold ct112 at h
 split at h
 ·rename_i l hl
  obtain⟨x,hx,hk⟩:=Option.bind_eq_some_iff.1 h
  obtain⟨h1,h2⟩:=sel68_ok hl
  cases m with
  |zero=>cases hx
  |succ m=>exact⟨_,hk,(i70_fx m (hct m (Nat.lt_succ_self m)) _ _ _ hx).conv h1 h2,⟨_,Tryz.func112,rfl,by decide⟩⟩
 cases h
theorem ct114_ok m (hct:CtK m) (h:ct114 m args objs K=some r):FQ 114 args objs K r:=by
 unfold ct114 at h
 split at h
 ·rename_i l hl
  obtain⟨x,hx,hk⟩:=Option.bind_eq_some_iff.1 h
  obtain⟨h1,h2⟩:=sel24_ok hl
  cases m with
  |zero=>cases hx
  |succ m=>exact⟨_,hk,(qL_fx m (hct m (Nat.lt_succ_self m)) _ hx).conv h1 h2,⟨_,Tryz.func114,rfl,by decide⟩⟩
 cases h
theorem ct115_ok m (hct:CtK m) (h:ct115 m args objs K=some r):FQ 115 args objs K r:=by
 unfold ct115 at h
 split at h
 ·rename_i l hl
  obtain⟨x,hx,hk⟩:=Option.bind_eq_some_iff.1 h
  obtain⟨h1,h2⟩:=sel72_ok hl
  cases m with
  |zero=>cases hx
  |succ m=>exact⟨_,hk,(i72_fx m (hct m (Nat.lt_succ_self m)) _ _ _ hx).conv h1 h2,⟨_,Tryz.func115,rfl,by decide⟩⟩
 cases h
theorem ct133_ok m (hct:CtK m) (h:ct133 m args objs K=some r):FQ 133 args objs K r:=by
 unfold ct133 at h
 split at h
 ·rename_i l hl
  obtain⟨x,hx,hk⟩:=Option.bind_eq_some_iff.1 h
  obtain⟨h1,h2⟩:=sel73_ok hl
  cases m with
  |zero=>cases hx
  |succ m=>exact⟨_,hk,(zR_fx m (hct m (Nat.lt_succ_self m)) _ _ hx).conv h1 h2,⟨_,Tryz.func133,rfl,by decide⟩⟩
 cases h
theorem ct134_ok m (hct:CtK m) (h:ct134 m args objs K=some r):FQ 134 args objs K r:=by
 unfold ct134 at h
 split at h
 ·rename_i l hl
  obtain⟨x,hx,hk⟩:=Option.bind_eq_some_iff.1 h
  obtain⟨h1,h2⟩:=sel24_ok hl
  cases m with
  |zero=>cases hx
  |succ m=>exact⟨_,hk,(zD_fx m (hct m (Nat.lt_succ_self m)) _ hx).conv h1 h2,⟨_,Tryz.func134,rfl,by decide⟩⟩
 cases h
theorem ct116_ok m (hct:CtK m) (h:ct116 m args objs K=some r):FQ 116 args objs K r:=by
 unfold ct116 at h
 split at h
 ·rename_i l hl
  obtain⟨x,hx,hk⟩:=Option.bind_eq_some_iff.1 h
  obtain⟨h1,h2⟩:=sel7_ok hl
  cases m with
  |zero=>cases hx
  |succ m=>exact⟨_,hk,(qN_fx m (hct m (Nat.lt_succ_self m)) _ hx).conv h1 h2,⟨_,Tryz.func116,rfl,by decide⟩⟩
 cases h
theorem ct107_ok m (hct:CtK m) (h:ct107 m args objs K=some r):FQ 107 args objs K r:=by
 unfold ct107 at h
 split at h
 ·rename_i l hl
  obtain⟨x,hx,hk⟩:=Option.bind_eq_some_iff.1 h
  obtain⟨h1,h2⟩:=sel50_ok hl
  cases m with
  |zero=>cases hx
  |succ m=>exact⟨_,hk,(yL_fx m (hct m (Nat.lt_succ_self m)) _ hx).conv h1 h2,⟨_,Tryz.func107,rfl,by decide⟩⟩
 cases h
theorem ct118_ok m (hct:CtK m) (h:ct118 m args objs K=some r):FQ 118 args objs K r:=by
 unfold ct118 at h
 split at h
 ·rename_i l hl
  obtain⟨x,hx,hk⟩:=Option.bind_eq_some_iff.1 h
  obtain⟨h1,h2⟩:=sel50_ok hl
  cases m with
  |zero=>cases hx
  |succ m=>exact⟨_,hk,(zJ_fx m (hct m (Nat.lt_succ_self m)) _ hx).conv h1 h2,⟨_,Tryz.func118,rfl,by decide⟩⟩
 cases h
theorem ct119_ok m (hct:CtK m) (h:ct119 m args objs K=some r):FQ 119 args objs K r:=by
 unfold ct119 at h
 split at h
 ·rename_i l hl
  obtain⟨x,hx,hk⟩:=Option.bind_eq_some_iff.1 h
  obtain⟨h1,h2⟩:=sel54_ok hl
  cases m with
  |zero=>cases hx
  |succ m=>exact⟨_,hk,(qO_fx m (hct m (Nat.lt_succ_self m)) _ _ hx).conv h1 h2,⟨_,Tryz.func119,rfl,by decide⟩⟩
 cases h
theorem ct136_ok m (hct:CtK m) (h:ct136 m args objs K=some r):FQ 136 args objs K r:=by
 unfold ct136 at h
 split at h
 ·rename_i l hl
  obtain⟨x,hx,hk⟩:=Option.bind_eq_some_iff.1 h
  obtain⟨h1,h2⟩:=sel79_ok hl
  cases m with
  |zero=>cases hx
  |succ m=>exact⟨_,hk,(yD_fx m (hct m (Nat.lt_succ_self m)) _ _ hx).conv h1 h2,⟨_,Tryz.func136,rfl,by decide⟩⟩
 cases h
theorem ct137_ok m (hct:CtK m) (h:ct137 m args objs K=some r):FQ 137 args objs K r:=by
 unfold ct137 at h
 split at h
 ·rename_i l hl
  obtain⟨x,hx,hk⟩:=Option.bind_eq_some_iff.1 h
  obtain⟨h1,h2⟩:=sel24_ok hl
  cases m with
  |zero=>cases hx
  |succ m=>exact⟨_,hk,(qY_fx m (hct m (Nat.lt_succ_self m)) _ hx).conv h1 h2,⟨_,Tryz.func137,rfl,by decide⟩⟩
 cases h
theorem ct155_ok m (hct:CtK m) (h:ct155 m args objs K=some r):FQ 155 args objs K r:=by
 unfold ct155 at h
 split at h
 ·rename_i l hl
  obtain⟨x,hx,hk⟩:=Option.bind_eq_some_iff.1 h
  obtain⟨h1,h2⟩:=sel79_ok hl
  cases m with
  |zero=>cases hx
  |succ m=>exact⟨_,hk,(zT_fx m (hct m (Nat.lt_succ_self m)) _ _ hx).conv h1 h2,⟨_,Tryz.func155,rfl,by decide⟩⟩
 cases h
end
set_option maxHeartbeats 4000000 in
theorem ct_ok:∀(m:Nat) (R:Type),CallOK (R:=R) Tryz.prog (ct m):=by
 intro m
 induction m using Nat.strongRecOn with
 |_ m ih=>
  intro R f args objs K r h
  unfold ct at h
  rcases bset_some h with⟨hb,h1⟩| ⟨_,h⟩
  ·cases beq_eq hb;exact ct3_ok m ih h1
  rcases bset_some h with⟨hb,h1⟩| ⟨_,h⟩
  ·cases beq_eq hb;exact ct5_ok m ih h1
  rcases bset_some h with⟨hb,h1⟩| ⟨_,h⟩
  ·cases beq_eq hb;exact ct7_ok m ih h1
  rcases bset_some h with⟨hb,h1⟩| ⟨_,h⟩
  ·cases beq_eq hb;exact ct8_ok m ih h1
  rcases bset_some h with⟨hb,h1⟩| ⟨_,h⟩
  ·cases beq_eq hb;exact ct9_ok m ih h1
  rcases bset_some h with⟨hb,h1⟩| ⟨_,h⟩
  ·cases beq_eq hb;exact ct10_ok m ih h1
  rcases bset_some h with⟨hb,h1⟩| ⟨_,h⟩
  ·cases beq_eq hb;exact ct6_ok m ih h1
  rcases bset_some h with⟨hb,h1⟩| ⟨_,h⟩
  ·cases beq_eq hb;exact ct13_ok m ih h1
  rcases bset_some h with⟨hb,h1⟩| ⟨_,h⟩
  ·cases beq_eq hb;exact ct16_ok m ih h1
  rcases bset_some h with⟨hb,h1⟩| ⟨_,h⟩
  ·cases beq_eq hb;exact ct17_ok m ih h1
  rcases bset_some h with⟨hb,h1⟩| ⟨_,h⟩
  ·cases beq_eq hb;exact ct18_ok m ih h1
  rcases bset_some h with⟨hb,h1⟩| ⟨_,h⟩
  ·cases beq_eq hb;exact ct19_ok m ih h1
  rcases bset_some h with⟨hb,h1⟩| ⟨_,h⟩
  ·cases beq_eq hb;exact ct20_ok m ih h1
  rcases bset_some h with⟨hb,h1⟩| ⟨_,h⟩
  ·cases beq_eq hb;exact ct21_ok m ih h1
  rcases bset_some h with⟨hb,h1⟩| ⟨_,h⟩
  ·cases beq_eq hb;exact ct14_ok m ih h1
  rcases bset_some h with⟨hb,h1⟩| ⟨_,h⟩
  ·cases beq_eq hb;exact ct15_ok m ih h1
  rcases bset_some h with⟨hb,h1⟩| ⟨_,h⟩
  ·cases beq_eq hb;exact ct25_ok m ih h1
  rcases bset_some h with⟨hb,h1⟩| ⟨_,h⟩
  ·cases beq_eq hb;exact ct26_ok m ih h1
  rcases bset_some h with⟨hb,h1⟩| ⟨_,h⟩
  ·cases beq_eq hb;exact ct27_ok m ih h1
  rcases bset_some h with⟨hb,h1⟩| ⟨_,h⟩
  ·cases beq_eq hb;exact ct29_ok m ih h1
  rcases bset_some h with⟨hb,h1⟩| ⟨_,h⟩
  ·cases beq_eq hb;exact ct30_ok m ih h1
  rcases bset_some h with⟨hb,h1⟩| ⟨_,h⟩
  ·cases beq_eq hb;exact ct31_ok m ih h1
  rcases bset_some h with⟨hb,h1⟩| ⟨_,h⟩
  ·cases beq_eq hb;exact ct32_ok m ih h1
  rcases bset_some h with⟨hb,h1⟩| ⟨_,h⟩
  ·cases beq_eq hb;exact ct33_ok m ih h1
  rcases bset_some h with⟨hb,h1⟩| ⟨_,h⟩
  ·cases beq_eq hb;exact ct28_ok m ih h1
  rcases bset_some h with⟨hb,h1⟩| ⟨_,h⟩
  ·cases beq_eq hb;exact ct42_ok m ih h1
  rcases bset_some h with⟨hb,h1⟩| ⟨_,h⟩
  ·cases beq_eq hb;exact ct43_ok m ih h1
  rcases bset_some h with⟨hb,h1⟩| ⟨_,h⟩
  ·cases beq_eq hb;exact ct44_ok m ih h1
  rcases bset_some h with⟨hb,h1⟩| ⟨_,h⟩
  ·cases beq_eq hb;exact ct45_ok m ih h1
  rcases bset_some h with⟨hb,h1⟩| ⟨_,h⟩
  ·cases beq_eq hb;exact ct46_ok m ih h1
  rcases bset_some h with⟨hb,h1⟩| ⟨_,h⟩
  ·cases beq_eq hb;exact ct47_ok m ih h1
  rcases bset_some h with⟨hb,h1⟩| ⟨_,h⟩
  ·cases beq_eq hb;exact ct48_ok m ih h1
  rcases bset_some h with⟨hb,h1⟩| ⟨_,h⟩
  ·cases beq_eq hb;exact ct49_ok m ih h1
  rcases bset_some h with⟨hb,h1⟩| ⟨_,h⟩
  ·cases beq_eq hb;exact ct80_ok m ih h1
  rcases bset_some h with⟨hb,h1⟩| ⟨_,h⟩
  ·cases beq_eq hb;exact ct100_ok m ih h1
  rcases bset_some h with⟨hb,h1⟩| ⟨_,h⟩
  ·cases beq_eq hb;exact ct50_ok m ih h1
  rcases bset_some h with⟨hb,h1⟩| ⟨_,h⟩
  ·cases beq_eq hb;exact ct51_ok m ih h1
  rcases bset_some h with⟨hb,h1⟩| ⟨_,h⟩
  ·cases beq_eq hb;exact ct101_ok m ih h1
  rcases bset_some h with⟨hb,h1⟩| ⟨_,h⟩
  ·cases beq_eq hb;exact ct117_ok m ih h1
  rcases bset_some h with⟨hb,h1⟩| ⟨_,h⟩
  ·cases beq_eq hb;exact ct135_ok m ih h1
  rcases bset_some h with⟨hb,h1⟩| ⟨_,h⟩
  ·cases beq_eq hb;exact ct52_ok m ih h1
  rcases bset_some h with⟨hb,h1⟩| ⟨_,h⟩
  ·cases beq_eq hb;exact ct53_ok m ih h1
  rcases bset_some h with⟨hb,h1⟩| ⟨_,h⟩
  ·cases beq_eq hb;exact ct55_ok m ih h1
  rcases bset_some h with⟨hb,h1⟩| ⟨_,h⟩
  ·cases beq_eq hb;exact ct54_ok m ih h1
  rcases bset_some h with⟨hb,h1⟩| ⟨_,h⟩
  ·cases beq_eq hb;exact ct72_ok m ih h1
  rcases bset_some h with⟨hb,h1⟩| ⟨_,h⟩
  ·cases beq_eq hb;exact ct73_ok m ih h1
  rcases bset_some h with⟨hb,h1⟩| ⟨_,h⟩
  ·cases beq_eq hb;exact ct74_ok m ih h1
  rcases bset_some h with⟨hb,h1⟩| ⟨_,h⟩
  ·cases beq_eq hb;exact ct75_ok m ih h1
  rcases bset_some h with⟨hb,h1⟩| ⟨_,h⟩
  ·cases beq_eq hb;exact ct76_ok m ih h1
  rcases bset_some h with⟨hb,h1⟩| ⟨_,h⟩
  ·cases beq_eq hb;exact ct77_ok m ih h1
  rcases bset_some h with⟨hb,h1⟩| ⟨_,h⟩
  ·cases beq_eq hb;exact ct78_ok m ih h1
  rcases bset_some h with⟨hb,h1⟩| ⟨_,h⟩
  ·cases beq_eq hb;exact ct79_ok m ih h1
  rcases bset_some h with⟨hb,h1⟩| ⟨_,h⟩
  ·cases beq_eq hb;exact ct68_ok m ih h1
  rcases bset_some h with⟨hb,h1⟩| ⟨_,h⟩
  ·cases beq_eq hb;exact ct81_ok m ih h1
  rcases bset_some h with⟨hb,h1⟩| ⟨_,h⟩
  ·cases beq_eq hb;exact ct84_ok m ih h1
  rcases bset_some h with⟨hb,h1⟩| ⟨_,h⟩
  ·cases beq_eq hb;exact ct82_ok m ih h1
  rcases bset_some h with⟨hb,h1⟩| ⟨_,h⟩
  ·cases beq_eq hb;exact ct83_ok m ih h1
  rcases bset_some h with⟨hb,h1⟩| ⟨_,h⟩
  ·cases beq_eq hb;exact ct94_ok m ih h1
  rcases bset_some h with⟨hb,h1⟩| ⟨_,h⟩
  ·cases beq_eq hb;exact ct95_ok m ih h1
  rcases bset_some h with⟨hb,h1⟩| ⟨_,h⟩
  ·cases beq_eq hb;exact ct96_ok m ih h1
  rcases bset_some h with⟨hb,h1⟩| ⟨_,h⟩
  ·cases beq_eq hb;exact ct97_ok m ih h1
  rcases bset_some h with⟨hb,h1⟩| ⟨_,h⟩
  ·cases beq_eq hb;exact ct98_ok m ih h1
  rcases bset_some h with⟨hb,h1⟩| ⟨_,h⟩
  ·cases beq_eq hb;exact ct99_ok m ih h1
  rcases bset_some h with⟨hb,h1⟩| ⟨_,h⟩
  ·cases beq_eq hb;exact ct90_ok m ih h1
  rcases bset_some h with⟨hb,h1⟩| ⟨_,h⟩
  ·cases beq_eq hb;exact ct91_ok m ih h1
  rcases bset_some h with⟨hb,h1⟩| ⟨_,h⟩
  ·cases beq_eq hb;exact ct102_ok m ih h1
  rcases bset_some h with⟨hb,h1⟩| ⟨_,h⟩
  ·cases beq_eq hb;exact ct103_ok m ih h1
  rcases bset_some h with⟨hb,h1⟩| ⟨_,h⟩
  ·cases beq_eq hb;exact ct110_ok m ih h1
  rcases bset_some h with⟨hb,h1⟩| ⟨_,h⟩
  ·cases beq_eq hb;exact ct111_ok m ih h1
  rcases bset_some h with⟨hb,h1⟩| ⟨_,h⟩
  ·cases beq_eq hb;exact ct112_ok m ih h1
  rcases bset_some h with⟨hb,h1⟩| ⟨_,h⟩
  ·cases beq_eq hb;exact ct114_ok m ih h1
  rcases bset_some h with⟨hb,h1⟩| ⟨_,h⟩
  ·cases beq_eq hb;exact ct115_ok m ih h1
  rcases bset_some h with⟨hb,h1⟩| ⟨_,h⟩
  ·cases beq_eq hb;exact ct133_ok m ih h1
  rcases bset_some h with⟨hb,h1⟩| ⟨_,h⟩
  ·cases beq_eq hb;exact ct134_ok m ih h1
  rcases bset_some h with⟨hb,h1⟩| ⟨_,h⟩
  ·cases beq_eq hb;exact ct116_ok m ih h1
  rcases bset_some h with⟨hb,h1⟩| ⟨_,h⟩
  ·cases beq_eq hb;exact ct107_ok m ih h1
  rcases bset_some h with⟨hb,h1⟩| ⟨_,h⟩
  ·cases beq_eq hb;exact ct118_ok m ih h1
  rcases bset_some h with⟨hb,h1⟩| ⟨_,h⟩
  ·cases beq_eq hb;exact ct119_ok m ih h1
  rcases bset_some h with⟨hb,h1⟩| ⟨_,h⟩
  ·cases beq_eq hb;exact ct136_ok m ih h1
  rcases bset_some h with⟨hb,h1⟩| ⟨_,h⟩
  ·cases beq_eq hb;exact ct137_ok m ih h1
  rcases bset_some h with⟨hb,h1⟩| ⟨_,h⟩
  ·cases beq_eq hb;exact ct155_ok m ih h1
  cases h
end Go.Proofs.YtpifchdngodgjaaGreatDoor
