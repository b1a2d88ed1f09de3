/- Generated: the contracts.
The functions below the law,as given ones (fixed fuel).
Generated:what the Go functions compute,over plain data.
Generated:the functions as contracts for their callers.
Generated:each function's run in the abstract machine is its shallow function.
Generated:the contracts. -/
import Derived.Test.YtjibjkdalajaiaaGreatDoorEQ
import Derived.Test.YtjibjkdalajaiaaGreatDoorA4
import Derived.Test.YtjibjkdalajaiaaGreatDoorProg
import Derived.KernelRfl
import Derived.Test.YtjibjkdalajaiaaGreatDoorAmEnv
set_option linter.all false
namespace Go.Proofs.YtjibjkdalajaiaaGreatDoor
open Go.Am
set_option maxRecDepth 100000
theorem mixed:Tryz.prog.follows .mixedOrders=true:=by kernel_rfl
abbrev CtH(m:Nat):Prop:=∀R,CallOK (R:=R) Tryz.prog (ct m)
abbrev CtK(m:Nat):Prop:=∀k,k<m->CtH k
abbrev FQ{R:Type}(f:Nat)(args:List AV)(objs:List Ob)(K:Res->Option R)(r:R):Prop:=∃q:Res,K q=some r∧FX Tryz.prog f args objs q.1 q.2∧HasBody Tryz.prog f
theorem fo{R:Type}{m f:Nat}{fn:Func}{c:Code}{args:List AV}{objs:List Ob}{res:AV}{ro:List Ob}{dec:Res->Option R}{r:R}(hct:CtH m)(hf:Tryz.prog.funcs[f]? =some fn)(hc:fn.body=some c)(hl:Nat.ble args.length fn.ntmps=true)(hd:∀{b:Res},dec b=some r->Sim Tryz.prog b (res,ro))(h:ev Tryz.prog env (ct m) jn (m+1) f fn.ntmps c ⟨args,objs,objs.length⟩ (fun e σ=>(Rf Tryz.prog env f fn e σ).bind dec)=some r):FX Tryz.prog f args objs res ro:=
 FX_of (q:=(res,ro)) (E:=env) (m:=m+1) (dec:=dec) jn_ok (hct _) mixed hf hc (aL hl) (fun _ hb=>hd hb) h
abbrev FE(f:FuncId)(s:SR)(sh:List SA)(F:CF sh (Option s.T)):Prop:=FG Tryz.prog f s sh F fun l=>l
theorem fe{f:FuncId}{s:SR}{sh:List SA}{X:Nat->CF sh (Option s.T)}(m:Nat)(ck:CtK m)(ho:oksA Tryz.prog sh)(hb:HasBody Tryz.prog f)(a:∀m,CtH m->FE f s sh (X (m+1)))(b:FZ sh (X 0)):EOK Tryz.prog f ⟨sh,s,X m⟩:=
 ⟨ho,match m,ck with
  |0,_=>b.fg
  |m+1,ck=>a m (ck m (Nat.lt_succ_self m)),hb⟩
section
variable{R:Type}{args:List AV}{objs:List Ob}{K:Res->Option R}{r:R}
theorem asF m(hct:CtH m)(a b:Dt){r:Bool×Dt}(h:i12 (m+1) a b=some r):FX Tryz.prog 13 [.dat 32 a,.ptr 0 [] 0] [.box 32 (.dat 32 b)] (.dat 4 (.bool r.1)) [.box 32 (.dat 32 r.2)]:=
 fo hct Tryz.func13 rfl rfl aea ((aro m a b).trans h)
theorem asG m(hct:CtH m)(a:List Dt)(b:Dt){r:Int×Dt}(h:i11 (m+1) a b=some r):FX Tryz.prog 29 [.dat 33 (.lst a),(.fn 13 [.ptr 0 [] 0])] [.box 32 (.dat 32 b)] (.dat 3 (.int r.1)) [.box 32 (.dat 32 r.2)]:=
 fo hct Tryz.func29 rfl rfl anI ((arp m a b).trans h)
theorem asH m(hct:CtH m)(a:List Dt)(b:Dt){r:Bool×Dt}(h:i10 (m+1) a b=some r):FX Tryz.prog 12 [.dat 33 (.lst a),(.fn 13 [.ptr 0 [] 0])] [.box 32 (.dat 32 b)] (.dat 4 (.bool r.1)) [.box 32 (.dat 32 r.2)]:=
 fo hct Tryz.func12 rfl rfl aea ((arq m a b).trans h)
theorem PI m(hct:CtH m):FE 62 Ri aq7 (qX (m+1)):=fun a r h=>
 fo hct Tryz.func62 (dec:=d22) rfl rfl (SR.sim Na) ((Oh m a).trans h)
theorem F8 m(hct:CtH m):FE 44 res1 ql (bS (m+1)):=fun a r h=>
 fo hct Tryz.func44 (dec:=d25) rfl rfl (SR.sim cZ) ((Fh m a).trans h)
theorem RY m(hct:CtH m):FE 26 res2 zL (dJ (m+1)):=fun a b r h=>
 fo hct Tryz.func26 (dec:=d28) rfl rfl (SR.sim iV) ((Rj m a b).trans h)
theorem PK m(hct:CtH m):FE 27 res2 ad7 (jv (m+1)):=fun a b r h=>
 fo hct Tryz.func27 (dec:=d28) rfl rfl (SR.sim iV) ((Oi m a b).trans h)
theorem Ao m(hct:CtH m):FE 10 res2 Jw (bB (m+1)):=fun a b r h=>
 fo hct Tryz.func10 (dec:=d28) rfl rfl (SR.sim iV) ((Jy m a b).trans h)
theorem RZ m(hct:CtH m):FE 31 fP aiS (wz (m+1)):=fun a b r h=>
 fo hct Tryz.func31 (dec:=d32) rfl rfl (SR.sim dZ) ((Rk m a b).trans h)
theorem R3 m(hct:CtH m):FE 66 res1 ql (bK (m+1)):=fun a r h=>
 fo hct Tryz.func66 (dec:=d25) rfl rfl (SR.sim cZ) ((Rl m a).trans h)
theorem Ba m(hct:CtH m):FE 181 Ri aiU (jh (m+1)):=fun a b c d r h=>
 fo hct Tryz.func181 (dec:=d22) rfl rfl (SR.sim Na) ((AU m a b c d).trans h)
theorem F9 m(hct:CtH m):FE 46 res1 ql (dF (m+1)):=fun a r h=>
 fo hct Tryz.func46 (dec:=d25) rfl rfl (SR.sim cZ) ((Fj m a).trans h)
theorem Im m(hct:CtH m):FE 56 YQ CS (eF (m+1)):=fun a r h=>
 fo hct Tryz.func56 (dec:=d58) rfl rfl (SR.sim V4) ((G7 m a).trans h)
theorem Io m(hct:CtH m):FE 63 Ri aiT (oN (m+1)):=fun a r h=>
 fo hct Tryz.func63 (dec:=d22) rfl rfl (SR.sim Na) ((G8 m a).trans h)
theorem Xb m(hct:CtH m):FE 43 Ri aq8 (vP (m+1)):=fun a b c r h=>
 fo hct Tryz.func43 (dec:=d22) rfl rfl (SR.sim Na) ((V7 m a b c).trans h)
theorem R4 m(hct:CtH m):FE 49 fP vB (ig (m+1)):=fun a r h=>
 fo hct Tryz.func49 (dec:=d32) rfl rfl (SR.sim dZ) ((Rm m a).trans h)
theorem PL m(hct:CtH m):FE 30 fP GJ (fZ (m+1)):=fun a r h=>
 fo hct Tryz.func30 (dec:=d32) rfl rfl (SR.sim dZ) ((Oj m a).trans h)
theorem PN m(hct:CtH m):FE 14 LY aq6 (uR (m+1)):=fun a r h=>
 fo hct Tryz.func14 (dec:=d13) rfl rfl (SR.sim GR) ((Ol m a).trans h)
theorem Bb m(hct:CtH m):FE 87 res1 agJ (cB (m+1)):=fun r h=>
 fo hct Tryz.func87 (dec:=d25) rfl rfl (SR.sim cZ) ((AX m).trans h)
theorem Xc m(hct:CtH m):FE 105 fP zM (qY (m+1)):=fun a r h=>
 fo hct Tryz.func105 (dec:=d32) rfl rfl (SR.sim dZ) ((V8 m a).trans h)
theorem PO m(hct:CtH m):FE 78 res2 zL (eG (m+1)):=fun a b r h=>
 fo hct Tryz.func78 (dec:=d28) rfl rfl (SR.sim iV) ((Om m a b).trans h)
theorem KQ m(hct:CtH m):FE 60 res2 Jw (bg (m+1)):=fun a b r h=>
 fo hct Tryz.func60 (dec:=d28) rfl rfl (SR.sim iV) ((JJ m a b).trans h)
theorem asI m(hct:CtH m)(a:Int)(b:Dt)(c d e f:List Dt){r:Int×List Dt×List Dt×List Dt×List Dt}(h:i19 (m+1) a b c d e f=some r):FX Tryz.prog 59 [.dat 3 (.int a),.dat 26 b,.ptr 0 [] 0] [.box 56 (.ptr 1 [] 0),.box 76 (.agg 76 [.row 2,.row 3,.row 5]),.row 23 c,(.rowD 73 78 none 4 d none),(.tok 78 e),.row 74 f] (.dat 3 (.int r.1)) [.box 56 (.ptr 1 [] 0),.box 76 (.agg 76 [.row 2,.row 3,.row 5]),.row 23 r.2.1,(.rowD 73 78 none 4 r.2.2.1 none),(.tok 78 r.2.2.2.1),.row 74 r.2.2.2.2]:=
 fo hct Tryz.func59 rfl rfl anJ ((arA m a b c d e f).trans h)
theorem asJ m(hct:CtH m)(a:Dt)(b c d e:List Dt){r:Int×Bool×List Dt×List Dt×List Dt×List Dt}(h:i18 (m+1) a b c d e=some r):FX Tryz.prog 58 [.row 0,.dat 26 a,(.fn 59 [.ptr 1 [] 0])] [.row 74 b,.box 56 (.ptr 2 [] 0),.box 76 (.agg 76 [.row 3,.row 4,.row 0]),.row 23 c,(.rowD 73 78 none 5 d none),(.tok 78 e)] (.tup [.dat 3 (.int r.1),.dat 4 (.bool r.2.1)]) [.row 74 r.2.2.1,.box 56 (.ptr 2 [] 0),.box 76 (.agg 76 [.row 3,.row 4,.row 0]),.row 23 r.2.2.2.1,(.rowD 73 78 none 5 r.2.2.2.2.1 none),(.tok 78 r.2.2.2.2.2)]:=
 fo hct Tryz.func58 rfl rfl anK ((arB m a b c d e).trans h)
theorem asK m(hct:CtH m)(a b:Dt)(c d e f:List Dt){r:Int×List Dt×List Dt×List Dt×List Dt}(h:i17 (m+1) a b c d e f=some r):FX Tryz.prog 38 [.ptr 0 [] 0,.dat 35 a,.dat 26 b] [.box 76 (.agg 76 [.row 1,.row 2,.row 4]),.row 23 c,(.rowD 73 78 none 3 d none),(.tok 78 e),.row 74 f] (.dat 3 (.int r.1)) [.box 76 (.agg 76 [.row 5,.row 6,.row 8]),.gone,.gone,.gone,.gone,.row 23 r.2.1,(.rowD 73 78 none 7 r.2.2.1 none),(.tok 78 r.2.2.2.1),.row 74 r.2.2.2.2]:=
 fo hct Tryz.func38 rfl rfl anL ((arC m a b c d e f).trans h)
theorem KR m(hct:CtH m):FE 82 res1 zM (qw (m+1)):=fun a r h=>
 fo hct Tryz.func82 (dec:=d25) rfl rfl (SR.sim cZ) ((JK m a).trans h)
theorem xI m(hct:CtH m):FE 183 res1 aiV (gH (m+1)):=fun a b r h=>
 fo hct Tryz.func183 (dec:=d25) rfl rfl (SR.sim cZ) ((xG m a b).trans h)
theorem MB m(hct:CtH m):FE 23 res1 aq9 (pV (m+1)):=fun a b r h=>
 fo hct Tryz.func23 (dec:=d25) rfl rfl (SR.sim cZ) ((L6 m a b).trans h)
theorem asL m(hct:CtH m)(a:Dt)(b c d e:List Dt){r:List Dt×List Dt×List Dt×List Dt×List Dt}(h:i24 (m+1) a b c d e=some r):FX Tryz.prog 22 [.ptr 0 [] 0,.dat 35 a,.fn 23 []] [.box 76 (.agg 76 [.row 1,.row 2,.row 4]),.row 23 b,(.rowD 73 78 none 3 c none),(.tok 78 d),.row 74 e] (.dat 23 (.lst r.1)) [.box 76 (.agg 76 [.row 5,.row 6,.row 8]),.gone,.gone,.gone,.gone,.row 23 r.2.1,(.rowD 73 78 none 7 r.2.2.1 none),(.tok 78 r.2.2.2.1),.row 74 r.2.2.2.2]:=
 fo hct Tryz.func22 rfl rfl anM ((arD m a b c d e).trans h)
theorem R5 m(hct:CtH m):FE 71 res1 agJ (bZ (m+1)):=fun r h=>
 fo hct Tryz.func71 (dec:=d25) rfl rfl (SR.sim cZ) ((Rn m).trans h)
theorem R6 m(hct:CtH m):FE 74 fP Jw (bD (m+1)):=fun a b r h=>
 fo hct Tryz.func74 (dec:=d32) rfl rfl (SR.sim dZ) ((Ro m a b).trans h)
theorem PS m(hct:CtH m):FE 73 fP GJ (mV (m+1)):=fun a r h=>
 fo hct Tryz.func73 (dec:=d32) rfl rfl (SR.sim dZ) ((Oq m a).trans h)
theorem R7 m(hct:CtH m):FE 72 res2 zM (oP (m+1)):=fun a r h=>
 fo hct Tryz.func72 (dec:=d28) rfl rfl (SR.sim iV) ((Rp m a).trans h)
theorem PU m(hct:CtH m):FE 75 YQ ql (kJ (m+1)):=fun a r h=>
 fo hct Tryz.func75 (dec:=d58) rfl rfl (SR.sim V4) ((Ot m a).trans h)
theorem MC m(hct:CtH m):FE 50 res2 GK (eD (m+1)):=fun a b r h=>
 fo hct Tryz.func50 (dec:=d28) rfl rfl (SR.sim iV) ((L8 m a b).trans h)
theorem PV m(hct:CtH m):FE 32 res2 ql (mW (m+1)):=fun a r h=>
 fo hct Tryz.func32 (dec:=d28) rfl rfl (SR.sim iV) ((Ou m a).trans h)
theorem PW m(hct:CtH m):FE 51 res2 GK (iN (m+1)):=fun a b r h=>
 fo hct Tryz.func51 (dec:=d28) rfl rfl (SR.sim iV) ((Ov m a b).trans h)
theorem PX m(hct:CtH m):FE 33 res2 ql (mX (m+1)):=fun a r h=>
 fo hct Tryz.func33 (dec:=d28) rfl rfl (SR.sim iV) ((Ow m a).trans h)
theorem R8 m(hct:CtH m):FE 76 fP aiW (qN (m+1)):=fun a b c r h=>
 fo hct Tryz.func76 (dec:=d32) rfl rfl (SR.sim dZ) ((Rq m a b c).trans h)
theorem R9 m(hct:CtH m):FE 52 fP vB (qO (m+1)):=fun a r h=>
 fo hct Tryz.func52 (dec:=d32) rfl rfl (SR.sim dZ) ((Rt m a).trans h)
theorem Sb m(hct:CtH m):FE 77 fP vB (nD (m+1)):=fun a r h=>
 fo hct Tryz.func77 (dec:=d32) rfl rfl (SR.sim dZ) ((Ru m a).trans h)
theorem ME m(hct:CtH m):FE 34 fP YI (bC (m+1)):=fun a b r h=>
 fo hct Tryz.func34 (dec:=d32) rfl rfl (SR.sim dZ) ((L9 m a b).trans h)
theorem MF m(hct:CtH m):FE 53 fP YI (dz (m+1)):=fun a b r h=>
 fo hct Tryz.func53 (dec:=d32) rfl rfl (SR.sim dZ) ((Ma m a b).trans h)
theorem PY m(hct:CtH m):FE 15 fP ql (iO (m+1)):=fun a r h=>
 fo hct Tryz.func15 (dec:=d32) rfl rfl (SR.sim dZ) ((Ox m a).trans h)
theorem Sc m(hct:CtH m):FE 48 LY VY (qP (m+1)):=fun a r h=>
 fo hct Tryz.func48 (dec:=d13) rfl rfl (SR.sim GR) ((Rv m a).trans h)
theorem PZ m(hct:CtH m):FE 28 anx aiR (fE (m+1)):=fun a b c r h=>
 fo hct Tryz.func28 (dec:=d30) rfl rfl (SR.sim anF) ((Oy m a b c).trans h)
theorem P5 m(hct:CtH m):FE 11 LY VY (gU (m+1)):=fun a r h=>
 fo hct Tryz.func11 (dec:=d13) rfl rfl (SR.sim GR) ((Oz m a).trans h)
theorem ER m(hct:CtH m):FE 4 fP aiQ (tJ (m+1)):=fun a b r h=>
 fo hct Tryz.func4 (dec:=d32) rfl rfl (SR.sim dZ) ((Rw m a b).trans h)
theorem P6 m(hct:CtH m):FE 134 fP ql (oU (m+1)):=fun a r h=>
 fo hct Tryz.func134 (dec:=d32) rfl rfl (SR.sim dZ) ((OA m a).trans h)
theorem Sd m(hct:CtH m):FE 130 res2 zM (oV (m+1)):=fun a r h=>
 fo hct Tryz.func130 (dec:=d28) rfl rfl (SR.sim iV) ((Rx m a).trans h)
theorem MG m(hct:CtH m):FE 129 fP zL (pW (m+1)):=fun a b r h=>
 fo hct Tryz.func129 (dec:=d32) rfl rfl (SR.sim dZ) ((Mc m a b).trans h)
theorem MH m(hct:CtH m):FE 109 res1 YK (bU (m+1)):=fun a b r h=>
 fo hct Tryz.func109 (dec:=d25) rfl rfl (SR.sim cZ) ((Md m a b).trans h)
theorem vw m(hct:CtH m):FE 116 res1 zM (bM (m+1)):=fun a r h=>
 fo hct Tryz.func116 (dec:=d25) rfl rfl (SR.sim cZ) ((vg m a).trans h)
theorem Sg m(hct:CtH m):FE 89 res1 ql (nE (m+1)):=fun a r h=>
 fo hct Tryz.func89 (dec:=d25) rfl rfl (SR.sim cZ) ((Ry m a).trans h)
theorem Si m(hct:CtH m):FE 90 fP ql (fQ (m+1)):=fun a r h=>
 fo hct Tryz.func90 (dec:=d32) rfl rfl (SR.sim dZ) ((Rz m a).trans h)
theorem KS m(hct:CtH m):FE 93 res1 YM (bO (m+1)):=fun a r h=>
 fo hct Tryz.func93 (dec:=d25) rfl rfl (SR.sim cZ) ((Ko m a).trans h)
theorem P7 m(hct:CtH m):FE 92 res1 Br (mY (m+1)):=fun a b r h=>
 fo hct Tryz.func92 (dec:=d25) rfl rfl (SR.sim cZ) ((OC m a b).trans h)
theorem Xd m(hct:CtH m):FE 95 res1 zM (dP (m+1)):=fun a r h=>
 fo hct Tryz.func95 (dec:=d25) rfl rfl (SR.sim cZ) ((Wd m a).trans h)
theorem KU m(hct:CtH m):FE 97 anz aiX (gF (m+1)):=fun a b r h=>
 fo hct Tryz.func97 (dec:=d97) rfl rfl (SR.sim anG) ((Kq m a b).trans h)
theorem Sj m(hct:CtH m):FE 96 res1 vB (jR (m+1)):=fun a r h=>
 fo hct Tryz.func96 (dec:=d25) rfl rfl (SR.sim cZ) ((RB m a).trans h)
theorem P8 m(hct:CtH m):FE 98 res1 aiY (mZ (m+1)):=fun a b c r h=>
 fo hct Tryz.func98 (dec:=d25) rfl rfl (SR.sim cZ) ((OD m a b c).trans h)
theorem Sk m(hct:CtH m):FE 99 res1 aiZ (lI (m+1)):=fun a b r h=>
 fo hct Tryz.func99 (dec:=d25) rfl rfl (SR.sim cZ) ((RF m a b).trans h)
theorem KV m(hct:CtH m):FE 100 res1 Jw (jD (m+1)):=fun a b r h=>
 fo hct Tryz.func100 (dec:=d25) rfl rfl (SR.sim cZ) ((Ku m a b).trans h)
theorem KW m(hct:CtH m):FE 104 res1 ai0 (dS (m+1)):=fun a b c r h=>
 fo hct Tryz.func104 (dec:=d25) rfl rfl (SR.sim cZ) ((Kv m a b c).trans h)
theorem MI m(hct:CtH m):FE 151 fP vB (nG (m+1)):=fun a r h=>
 fo hct Tryz.func151 (dec:=d32) rfl rfl (SR.sim dZ) ((Me m a).trans h)
theorem aov m(hct:CtH m):FE 160 res2 YO (i107 (m+1)):=fun a r h=>
 fo hct Tryz.func160 (dec:=d28) rfl rfl (SR.sim iV) ((anX m a).trans h)
theorem aow m(hct:CtH m):FE 150 fP YO (agH (m+1)):=fun a r h=>
 fo hct Tryz.func150 (dec:=d32) rfl rfl (SR.sim dZ) ((anY m a).trans h)
theorem Sl m(hct:CtH m):FE 131 fP GJ (nH (m+1)):=fun a r h=>
 fo hct Tryz.func131 (dec:=d32) rfl rfl (SR.sim dZ) ((RH m a).trans h)
theorem P9 m(hct:CtH m):FE 132 fP vB (kK (m+1)):=fun a r h=>
 fo hct Tryz.func132 (dec:=d32) rfl rfl (SR.sim dZ) ((OH m a).trans h)
theorem BO m(hct:CtH m):FE 133 fP GJ (eH (m+1)):=fun a r h=>
 fo hct Tryz.func133 (dec:=d32) rfl rfl (SR.sim dZ) ((BJ m a).trans h)
theorem Qa m(hct:CtH m):FE 135 res1 ql (gV (m+1)):=fun a r h=>
 fo hct Tryz.func135 (dec:=d25) rfl rfl (SR.sim cZ) ((OJ m a).trans h)
theorem Ga m(hct:CtH m):FE 118 res1 YL (dY (m+1)):=fun a b r h=>
 fo hct Tryz.func118 (dec:=d25) rfl rfl (SR.sim cZ) ((FH m a b).trans h)
theorem Qb m(hct:CtH m):FE 136 fP ql (dV (m+1)):=fun a r h=>
 fo hct Tryz.func136 (dec:=d32) rfl rfl (SR.sim dZ) ((OM m a).trans h)
theorem KX m(hct:CtH m):FE 137 res2 zL (iK (m+1)):=fun a b r h=>
 fo hct Tryz.func137 (dec:=d28) rfl rfl (SR.sim iV) ((Kw m a b).trans h)
theorem Gb m(hct:CtH m):FE 111 res1 Br (dO (m+1)):=fun a b r h=>
 fo hct Tryz.func111 (dec:=d25) rfl rfl (SR.sim cZ) ((FI m a b).trans h)
theorem MJ m(hct:CtH m):FE 138 res1 YM (bP (m+1)):=fun a r h=>
 fo hct Tryz.func138 (dec:=d25) rfl rfl (SR.sim cZ) ((Mf m a).trans h)
theorem Gc m(hct:CtH m):FE 112 res1 zL (jd (m+1)):=fun a b r h=>
 fo hct Tryz.func112 (dec:=d25) rfl rfl (SR.sim cZ) ((FJ m a b).trans h)
theorem Sm m(hct:CtH m):FE 113 res1 Br (gI (m+1)):=fun a b r h=>
 fo hct Tryz.func113 (dec:=d25) rfl rfl (SR.sim cZ) ((RI m a b).trans h)
theorem Qc m(hct:CtH m):FE 143 fP Jw (jE (m+1)):=fun a b r h=>
 fo hct Tryz.func143 (dec:=d32) rfl rfl (SR.sim dZ) ((OO m a b).trans h)
theorem MK m(hct:CtH m):FE 144 res1 YN (kL (m+1)):=fun a b r h=>
 fo hct Tryz.func144 (dec:=d25) rfl rfl (SR.sim cZ) ((Mg m a b).trans h)
theorem ML m(hct:CtH m):FE 115 res1 Br (dI (m+1)):=fun a b r h=>
 fo hct Tryz.func115 (dec:=d25) rfl rfl (SR.sim cZ) ((Mh m a b).trans h)
theorem Qd m(hct:CtH m):FE 146 res2 GK (kM (m+1)):=fun a b r h=>
 fo hct Tryz.func146 (dec:=d28) rfl rfl (SR.sim iV) ((OP m a b).trans h)
theorem aox m(hct:CtH m)(a:Dt)(b c:Int){r:Int×Int}(h:i127 (m+1) a b c=some r):FX Tryz.prog 155 [.dat 26 a,(.fn 156 [.ptr 0 [] 0,.ptr 1 [] 0])] [.box 3 (.dat 3 (.int b)),.box 3 (.dat 3 (.int c))] (.tup []) [.box 3 (.dat 3 (.int r.1)),.box 3 (.dat 3 (.int r.2))]:=
 fo hct Tryz.func155 rfl rfl Y2 ((an0 m a b c).trans h)
theorem aoy m(hct:CtH m)(a:Dt)(b c:Int){r:Bool×Int×Int}(h:Fe (m+1) a b c=some r):FX Tryz.prog 156 [.dat 26 a,.ptr 0 [] 0,.ptr 1 [] 0] [.box 3 (.dat 3 (.int b)),.box 3 (.dat 3 (.int c))] (.dat 4 (.bool r.1)) [.box 3 (.dat 3 (.int r.2.1)),.box 3 (.dat 3 (.int r.2.2))]:=
 fo hct Tryz.func156 rfl rfl Y3 ((an1 m a b c).trans h)
theorem Qe m(hct:CtH m):FE 119 res2 ql (ng (m+1)):=fun a r h=>
 fo hct Tryz.func119 (dec:=d28) rfl rfl (SR.sim iV) ((OU m a).trans h)
theorem Qf m(hct:CtH m):FE 147 res2 GK (kN (m+1)):=fun a b r h=>
 fo hct Tryz.func147 (dec:=d28) rfl rfl (SR.sim iV) ((OV m a b).trans h)
theorem aoz m(hct:CtH m)(a:Dt)(b c:Int){r:Int×Int}(h:agI (m+1) a b c=some r):FX Tryz.prog 155 [.dat 26 a,(.fn 157 [.ptr 0 [] 0,.ptr 1 [] 0])] [.box 3 (.dat 3 (.int b)),.box 3 (.dat 3 (.int c))] (.tup []) [.box 3 (.dat 3 (.int r.1)),.box 3 (.dat 3 (.int r.2))]:=
 fo hct Tryz.func155 rfl rfl Y2 ((an2 m a b c).trans h)
theorem aoA m(hct:CtH m)(a:Dt)(b c:Int){r:Bool×Int×Int}(h:i130 (m+1) a b c=some r):FX Tryz.prog 157 [.dat 26 a,.ptr 0 [] 0,.ptr 1 [] 0] [.box 3 (.dat 3 (.int b)),.box 3 (.dat 3 (.int c))] (.dat 4 (.bool r.1)) [.box 3 (.dat 3 (.int r.2.1)),.box 3 (.dat 3 (.int r.2.2))]:=
 fo hct Tryz.func157 rfl rfl Y3 ((an3 m a b c).trans h)
theorem Qg m(hct:CtH m):FE 120 res2 ql (ni (m+1)):=fun a r h=>
 fo hct Tryz.func120 (dec:=d28) rfl rfl (SR.sim iV) ((OY m a).trans h)
theorem Z5 m(hct:CtH m):FE 122 res2 Od (mJ (m+1)):=fun a b r h=>
 fo hct Tryz.func122 (dec:=d28) rfl rfl (SR.sim iV) ((Zl m a b).trans h)
theorem Xe m(hct:CtH m):FE 88 anA Od (qZ (m+1)):=fun a b r h=>
 fo hct Tryz.func88 (dec:=d89) rfl rfl (SR.sim anH) ((Wp m a b).trans h)
theorem Z6 m(hct:CtH m):FE 68 res1 YK (gW (m+1)):=fun a b r h=>
 fo hct Tryz.func68 (dec:=d25) rfl rfl (SR.sim cZ) ((Zm m a b).trans h)
theorem Qh m(hct:CtH m):FE 123 fP ai2 (iP (m+1)):=fun a b r h=>
 fo hct Tryz.func123 (dec:=d32) rfl rfl (SR.sim dZ) ((OZ m a b).trans h)
theorem MN m(hct:CtH m):FE 94 res1 CS (kP (m+1)):=fun a r h=>
 fo hct Tryz.func94 (dec:=d25) rfl rfl (SR.sim cZ) ((Mi m a).trans h)
theorem Sn m(hct:CtH m):FE 102 res1 CS (o9 (m+1)):=fun a r h=>
 fo hct Tryz.func102 (dec:=d25) rfl rfl (SR.sim cZ) ((RJ m a).trans h)
theorem Ip m(hct:CtH m):FE 124 res2 zL (eO (m+1)):=fun a b r h=>
 fo hct Tryz.func124 (dec:=d28) rfl rfl (SR.sim iV) ((HY m a b).trans h)
theorem MO m(hct:CtH m):FE 91 res1 Br (fJ (m+1)):=fun a b r h=>
 fo hct Tryz.func91 (dec:=d25) rfl rfl (SR.sim cZ) ((Mj m a b).trans h)
theorem Qi m(hct:CtH m):FE 125 fP Jw (jF (m+1)):=fun a b r h=>
 fo hct Tryz.func125 (dec:=d32) rfl rfl (SR.sim dZ) ((O0 m a b).trans h)
theorem Iq m(hct:CtH m):FE 101 fP YN (jW (m+1)):=fun a b r h=>
 fo hct Tryz.func101 (dec:=d32) rfl rfl (SR.sim dZ) ((HZ m a b).trans h)
theorem Xf m(hct:CtH m):FE 126 res1 YP (oq (m+1)):=fun a b c r h=>
 fo hct Tryz.func126 (dec:=d25) rfl rfl (SR.sim cZ) ((Wt m a b c).trans h)
theorem Qj m(hct:CtH m):FE 103 res1 CS (nu (m+1)):=fun a r h=>
 fo hct Tryz.func103 (dec:=d25) rfl rfl (SR.sim cZ) ((O1 m a).trans h)
theorem Qk m(hct:CtH m):FE 70 res1 YL (aV (m+1)):=fun a b r h=>
 fo hct Tryz.func70 (dec:=d25) rfl rfl (SR.sim cZ) ((O5 m a b).trans h)
theorem Sq m(hct:CtH m):FE 47 res1 YJ (bI (m+1)):=fun a b c r h=>
 fo hct Tryz.func47 (dec:=d25) rfl rfl (SR.sim cZ) ((RL m a b c).trans h)
theorem Sr m(hct:CtH m):FE 69 res1 YJ (dD (m+1)):=fun a b c r h=>
 fo hct Tryz.func69 (dec:=d25) rfl rfl (SR.sim cZ) ((RN m a b c).trans h)
theorem Sv m(hct:CtH m):FE 24 res1 abS (pz (m+1)):=fun a b r h=>
 fo hct Tryz.func24 (dec:=d25) rfl rfl (SR.sim cZ) ((RO m a b).trans h)
theorem Ir m(hct:CtH m):FE 7 res1 abS (vQ (m+1)):=fun a b r h=>
 fo hct Tryz.func7 (dec:=d25) rfl rfl (SR.sim cZ) ((Ww m a b).trans h)
theorem Ql m(hct:CtH m)(a:Dt){r:Int×Int×ByteArray×List Dt×List Dt}(h:dw (m+1) a=some r):FX Tryz.prog 153 [.dat 26 a] [] (.agg 26 [.dat 3 (.int r.1),.dat 3 (.int r.2.1),.dat 9 (.str r.2.2.1),.row 0,.row 1]) [.row 23 r.2.2.2.1,.row 24 r.2.2.2.2]:=
 fo hct Tryz.func153 rfl rfl ajz ((O6 m a).trans h)
theorem Sw m(hct:CtH m):FE 154 res2 Od (qQ (m+1)):=fun a b r h=>
 fo hct Tryz.func154 (dec:=d28) rfl rfl (SR.sim iV) ((RP m a b).trans h)
theorem Xg m(hct:CtH m):FE 145 res1 YP (tN (m+1)):=fun a b c r h=>
 fo hct Tryz.func145 (dec:=d25) rfl rfl (SR.sim cZ) ((Wx m a b c).trans h)
theorem Sy m(hct:CtH m):FE 117 res1 CS (pG (m+1)):=fun a r h=>
 fo hct Tryz.func117 (dec:=d25) rfl rfl (SR.sim cZ) ((RQ m a).trans h)
theorem MP m(hct:CtH m):FE 159 fP vB (nJ (m+1)):=fun a r h=>
 fo hct Tryz.func159 (dec:=d32) rfl rfl (SR.sim dZ) ((Ml m a).trans h)
theorem Qm m(hct:CtH m):FE 121 fP ql (bJ (m+1)):=fun a r h=>
 fo hct Tryz.func121 (dec:=d32) rfl rfl (SR.sim dZ) ((O8 m a).trans h)
theorem Dr m(hct:CtH m):FE 149 fP ai1 (bH (m+1)):=fun a r h=>
 fo hct Tryz.func149 (dec:=d32) rfl rfl (SR.sim dZ) ((Da m a).trans h)
theorem Qn m(hct:CtH m):FE 86 fP ql (kU (m+1)):=fun a r h=>
 fo hct Tryz.func86 (dec:=d32) rfl rfl (SR.sim dZ) ((O9 m a).trans h)
theorem Xh m(hct:CtH m):FE 67 res1 Oc (cK (m+1)):=fun a b c r h=>
 fo hct Tryz.func67 (dec:=d25) rfl rfl (SR.sim cZ) ((WL m a b c).trans h)
theorem MQ m(hct:CtH m):FE 85 res1 Oc (fA (m+1)):=fun a b c r h=>
 fo hct Tryz.func85 (dec:=d25) rfl rfl (SR.sim cZ) ((Mq m a b c).trans h)
theorem Xi m(hct:CtH m):FE 110 res1 Oc (d9 (m+1)):=fun a b c r h=>
 fo hct Tryz.func110 (dec:=d25) rfl rfl (SR.sim cZ) ((WM m a b c).trans h)
theorem Iu m(hct:CtH m):FE 108 LY VY (j3 (m+1)):=fun a r h=>
 fo hct Tryz.func108 (dec:=d13) rfl rfl (SR.sim GR) ((Ii m a).trans h)
theorem asM m(hct:CtH m)(a:Dt)(b c:Int){r:Int×Int}(h:i52 (m+1) a b c=some r):FX Tryz.prog 84 [.dat 29 a,.dat 3 (.int b),.ptr 0 [] 0] [.box 3 (.dat 3 (.int c))] (.dat 46 (.int r.1)) [.box 3 (.dat 3 (.int r.2))]:=
 fo hct Tryz.func84 rfl rfl anO ((asi m a b c).trans h)
theorem Sz m(hct:CtH m):FE 65 LY VY (qV (m+1)):=fun a r h=>
 fo hct Tryz.func65 (dec:=d13) rfl rfl (SR.sim GR) ((RS m a).trans h)
theorem Xj m(hct:CtH m):FE 42 res1 abS (ow (m+1)):=fun a b r h=>
 fo hct Tryz.func42 (dec:=d25) rfl rfl (SR.sim cZ) ((WQ m a b).trans h)
theorem asN m(hct:CtH m)(a:Dt)(b:List Dt){r:List Dt×List Dt×List Dt×List Dt}(h:i15 (m+1) a b=some r):FX Tryz.prog 21 [.dat 35 a,.dat 23 (.lst b)] [] (.ptr 0 [] 0) [.box 76 (.agg 76 [.row 1,.row 2,.row 4]),.row 23 r.1,(.rowD 73 78 none 3 r.2.1 none),(.tok 78 r.2.2.1),.row 74 r.2.2.2]:=
 fo hct Tryz.func21 rfl rfl anP ((asj m a b).trans h)
theorem Iw m(hct:CtH m):FE 6 YQ aiQ (vR (m+1)):=fun a b r h=>
 fo hct Tryz.func6 (dec:=d58) rfl rfl (SR.sim V4) ((WR m a b).trans h)
theorem aoB(m:Nat)(hct:∀k,k<m->∀R,CallOK (R:=R) Tryz.prog (ct k)){R:Type}{args:List AV}{objs:List Ob}{K:Res->Option R}{r:R}(h:atY m args objs K=some r):∃q:Res,K q=some r∧FX Tryz.prog 45 args objs q.1 q.2∧HasBody Tryz.prog 45:=abD h
theorem aoC m(hct:CtK m)(h:ara m args objs K=some r):FQ 12 args objs K r:=by
 unfold ara at h;split at h
 ·rename_i l hl;obtain⟨x,hx,hk⟩:=ak.1 h;obtain⟨a,b⟩:=Y1 hl;cases m with
  |zero=>cases hx
  |succ m=>exact⟨_,hk,(asH m (hct m (Nat.lt_succ_self m)) _ _ hx).conv a b,⟨_,Tryz.func12,rfl,by decide⟩⟩
 cases h
theorem aoD m(hct:CtK m)(h:arb m args objs K=some r):FQ 29 args objs K r:=by
 unfold arb at h;split at h
 ·rename_i l hl;obtain⟨x,hx,hk⟩:=ak.1 h;obtain⟨a,b⟩:=Y1 hl;cases m with
  |zero=>cases hx
  |succ m=>exact⟨_,hk,(asG m (hct m (Nat.lt_succ_self m)) _ _ hx).conv a b,⟨_,Tryz.func29,rfl,by decide⟩⟩
 cases h
theorem aoE m(hct:CtK m)(h:ard m args objs K=some r):FQ 13 args objs K r:=by
 unfold ard at h;split at h
 ·rename_i l hl;obtain⟨x,hx,hk⟩:=ak.1 h;obtain⟨a,b⟩:=ajg hl;cases m with
  |zero=>cases hx
  |succ m=>exact⟨_,hk,(asF m (hct m (Nat.lt_succ_self m)) _ _ hx).conv a b,⟨_,Tryz.func13,rfl,by decide⟩⟩
 cases h
theorem aoF m(hct:CtK m)(h:arf m args objs K=some r):FQ 21 args objs K r:=by
 unfold arf at h;split at h
 ·rename_i l hl;obtain⟨x,hx,hk⟩:=ak.1 h;obtain⟨a,b⟩:=DY hl;cases m with
  |zero=>cases hx
  |succ m=>exact⟨_,hk,(asN m (hct m (Nat.lt_succ_self m)) _ _ hx).conv a b,⟨_,Tryz.func21,rfl,by decide⟩⟩
 cases h
theorem aoG m(hct:CtK m)(h:arh m args objs K=some r):FQ 38 args objs K r:=by
 unfold arh at h;split at h
 ·rename_i l hl;obtain⟨x,hx,hk⟩:=ak.1 h;obtain⟨a,b⟩:=ajk hl;cases m with
  |zero=>cases hx
  |succ m=>exact⟨_,hk,(asK m (hct m (Nat.lt_succ_self m)) _ _ _ _ _ _ hx).conv a b,⟨_,Tryz.func38,rfl,by decide⟩⟩
 cases h
theorem aoH m(hct:CtK m)(h:ari m args objs K=some r):FQ 58 args objs K r:=by
 unfold ari at h;split at h
 ·rename_i l hl;obtain⟨x,hx,hk⟩:=ak.1 h;obtain⟨a,b⟩:=ajm hl;cases m with
  |zero=>cases hx
  |succ m=>exact⟨_,hk,(asJ m (hct m (Nat.lt_succ_self m)) _ _ _ _ _ hx).conv a b,⟨_,Tryz.func58,rfl,by decide⟩⟩
 cases h
theorem aoI m(hct:CtK m)(h:arj m args objs K=some r):FQ 59 args objs K r:=by
 unfold arj at h;split at h
 ·rename_i l hl;obtain⟨x,hx,hk⟩:=ak.1 h;obtain⟨a,b⟩:=ajo hl;cases m with
  |zero=>cases hx
  |succ m=>exact⟨_,hk,(asI m (hct m (Nat.lt_succ_self m)) _ _ _ _ _ _ hx).conv a b,⟨_,Tryz.func59,rfl,by decide⟩⟩
 cases h
theorem aoJ m(hct:CtK m)(h:ark m args objs K=some r):FQ 61 args objs K r:=by
 unfold ark at h;split at h
 ·rename_i l hl;obtain⟨x,hx,hk⟩:=ak.1 h;obtain⟨a,b⟩:=ajq hl;exact⟨_,hk,(af6 hx).conv a b,⟨_,Tryz.func61,rfl,by decide⟩⟩
 cases h
theorem aoK m(hct:CtK m)(h:arl m args objs K=some r):FQ 22 args objs K r:=by
 unfold arl at h;split at h
 ·rename_i l hl;obtain⟨x,hx,hk⟩:=ak.1 h;obtain⟨a,b⟩:=ajs hl;cases m with
  |zero=>cases hx
  |succ m=>exact⟨_,hk,(asL m (hct m (Nat.lt_succ_self m)) _ _ _ _ _ hx).conv a b,⟨_,Tryz.func22,rfl,by decide⟩⟩
 cases h
theorem aoL m(hct:CtK m)(h:arn m args objs K=some r):FQ 84 args objs K r:=by
 unfold arn at h;split at h
 ·rename_i l hl;obtain⟨x,hx,hk⟩:=ak.1 h;obtain⟨a,b⟩:=aju hl;cases m with
  |zero=>cases hx
  |succ m=>exact⟨_,hk,(asM m (hct m (Nat.lt_succ_self m)) _ _ _ hx).conv a b,⟨_,Tryz.func84,rfl,by decide⟩⟩
 cases h
theorem alY m(hct:CtK m)(h:ajv m args objs K=some r):FQ 153 args objs K r:=by
 unfold ajv at h;split at h
 ·rename_i l hl;obtain⟨x,hx,hk⟩:=ak.1 h;obtain⟨a,b⟩:=aji hl;cases m with
  |zero=>cases hx
  |succ m=>exact⟨_,hk,(Ql m (hct m (Nat.lt_succ_self m)) _ hx).conv a b,⟨_,Tryz.func153,rfl,by decide⟩⟩
 cases h
theorem alZ m(hct:CtK m)(h:ajw m args objs K=some r):FQ 155 args objs K r:=by
 unfold ajw at h;split at h
 ·rename_i l hl;obtain⟨x,hx,hk⟩:=ak.1 h;obtain⟨a,b⟩:=agK hl;cases m with
  |zero=>cases hx
  |succ m=>exact⟨_,hk,(aox m (hct m (Nat.lt_succ_self m)) _ _ _ hx).conv a b,⟨_,Tryz.func155,rfl,by decide⟩⟩
 split at h
 ·rename_i l hl;obtain⟨x,hx,hk⟩:=ak.1 h;obtain⟨a,b⟩:=agL hl;cases m with
  |zero=>cases hx
  |succ m=>exact⟨_,hk,(aoz m (hct m (Nat.lt_succ_self m)) _ _ _ hx).conv a b,⟨_,Tryz.func155,rfl,by decide⟩⟩
 cases h
theorem al0 m(hct:CtK m)(h:ajx m args objs K=some r):FQ 156 args objs K r:=by
 unfold ajx at h;split at h
 ·rename_i l hl;obtain⟨x,hx,hk⟩:=ak.1 h;obtain⟨a,b⟩:=TF hl;cases m with
  |zero=>cases hx
  |succ m=>exact⟨_,hk,(aoy m (hct m (Nat.lt_succ_self m)) _ _ _ hx).conv a b,⟨_,Tryz.func156,rfl,by decide⟩⟩
 cases h
theorem al1 m(hct:CtK m)(h:ajy m args objs K=some r):FQ 157 args objs K r:=by
 unfold ajy at h;split at h
 ·rename_i l hl;obtain⟨x,hx,hk⟩:=ak.1 h;obtain⟨a,b⟩:=TF hl;cases m with
  |zero=>cases hx
  |succ m=>exact⟨_,hk,(aoA m (hct m (Nat.lt_succ_self m)) _ _ _ hx).conv a b,⟨_,Tryz.func157,rfl,by decide⟩⟩
 cases h
end
theorem asO m(ck:CtK m)(f:FuncId)(e:Ent):ctE m f=some e->EOK Tryz.prog f e:=
 .st (fe m ck ad8 ⟨_,Tryz.func4,rfl,by decide⟩ ER (fun _ _=>rfl))<|
 .st ⟨VZ,fun r h=>TD h,⟨_,Tryz.func5,rfl,by decide⟩⟩<|
 .st (fe m ck ad8 ⟨_,Tryz.func6,rfl,by decide⟩ Iw (fun _ _=>rfl))<|
 .st (fe m ck V3 ⟨_,Tryz.func7,rfl,by decide⟩ Ir (fun _ _=>rfl))<|
 .st (fe m ck DX ⟨_,Tryz.func10,rfl,by decide⟩ Ao (fun _ _=>rfl))<|
 .st (fe m ck M9 ⟨_,Tryz.func11,rfl,by decide⟩ P5 (fun _=>rfl))<|
 .st (fe m ck anB ⟨_,Tryz.func14,rfl,by decide⟩ PN (fun _=>rfl))<|
 .st (fe m ck lK ⟨_,Tryz.func15,rfl,by decide⟩ PY (fun _=>rfl))<|
 .st (fe m ck V3 ⟨_,Tryz.func42,rfl,by decide⟩ Xj (fun _ _=>rfl))<|
 .st (fe m ck DX ⟨_,Tryz.func60,rfl,by decide⟩ KQ (fun _ _=>rfl))<|
 .st (fe m ck anC ⟨_,Tryz.func62,rfl,by decide⟩ PI (fun _=>rfl))<|
 .st (fe m ck anD ⟨_,Tryz.func43,rfl,by decide⟩ Xb (fun _ _ _=>rfl))<|
 .st (fe m ck lK ⟨_,Tryz.func44,rfl,by decide⟩ F8 (fun _=>rfl))<|
 .st (fe m ck anE ⟨_,Tryz.func23,rfl,by decide⟩ MB (fun _ _=>rfl))<|
 .st (fe m ck V3 ⟨_,Tryz.func24,rfl,by decide⟩ Sv (fun _ _=>rfl))<|
 .st (fe m ck zN ⟨_,Tryz.func26,rfl,by decide⟩ RY (fun _ _=>rfl))<|
 .st (fe m ck YR ⟨_,Tryz.func27,rfl,by decide⟩ PK (fun _ _=>rfl))<|
 .st (fe m ck ai3 ⟨_,Tryz.func28,rfl,by decide⟩ PZ (fun _ _ _=>rfl))<|
 .st (fe m ck GN ⟨_,Tryz.func30,rfl,by decide⟩ PL (fun _=>rfl))<|
 .st (fe m ck ai4 ⟨_,Tryz.func31,rfl,by decide⟩ RZ (fun _ _=>rfl))<|
 .st (fe m ck lK ⟨_,Tryz.func32,rfl,by decide⟩ PV (fun _=>rfl))<|
 .st (fe m ck lK ⟨_,Tryz.func33,rfl,by decide⟩ PX (fun _=>rfl))<|
 .st (fe m ck YS ⟨_,Tryz.func34,rfl,by decide⟩ ME (fun _ _=>rfl))<|
 .st (fe m ck M9 ⟨_,Tryz.func65,rfl,by decide⟩ Sz (fun _=>rfl))<|
 .st (fe m ck Oe ⟨_,Tryz.func67,rfl,by decide⟩ Xh (fun _ _ _=>rfl))<|
 .st (fe m ck lK ⟨_,Tryz.func66,rfl,by decide⟩ R3 (fun _=>rfl))<|
 .st (fe m ck zN ⟨_,Tryz.func78,rfl,by decide⟩ PO (fun _ _=>rfl))<|
 .st ⟨YR,fun _ _ r h=>ac8 h,⟨_,Tryz.func79,rfl,by decide⟩⟩<|
 .st (fe m ck ai5 ⟨_,Tryz.func63,rfl,by decide⟩ Io (fun _=>rfl))<|
 .st (fe m ck ai6 ⟨_,Tryz.func181,rfl,by decide⟩ Ba (fun _ _ _ _=>rfl))<|
 .st (fe m ck ai7 ⟨_,Tryz.func183,rfl,by decide⟩ xI (fun _ _=>rfl))<|
 .st (fe m ck lK ⟨_,Tryz.func46,rfl,by decide⟩ F9 (fun _=>rfl))<|
 .st (fe m ck YT ⟨_,Tryz.func47,rfl,by decide⟩ Sq (fun _ _ _=>rfl))<|
 .st (fe m ck M9 ⟨_,Tryz.func48,rfl,by decide⟩ Sc (fun _=>rfl))<|
 .st (fe m ck uS ⟨_,Tryz.func49,rfl,by decide⟩ R4 (fun _=>rfl))<|
 .st (fe m ck GQ ⟨_,Tryz.func50,rfl,by decide⟩ MC (fun _ _=>rfl))<|
 .st (fe m ck GQ ⟨_,Tryz.func51,rfl,by decide⟩ PW (fun _ _=>rfl))<|
 .st (fe m ck uS ⟨_,Tryz.func52,rfl,by decide⟩ R9 (fun _=>rfl))<|
 .st (fe m ck YS ⟨_,Tryz.func53,rfl,by decide⟩ MF (fun _ _=>rfl))<|
 .st (fe m ck M9 ⟨_,Tryz.func108,rfl,by decide⟩ Iu (fun _=>rfl))<|
 .st (fe m ck Oe ⟨_,Tryz.func85,rfl,by decide⟩ MQ (fun _ _ _=>rfl))<|
 .st (fe m ck lK ⟨_,Tryz.func86,rfl,by decide⟩ Qn (fun _=>rfl))<|
 .st (fe m ck VZ ⟨_,Tryz.func87,rfl,by decide⟩ Bb (rfl))<|
 .st (fe m ck zO ⟨_,Tryz.func105,rfl,by decide⟩ Xc (fun _=>rfl))<|
 .st (fe m ck CU ⟨_,Tryz.func56,rfl,by decide⟩ Im (fun _=>rfl))<|
 .st (fe m ck zO ⟨_,Tryz.func82,rfl,by decide⟩ KR (fun _=>rfl))<|
 .st (fe m ck VZ ⟨_,Tryz.func71,rfl,by decide⟩ R5 (rfl))<|
 .st (fe m ck YU ⟨_,Tryz.func68,rfl,by decide⟩ Z6 (fun _ _=>rfl))<|
 .st (fe m ck YT ⟨_,Tryz.func69,rfl,by decide⟩ Sr (fun _ _ _=>rfl))<|
 .st (fe m ck YV ⟨_,Tryz.func70,rfl,by decide⟩ Qk (fun _ _=>rfl))<|
 .st (fe m ck DX ⟨_,Tryz.func74,rfl,by decide⟩ R6 (fun _ _=>rfl))<|
 .st (fe m ck GN ⟨_,Tryz.func73,rfl,by decide⟩ PS (fun _=>rfl))<|
 .st (fe m ck zO ⟨_,Tryz.func72,rfl,by decide⟩ R7 (fun _=>rfl))<|
 .st (fe m ck lK ⟨_,Tryz.func75,rfl,by decide⟩ PU (fun _=>rfl))<|
 .st (fe m ck ai8 ⟨_,Tryz.func76,rfl,by decide⟩ R8 (fun _ _ _=>rfl))<|
 .st (fe m ck uS ⟨_,Tryz.func77,rfl,by decide⟩ Sb (fun _=>rfl))<|
 .st (fe m ck GN ⟨_,Tryz.func131,rfl,by decide⟩ Sl (fun _=>rfl))<|
 .st (fe m ck uS ⟨_,Tryz.func132,rfl,by decide⟩ P9 (fun _=>rfl))<|
 .st (fe m ck lK ⟨_,Tryz.func134,rfl,by decide⟩ P6 (fun _=>rfl))<|
 .st (fe m ck GN ⟨_,Tryz.func133,rfl,by decide⟩ BO (fun _=>rfl))<|
 .st (fe m ck zO ⟨_,Tryz.func130,rfl,by decide⟩ Sd (fun _=>rfl))<|
 .st (fe m ck zN ⟨_,Tryz.func129,rfl,by decide⟩ MG (fun _ _=>rfl))<|
 .st (fe m ck YU ⟨_,Tryz.func109,rfl,by decide⟩ MH (fun _ _=>rfl))<|
 .st (fe m ck Oe ⟨_,Tryz.func110,rfl,by decide⟩ Xi (fun _ _ _=>rfl))<|
 .st (fe m ck zP ⟨_,Tryz.func111,rfl,by decide⟩ Gb (fun _ _=>rfl))<|
 .st (fe m ck zN ⟨_,Tryz.func112,rfl,by decide⟩ Gc (fun _ _=>rfl))<|
 .st (fe m ck zP ⟨_,Tryz.func113,rfl,by decide⟩ Sm (fun _ _=>rfl))<|
 .st ⟨zP,fun _ _ r h=>K8 h,⟨_,Tryz.func114,rfl,by decide⟩⟩<|
 .st (fe m ck zP ⟨_,Tryz.func115,rfl,by decide⟩ ML (fun _ _=>rfl))<|
 .st (fe m ck zO ⟨_,Tryz.func116,rfl,by decide⟩ vw (fun _=>rfl))<|
 .st (fe m ck CU ⟨_,Tryz.func117,rfl,by decide⟩ Sy (fun _=>rfl))<|
 .st (fe m ck YV ⟨_,Tryz.func118,rfl,by decide⟩ Ga (fun _ _=>rfl))<|
 .st (fe m ck lK ⟨_,Tryz.func119,rfl,by decide⟩ Qe (fun _=>rfl))<|
 .st (fe m ck lK ⟨_,Tryz.func120,rfl,by decide⟩ Qg (fun _=>rfl))<|
 .st (fe m ck lK ⟨_,Tryz.func121,rfl,by decide⟩ Qm (fun _=>rfl))<|
 .st (fe m ck Og ⟨_,Tryz.func88,rfl,by decide⟩ Xe (fun _ _=>rfl))<|
 .st (fe m ck lK ⟨_,Tryz.func89,rfl,by decide⟩ Sg (fun _=>rfl))<|
 .st (fe m ck lK ⟨_,Tryz.func90,rfl,by decide⟩ Si (fun _=>rfl))<|
 .st (fe m ck zP ⟨_,Tryz.func91,rfl,by decide⟩ MO (fun _ _=>rfl))<|
 .st (fe m ck zP ⟨_,Tryz.func92,rfl,by decide⟩ P7 (fun _ _=>rfl))<|
 .st (fe m ck YW ⟨_,Tryz.func93,rfl,by decide⟩ KS (fun _=>rfl))<|
 .st (fe m ck CU ⟨_,Tryz.func94,rfl,by decide⟩ MN (fun _=>rfl))<|
 .st (fe m ck zO ⟨_,Tryz.func95,rfl,by decide⟩ Xd (fun _=>rfl))<|
 .st (fe m ck ai9 ⟨_,Tryz.func97,rfl,by decide⟩ KU (fun _ _=>rfl))<|
 .st (fe m ck uS ⟨_,Tryz.func96,rfl,by decide⟩ Sj (fun _=>rfl))<|
 .st (fe m ck aja ⟨_,Tryz.func98,rfl,by decide⟩ P8 (fun _ _ _=>rfl))<|
 .st (fe m ck ajb ⟨_,Tryz.func99,rfl,by decide⟩ Sk (fun _ _=>rfl))<|
 .st (fe m ck DX ⟨_,Tryz.func100,rfl,by decide⟩ KV (fun _ _=>rfl))<|
 .st (fe m ck YX ⟨_,Tryz.func101,rfl,by decide⟩ Iq (fun _ _=>rfl))<|
 .st (fe m ck CU ⟨_,Tryz.func102,rfl,by decide⟩ Sn (fun _=>rfl))<|
 .st (fe m ck CU ⟨_,Tryz.func103,rfl,by decide⟩ Qj (fun _=>rfl))<|
 .st (fe m ck ajc ⟨_,Tryz.func104,rfl,by decide⟩ KW (fun _ _ _=>rfl))<|
 .st (fe m ck YZ ⟨_,Tryz.func150,rfl,by decide⟩ aow (fun _=>rfl))<|
 .st (fe m ck YZ ⟨_,Tryz.func160,rfl,by decide⟩ aov (fun _=>rfl))<|
 .st (fe m ck uS ⟨_,Tryz.func151,rfl,by decide⟩ MI (fun _=>rfl))<|
 .st (fe m ck lK ⟨_,Tryz.func135,rfl,by decide⟩ Qa (fun _=>rfl))<|
 .st (fe m ck lK ⟨_,Tryz.func136,rfl,by decide⟩ Qb (fun _=>rfl))<|
 .st (fe m ck zN ⟨_,Tryz.func137,rfl,by decide⟩ KX (fun _ _=>rfl))<|
 .st (fe m ck YW ⟨_,Tryz.func138,rfl,by decide⟩ MJ (fun _=>rfl))<|
 .st (fe m ck DX ⟨_,Tryz.func143,rfl,by decide⟩ Qc (fun _ _=>rfl))<|
 .st (fe m ck YX ⟨_,Tryz.func144,rfl,by decide⟩ MK (fun _ _=>rfl))<|
 .st (fe m ck Y0 ⟨_,Tryz.func145,rfl,by decide⟩ Xg (fun _ _ _=>rfl))<|
 .st (fe m ck GQ ⟨_,Tryz.func146,rfl,by decide⟩ Qd (fun _ _=>rfl))<|
 .st (fe m ck GQ ⟨_,Tryz.func147,rfl,by decide⟩ Qf (fun _ _=>rfl))<|
 .st ⟨uS,fun _ r h=>Ph h,⟨_,Tryz.func148,rfl,by decide⟩⟩<|
 .st (fe m ck ajd ⟨_,Tryz.func149,rfl,by decide⟩ Dr (fun _=>rfl))<|
 .st (fe m ck Og ⟨_,Tryz.func122,rfl,by decide⟩ Z5 (fun _ _=>rfl))<|
 .st (fe m ck aje ⟨_,Tryz.func123,rfl,by decide⟩ Qh (fun _ _=>rfl))<|
 .st (fe m ck zN ⟨_,Tryz.func124,rfl,by decide⟩ Ip (fun _ _=>rfl))<|
 .st (fe m ck DX ⟨_,Tryz.func125,rfl,by decide⟩ Qi (fun _ _=>rfl))<|
 .st (fe m ck Y0 ⟨_,Tryz.func126,rfl,by decide⟩ Xf (fun _ _ _=>rfl))<|
 .st (fe m ck Og ⟨_,Tryz.func154,rfl,by decide⟩ Sw (fun _ _=>rfl))<|
 .st (fe m ck uS ⟨_,Tryz.func159,rfl,by decide⟩ MP (fun _=>rfl))<|
 nofun
theorem asP m(ck:CtK m){R:Type}{f:FuncId}{args:List AV}{objs:List Ob}{K:Res->Option R}{r:R}(h:ctX m f args objs K=some r):FQ f args objs K r:=by
 unfold ctX at h;rcases bQ h with⟨hb,a⟩| ⟨_,h⟩;·cases beq_eq hb;exact aoC m ck a
 rcases bQ h with⟨hb,a⟩| ⟨_,h⟩;·cases beq_eq hb;exact aoD m ck a
 rcases bQ h with⟨hb,a⟩| ⟨_,h⟩;·cases beq_eq hb;exact aoE m ck a
 rcases bQ h with⟨hb,a⟩| ⟨_,h⟩;·cases beq_eq hb;exact aoF m ck a
 rcases bQ h with⟨hb,a⟩| ⟨_,h⟩;·cases beq_eq hb;exact aoG m ck a
 rcases bQ h with⟨hb,a⟩| ⟨_,h⟩;·cases beq_eq hb;exact aoH m ck a
 rcases bQ h with⟨hb,a⟩| ⟨_,h⟩;·cases beq_eq hb;exact aoI m ck a
 rcases bQ h with⟨hb,a⟩| ⟨_,h⟩;·cases beq_eq hb;exact aoJ m ck a
 rcases bQ h with⟨hb,a⟩| ⟨_,h⟩;·cases beq_eq hb;exact aoK m ck a
 rcases bQ h with⟨hb,a⟩| ⟨_,h⟩;·cases beq_eq hb;exact aoL m ck a
 rcases bQ h with⟨hb,a⟩| ⟨_,h⟩;·cases beq_eq hb;exact alY m ck a
 rcases bQ h with⟨hb,a⟩| ⟨_,h⟩;·cases beq_eq hb;exact alZ m ck a
 rcases bQ h with⟨hb,a⟩| ⟨_,h⟩;·cases beq_eq hb;exact al0 m ck a
 rcases bQ h with⟨hb,a⟩| ⟨_,h⟩;·cases beq_eq hb;exact al1 m ck a
 rcases bQ h with⟨hb,a⟩| ⟨_,h⟩;·cases beq_eq hb;exact aoB m ck a
 cases h
theorem ct_ok(m:Nat):CtH m:=Nat.strongRecOn m fun m ck R f args objs K r h=>by
 unfold ct at h;split at h
 ·rename_i e he;exact(asO m ck f e he).run h
 ·exact asP m ck h
noncomputable def eZ(a b:Dt):Option Int:=bB 500000000000 a b
noncomputable def pJ(g:Dt)(l:List Dt):Option Bool:=tJ 500000000000 g l
noncomputable def xw(g:Dt)(l:List Dt):Option (List Dt):=vR 500000000000 g l
noncomputable def xA(e d:Dt):Option Dt:=vQ 500000000000 e d
theorem Iy{a b:Dt}{r:Int}(h:eZ a b=some r):FX Tryz.prog 10 [.dat 26 a,.dat 26 b] [] (.dat 3 (.int r)) []:=Ao 499999999999 (ct_ok 499999999999) a b r h
theorem Qo{g:Dt}{l:List Dt}{r:Bool}(h:pJ g l=some r):FX Tryz.prog 4 [.dat 35 g,.dat 23 (.lst l)] [] (.dat 4 (.bool r)) []:=ER 499999999999 (ct_ok 499999999999) g l r h
theorem SB{g:Dt}{l r:List Dt}(h:xw g l=some r):FX Tryz.prog 6 [.dat 35 g,.dat 23 (.lst l)] [] (.dat 23 (.lst r)) []:=Iw 499999999999 (ct_ok 499999999999) g l r h
theorem SC{e d r:Dt}(h:xA e d=some r):FX Tryz.prog 7 [.dat 29 e,.dat 26 d] [] (.dat 26 r) []:=Ir 499999999999 (ct_ok 499999999999) e d r h
end Go.Proofs.YtjibjkdalajaiaaGreatDoor
noncomputable section
namespace Go.Proofs.YtjibjkdalajaiaaGreatDoor.P2
open Go.Am Dt
def Nh:Dt:=agg [(str (ByteArray.mk (List.toArray [110]))),(int 2),(agg [(int 0),(lst []),(str (ByteArray.mk (List.toArray []))),(lst []),(agg [(int 0),(int 0),(str (ByteArray.mk (List.toArray []))),(lst []),(lst [])]),(int 0),(lst [])]),(lst []),(int 0)]
def i7:Nat->Dt->Dt->Option Bool
 |0,_,_=>none
 |  m+1,a0,a1=>
    ((eZ a0 a1).bind fun r0=>
    some (r0==0))
def i6_j3(m:Nat)(rec1:List Dt->Dt->Int->Int->Option Int)(x0:List Dt)(x1:Dt)(x2 x3:Int):Option Int:=
 rec1 x0 x1 x2 (IntKind.wrap .i64 (x3+1))
def i6_j2(m:Nat)(rec1:List Dt->Dt->Int->Int->Option Int)(x0:List Dt)(x1:Dt)(x2 x3:Int):Option Int:=
  ((idx x0 x3).bind fun v0=>
    ((i7 m v0 x1).bind fun r1=>
 (bif r1 then
 some x3
 else
 i6_j3 m rec1 x0 x1 x2 x3)))
def ap5(m:Nat):Option Int:=
 some (-1)
def i6_l1(m:Nat):Nat->List Dt->Dt->Int->Int->Option Int
 |0,_,_,_,_=>none
 |  M1+1,x0,x1,x2,x3=>
    (bif (decide (x3<x2))then
    i6_j2 m (i6_l1 m M1) x0 x1 x2 x3
 else
    ap5 m)
def i6:Nat->List Dt->Dt->Option Int
 |0,_,_=>none
 |  m+1,a0,a1=>
    (i6_l1 m (Nat.succ m) a0 a1 (List.length a0:Int) 0)
def i5:Nat->List Dt->Dt->Option Bool
 |0,_,_=>none
 |  m+1,a0,a1=>
    ((i6 m a0 a1).bind fun r0=>
    some (decide (0<=r0)))
def law33_GroupCounts_j4(m:Nat)(rec2:List Dt->List Dt->Int->Int->Dt->List Dt->Option Bool)(x0 x1:List Dt)(x2 x3:Int)(x4:Dt)(x5:List Dt):Option Bool:=
 rec2 x0 x1 x2 (IntKind.wrap .i64 (x3+1)) x4 x5
def law33_GroupCounts_j3(m:Nat)(rec2:List Dt->List Dt->Int->Int->Dt->List Dt->Option Bool)(x0 x1:List Dt)(x2 x3:Int)(x4:Dt)(x5:List Dt):Option Bool:=
  ((idx x0 x3).bind fun v3=>
    ((xA x4 v3).bind fun r4=>
 ((i5 m x5 r4).bind fun r5=>
 (bif (Bool.not r5)then
 ((app x5 [r4]).bind fun v6=>
 law33_GroupCounts_j4 m rec2 x0 x1 x2 x3 x4 v6)
 else
 law33_GroupCounts_j4 m rec2 x0 x1 x2 x3 x4 x5))))
def law33_GroupCounts_j11(m:Nat)(rec7:List Dt->List Dt->Int->Int->Int->List Dt->Option Bool)(x0 x1:List Dt)(x2 x3 x4:Int)(x5:List Dt):Option Bool:=
 rec7 x0 x1 x2 x3 (IntKind.wrap .i64 (x4+1)) x5
def law33_GroupCounts_j10(m:Nat)(rec7:List Dt->List Dt->Int->Int->Int->List Dt->Option Bool)(x0 x1:List Dt)(x2 x3 x4 x5:Int)(x6:List Dt):Option Bool:=
  ((idx x1 x3).bind fun v7=>
    ((idx (L v7 4) 1).bind fun v8=>
 law33_GroupCounts_j11 m rec7 x0 x1 (IntKind.wrap .i64 (x2+(I (fld v8 1) 1))) x4 x5 x6))
def law33_GroupCounts_j9(m:Nat)(rec7:List Dt->List Dt->Int->Int->Int->List Dt->Option Bool)(x0 x1:List Dt)(x2 x3 x4 x5:Int)(x6:Bool)(x7:List Dt):Option Bool:=
 (bif x6 then
    some false
 else
    law33_GroupCounts_j10 m rec7 x0 x1 x2 x3 x4 x5 x7)
def law33_GroupCounts_j8(m:Nat)(rec7:List Dt->List Dt->Int->Int->Int->List Dt->Option Bool)(x0 x1:List Dt)(x2 x3 x4:Int)(x5:List Dt):Option Bool:=
  (bif (decide ((List.length x5:Int)<=x4))then
    law33_GroupCounts_j9 m rec7 x0 x1 x2 x4 x3 x4 true x5
  else
    ((idx x1 x4).bind fun v9=>
 (bif ((List.length (L v9 4):Int) !=2)then
 law33_GroupCounts_j9 m rec7 x0 x1 x2 x4 x3 x4 true x5
 else
 ((idx x1 x4).bind fun v10=>
 ((idx (L v10 4) 0).bind fun v11=>
 ((inL x5 x4).bind fun v12=>
 ((x5[(Int.toNat x4)]?).bind fun v13=>
 ((eZ (fld v11 1) v13).bind fun r14=>
 (bif (r14 !=0)then
 law33_GroupCounts_j9 m rec7 x0 x1 x2 x4 x3 x4 true x5
 else
 ((idx x1 x4).bind fun v15=>
 ((idx (L v15 4) 1).bind fun v16=>
 law33_GroupCounts_j9 m rec7 x0 x1 x2 x4 x3 x4 (decide ((I (fld v16 1) 1)<1)) x5)))))))))))
def law33_GroupCounts_j12(m:Nat)(x0 x1:List Dt)(x2:Int)(x3:List Dt):Option Bool:=
  (bif ((List.length x1:Int)==(List.length x3:Int))then
    (bif (x2==(List.length x0:Int))then
 ((Cx).bind fun r17=>
 some r17)
    else
 some false)
  else
    some false)
def law33_GroupCounts_l7(m:Nat):Nat->List Dt->List Dt->Int->Int->Int->List Dt->Option Bool
 |0,_,_,_,_,_,_=>none
 |  M7+1,x0,x1,x2,x3,x4,x5=>
    (bif (decide (x4<x3))then
    law33_GroupCounts_j8 m (law33_GroupCounts_l7 m M7) x0 x1 x2 x3 x4 x5
 else
    law33_GroupCounts_j12 m x0 x1 x2 x5)
def law33_GroupCounts_j6(m:Nat)(x0 x1:List Dt)(x2 x3 x4:Int)(x5:List Dt):Option Bool:=
 law33_GroupCounts_l7 m (Nat.succ m) x0 x1 x2 x3 x4 x5
def law33_GroupCounts_j5(m:Nat)(x0 x1 x2:List Dt):Option Bool:=
 law33_GroupCounts_j6 m x0 x1 0 (List.length x1:Int) 0 x2
def law33_GroupCounts_l2(m:Nat):Nat->List Dt->List Dt->Int->Int->Dt->List Dt->Option Bool
 |0,_,_,_,_,_,_=>none
 |  M2+1,x0,x1,x2,x3,x4,x5=>
    (bif (decide (x3<x2))then
    law33_GroupCounts_j3 m (law33_GroupCounts_l2 m M2) x0 x1 x2 x3 x4 x5
 else
    law33_GroupCounts_j5 m x0 x1 x5)
def law33_GroupCounts_j1(m:Nat)(x0 x1:List Dt)(x2 x3:Int)(x4:Dt)(x5:List Dt):Option Bool:=
 law33_GroupCounts_l2 m (Nat.succ m) x0 x1 x2 x3 x4 x5
def law33_GroupCounts_j0(m:Nat)(x0:List Dt)(x1 x2:Dt):Option Bool:=
 (( xw x2 x0).bind fun r2=>
    law33_GroupCounts_j1 m x0 r2 (List.length x0:Int) 0 x1 [])
def law33_GroupCounts:Nat->Dt->List Dt->Option Bool
  |0,_,_=>none
  | m+1,a0,a1=>
    ((pJ (agg [a0,(lst [Nh])]) a1).bind fun r0=>
    (bif (Bool.not r0)then
 ((Cx).bind fun r1=>
 some r1)
    else
 law33_GroupCounts_j0 m a1 a0 (agg [a0,(lst [Nh])])))
end Go.Proofs.YtjibjkdalajaiaaGreatDoor.P2
noncomputable section
namespace Go.Proofs.YtjibjkdalajaiaaGreatDoor.P2
open Go.Am
def ads(args:List AV)(objs:List Ob):Option (Dt×List Dt):=match args,objs with
 | [.dat T0 x0,.dat T1 x1],[]=>bif (Nat.beq T0 29&&Nat.beq T1 23)then some (x0,x1.toLst)else none
 |_,_=>none
theorem Xk{args:List AV}{objs:List Ob}{l:Dt×List Dt}(h:ads args objs=some l):CnA Tryz.prog args [.dat 29 l.1,.dat 23 (.lst l.2)]∧CnOL Tryz.prog objs []:=by
 unfold ads at h;split at h
 ·obtain⟨hc,h2⟩:=aJ h;cases h2;have e0:=beq_eq (aG hc);have e1:=beq_eq (aB hc);subst e0 e1;exact⟨(.cons (.of .same rfl rfl) (.cons (.of (.dat (.lst Tryz.underlying23)) rfl rfl) .nil)),.nil⟩
 ·cases h
def LZ(args:List AV)(objs:List Ob):Option (Dt×List Dt):=match args,objs with
 | [.dat T0 x0,.dat T1 x1],[]=>bif (Nat.beq T0 35&&Nat.beq T1 23)then some (x0,x1.toLst)else none
 |_,_=>none
theorem DY{args:List AV}{objs:List Ob}{l:Dt×List Dt}(h:LZ args objs=some l):CnA Tryz.prog args [.dat 35 l.1,.dat 23 (.lst l.2)]∧CnOL Tryz.prog objs []:=by
 unfold LZ at h;split at h
 ·obtain⟨hc,h2⟩:=aJ h;cases h2;have e0:=beq_eq (aG hc);have e1:=beq_eq (aB hc);subst e0 e1;exact⟨(.cons (.of .same rfl rfl) (.cons (.of (.dat (.lst Tryz.underlying23)) rfl rfl) .nil)),.nil⟩
 ·cases h
def adt(args:List AV)(objs:List Ob):Option Unit:=match args,objs with
 | [],[]=>bif true then some ()else none
 |_,_=>none
theorem Xl{args:List AV}{objs:List Ob}{l:Unit}(h:adt args objs=some l):CnA Tryz.prog args []∧CnOL Tryz.prog objs []:=by
 unfold adt at h;split at h
 ·obtain⟨hc,h2⟩:=aJ h;cases h2;exact⟨.nil,.nil⟩
 ·cases h
def adu(args:List AV)(objs:List Ob):Option (Dt×Dt):=match args,objs with
 | [.dat T0 x0,.dat T1 x1],[]=>bif (Nat.beq T0 29&&Nat.beq T1 26)then some (x0,x1)else none
 |_,_=>none
theorem Xm{args:List AV}{objs:List Ob}{l:Dt×Dt}(h:adu args objs=some l):CnA Tryz.prog args [.dat 29 l.1,.dat 26 l.2]∧CnOL Tryz.prog objs []:=by
 unfold adu at h;split at h
 ·obtain⟨hc,h2⟩:=aJ h;cases h2;have e0:=beq_eq (aG hc);have e1:=beq_eq (aB hc);subst e0 e1;exact⟨(.cons (.of .same rfl rfl) (.cons (.of .same rfl rfl) .nil)),.nil⟩
 ·cases h
def aoM(args:List AV)(objs:List Ob):Option (List Dt×Dt):=match args,objs with
 | [.dat T0 x0,.fn T1 [.rptr T2 x2]],[]=>bif (Nat.beq T0 23&&(Nat.beq T1 9&&Nat.beq T2 26))then some (x0.toLst,x2)else none
 |_,_=>none
theorem afq{args:List AV}{objs:List Ob}{l:List Dt×Dt}(h:aoM args objs=some l):CnA Tryz.prog args [.dat 23 (.lst l.1),.fn 9 [.rptr 26 l.2]]∧CnOL Tryz.prog objs []:=by
 unfold aoM at h;split at h
 ·obtain⟨hc,h2⟩:=aJ h;cases h2;have e0:=beq_eq (aG hc);have e1:=beq_eq (aG (aB hc));have e2:=beq_eq (aB (aB hc));subst e0 e1 e2;exact⟨(.cons (.of (.dat (.lst Tryz.underlying23)) rfl rfl) (.cons (.of (.fn (.cons .same .nil)) rfl rfl) .nil)),.nil⟩
 ·cases h
def asQ(args:List AV)(objs:List Ob):Option (Dt×Dt):=match args,objs with
 | [.dat T0 x0,.rptr T1 x1],[]=>bif (Nat.beq T0 26&&Nat.beq T1 26)then some (x0,x1)else none
 |_,_=>none
theorem aoN{args:List AV}{objs:List Ob}{l:Dt×Dt}(h:asQ args objs=some l):CnA Tryz.prog args [.dat 26 l.1,.rptr 26 l.2]∧CnOL Tryz.prog objs []:=by
 unfold asQ at h;split at h
 ·obtain⟨hc,h2⟩:=aJ h;cases h2;have e0:=beq_eq (aG hc);have e1:=beq_eq (aB hc);subst e0 e1;exact⟨(.cons (.of .same rfl rfl) (.cons (.of .same rfl rfl) .nil)),.nil⟩
 ·cases h
def asR(args:List AV)(objs:List Ob):Option (Dt×Dt):=match args,objs with
 | [.dat T0 x0,.dat T1 x1],[]=>bif (Nat.beq T0 26&&Nat.beq T1 26)then some (x0,x1)else none
 |_,_=>none
theorem aoO{args:List AV}{objs:List Ob}{l:Dt×Dt}(h:asR args objs=some l):CnA Tryz.prog args [.dat 26 l.1,.dat 26 l.2]∧CnOL Tryz.prog objs []:=by
 unfold asR at h;split at h
 ·obtain⟨hc,h2⟩:=aJ h;cases h2;have e0:=beq_eq (aG hc);have e1:=beq_eq (aB hc);subst e0 e1;exact⟨(.cons (.of .same rfl rfl) (.cons (.of .same rfl rfl) .nil)),.nil⟩
 ·cases h
def ct3{R:Type}(m:Nat)(args:List AV)(objs:List Ob)(K:Res->Option R):Option R:=match ads args objs with
 |some l=>(law33_GroupCounts m l.1 l.2).bind fun r=>K ((.dat 4 (.bool r)),[])
 |none=>none
def ct4{R:Type}(m:Nat)(args:List AV)(objs:List Ob)(K:Res->Option R):Option R:=match LZ args objs with
 |some l=>(pJ l.1 l.2).bind fun r=>K ((.dat 4 (.bool r)),[])
 |none=>none
def ct5{R:Type}(m:Nat)(args:List AV)(objs:List Ob)(K:Res->Option R):Option R:=match adt args objs with
 |some l=>(Cx).bind fun r=>K ((.dat 4 (.bool r)),[])
 |none=>none
def ct6{R:Type}(m:Nat)(args:List AV)(objs:List Ob)(K:Res->Option R):Option R:=match LZ args objs with
 |some l=>(xw l.1 l.2).bind fun r=>K ((.dat 23 (.lst r)),[])
 |none=>none
def ct7{R:Type}(m:Nat)(args:List AV)(objs:List Ob)(K:Res->Option R):Option R:=match adu args objs with
 |some l=>(xA l.1 l.2).bind fun r=>K ((.dat 26 r),[])
 |none=>none
def ct8{R:Type}(m:Nat)(args:List AV)(objs:List Ob)(K:Res->Option R):Option R:=match aoM args objs with
 |some l=>(i5 m l.1 l.2).bind fun r=>K ((.dat 4 (.bool r)),[])
 |none=>none
def asS{R:Type}(m:Nat)(args:List AV)(objs:List Ob)(K:Res->Option R):Option R:=match aoM args objs with
 |some l=>(i6 m l.1 l.2).bind fun r=>K ((.dat 3 (.int r)),[])
 |none=>none
def ct9{R:Type}(m:Nat)(args:List AV)(objs:List Ob)(K:Res->Option R):Option R:=match asQ args objs with
 |some l=>(i7 m l.1 l.2).bind fun r=>K ((.dat 4 (.bool r)),[])
 |none=>none
def asT{R:Type}(m:Nat)(args:List AV)(objs:List Ob)(K:Res->Option R):Option R:=match asR args objs with
 |some l=>(eZ l.1 l.2).bind fun r=>K ((.dat 3 (.int r)),[])
 |none=>none
def d7(q:Res):Option Bool:=match q with
 |(.dat T0 x0,[])=>bif Nat.beq T0 4 then some x0.toBool else none
 |_=>none
theorem adv{b:Res}{r:Bool}(h:d7 b=some r):Sim Tryz.prog b ((.dat 4 (.bool r)),[]):=by
 unfold d7 at h;split at h
 ·obtain⟨hc,h2⟩:=aJ h;cases h2;have e0:=beq_eq hc;subst e0;exact Sim.of (.of (.dat (.bool Tryz.underlying4)) rfl rfl) .nil
 ·cases h
def d6(q:Res):Option Int:=match q with
 |(.dat T0 x0,[])=>bif Nat.beq T0 3 then some x0.toInt else none
 |_=>none
theorem asU{b:Res}{r:Int}(h:d6 b=some r):Sim Tryz.prog b ((.dat 3 (.int r)),[]):=by
 unfold d6 at h;split at h
 ·obtain⟨hc,h2⟩:=aJ h;cases h2;have e0:=beq_eq hc;subst e0;exact Sim.of (.of (.dat (.int Tryz.underlying3)) rfl rfl) .nil
 ·cases h
def ct{R:Type}(m:Nat)(f:FuncId)(args:List AV)(objs:List Ob)(K:Res->Option R):Option R:=
 bif Nat.beq f 3 then ct3 m args objs K else
 bif Nat.beq f 4 then ct4 m args objs K else
 bif Nat.beq f 5 then ct5 m args objs K else
 bif Nat.beq f 6 then ct6 m args objs K else
 bif Nat.beq f 7 then ct7 m args objs K else
 bif Nat.beq f 8 then ct8 m args objs K else
 bif Nat.beq f 25 then asS m args objs K else
 bif Nat.beq f 9 then ct9 m args objs K else
 bif Nat.beq f 10 then asT m args objs K else
 none
section
variable{R:Type}{P:Program}{E:Env}{call:FuncId->List AV->List Ob->(Res->Option R)->Option R}{m n M:Nat}{f:FuncId}{fn:Func}{dec:Res->Option R}{p ms:List Nat}{σ:St}{g:(Nat->Nat->Nat->St->Option R->Option R)->Option R}{r:Option R}
theorem tq(e:g jn=r)(h:∀J,evAt P E call J m f n fn dec p ms σ=g J:=by intro J;kernel_rfl):evAt P E call jn m f n fn dec p ms σ=r:=(h jn).trans e
theorem tl(e:g jn=r)(h:∀J,loopAt P E call J m f n fn dec p ms M σ=g J:=by intro J;kernel_rfl):loopAt P E call jn m f n fn dec p ms M σ=r:=(h jn).trans e
end
end Go.Proofs.YtjibjkdalajaiaaGreatDoor.P2
noncomputable section
namespace Go.Proofs.YtjibjkdalajaiaaGreatDoor.P2
open Go.Am Dt
set_option maxRecDepth 100000
def e7(J:Nat->Nat->Nat->St->Option Bool->Option Bool)(m:Nat):=evAt Tryz.prog env (ct m) J (m+1) 9 8 Tryz.f9 d7
theorem avn m a0 a1:e7 jn m [] [] ⟨[.dat 26 a0,.rptr 26 a1],[],0⟩=i7 (m+1) a0 a1:=
 tq (g:=fun J=>((eZ a0 a1).bind fun r0=>
  some (r0==0))) (by rfl)
def asV:List Nat:=[1,0,1,0,0,1,1]
def avo:List Nat:=asV++[1]
def e6(J:Nat->Nat->Nat->St->Option Int->Option Int)(m:Nat):=evAt Tryz.prog env (ct m) J (m+1) 25 19 Tryz.f25 d6
def l6(J:Nat->Nat->Nat->St->Option Int->Option Int)(m:Nat):=loopAt Tryz.prog env (ct m) J (m+1) 25 19 Tryz.f25 d6
def Z7(x0:List Dt)(x1:Dt)(x2 x3:Int):St:=⟨tsOf [(0,.dat 23 (.lst x0)),(1,.fn 9 [.rptr 26 x1]),(7,.dat 3 (.int x2)),(8,.dat 3 (.int x3))],[],0⟩
def avp:St:=⟨tsOf [],[],0⟩
abbrev avq(m M1:Nat)(rec1:List Dt->Dt->Int->Int->Option Int):Prop:=∀x0 x1 x2 x3,l6 jn m [1,0,1,0] [] M1 (Z7 x0 x1 x2 x3)=rec1 x0 x1 x2 x3
theorem al2 m M1 rec1(h1:avq m M1 rec1) x0 x1 x2 x3:e6 jn m avo [M1] (Z7 x0 x1 x2 x3)=i6_j3 m rec1 x0 x1 x2 x3:=
 tq (g:=fun J=>(jj J 1 2 M1 (Z7 x0 x1 x2 (IntKind.wrap .i64 (x3+1))) (l6 J m [1,0,1,0] [] M1))) (by simp only[aM,h1];rfl)
theorem al3 m M1 rec1(h1:avq m M1 rec1) x0 x1 x2 x3:e6 jn m asV [M1] (Z7 x0 x1 x2 x3)=i6_j2 m rec1 x0 x1 x2 x3:=
 tq (g:=fun J=>((idx x0 x3).bind fun v0=>
  ((i7 m v0 x1).bind fun r1=>
  (bif r1 then
  some x3
  else
  (jj J 0 6 0 (Z7 x0 x1 x2 x3) (e6 J m avo [M1])))))) (by simp only[aM,al2 m M1 rec1 h1];rfl)
theorem al4 m:e6 jn m [1,1] [] avp=ap5 m:=
 tq (g:=fun J=>some (-1)) (by rfl)
theorem Z8 m:∀M1 x0 x1 x2 x3,l6 jn m [1,0,1,0] [] M1 (Z7 x0 x1 x2 x3)=i6_l1 m M1 x0 x1 x2 x3
 |0,_,_,_,_=>rfl
 | M1+1,x0,x1,x2,x3=>
   tl (g:=fun J=>(bif (decide (x3<x2))then
  (jj J 0 3 0 (Z7 x0 x1 x2 x3) (e6 J m asV [M1]))
   else
  (jj J 0 7 0 avp (e6 J m [1,1] [])))) (by simp only[aM,al3 m M1 (i6_l1 m M1) (Z8 m M1),al4 m];rfl)
theorem avr m a0 a1:e6 jn m [] [] ⟨[.dat 23 (.lst a0),.fn 9 [.rptr 26 a1]],[],0⟩=i6 (m+1) a0 a1:=
 tq (g:=fun J=>((jj J 1 2 (Nat.succ m) (Z7 a0 a1 (List.length a0:Int) 0) (l6 J m [1,0,1,0] [] (Nat.succ m))))) (by simp only[aM,Z8 m];rfl)
def e5(J:Nat->Nat->Nat->St->Option Bool->Option Bool)(m:Nat):=evAt Tryz.prog env (ct m) J (m+1) 8 9 Tryz.f8 d7
theorem avt m a0 a1:e5 jn m [] [] ⟨[.dat 23 (.lst a0),.fn 9 [.rptr 26 a1]],[],0⟩=i5 (m+1) a0 a1:=
 tq (g:=fun J=>((i6 m a0 a1).bind fun r0=>
  some (decide (0<=r0)))) (by rfl)
def afr:List Nat:=[1,1,1,1,1,1]
def avu:List Nat:=[1,1,1,1,1,0,1]
def Z9:List Nat:=avu++[0]
def avv:List Nat:=afr++[1,1]
def aw9:List Nat:=afr++[1,0,1]
def al5:List Nat:=aw9++[0]
def asW:List Nat:=Z9++[0,1,1]
def asX:List Nat:=asW++[1]
def al6:List Nat:=al5++[0,1,1]
def aoP:List Nat:=al6++[1]
def avw:List Nat:=al6++[0,0,1,1]
def Qp:List Nat:=al6++[0,0,1,0,1]
def e0(J:Nat->Nat->Nat->St->Option Bool->Option Bool)(m:Nat):=evAt Tryz.prog env (ct m) J (m+1) 3 116 Tryz.f3 d7
def l0(J:Nat->Nat->Nat->St->Option Bool->Option Bool)(m:Nat):=loopAt Tryz.prog env (ct m) J (m+1) 3 116 Tryz.f3 d7
def Xn(x0 x1:List Dt)(x2 x3:Int)(x4:Dt)(x5:List Dt):St:=⟨tsOf [(1,.dat 23 (.lst x0)),(2,.ptr 0 [] 0),(6,.dat 23 (.lst x1)),(7,.row 1),(25,.dat 3 (.int x2)),(26,.dat 3 (.int x3))],[.box 29 (.dat 29 x4),.row 23 x5],0⟩
def LQ(x0 x1:List Dt)(x2 x3 x4:Int)(x5:List Dt):St:=⟨tsOf [(1,.dat 23 (.lst x0)),(6,.dat 23 (.lst x1)),(7,.row 0),(10,.dat 3 (.int x2)),(45,.dat 3 (.int x3)),(46,.dat 3 (.int x4))],[.row 23 x5],0⟩
def ap6(x0 x1:List Dt)(x2 x3 x4 x5:Int)(x6:List Dt):St:=⟨tsOf [(1,.dat 23 (.lst x0)),(6,.dat 23 (.lst x1)),(7,.row 0),(10,.dat 3 (.int x2)),(11,.dat 3 (.int x3)),(45,.dat 3 (.int x4)),(46,.dat 3 (.int x5))],[.row 23 x6],0⟩
def al7(x0 x1:List Dt)(x2 x3 x4 x5:Int)(x6:Bool)(x7:List Dt):St:=⟨tsOf [(1,.dat 23 (.lst x0)),(6,.dat 23 (.lst x1)),(7,.row 0),(10,.dat 3 (.int x2)),(11,.dat 3 (.int x3)),(45,.dat 3 (.int x4)),(46,.dat 3 (.int x5)),(89,.dat 4 (.bool x6))],[.row 23 x7],0⟩
def ap7(x0 x1:List Dt)(x2:Int)(x3:List Dt):St:=⟨tsOf [(1,.dat 23 (.lst x0)),(6,.dat 23 (.lst x1)),(7,.row 0),(10,.dat 3 (.int x2))],[.row 23 x3],0⟩
def avx(x0 x1 x2:List Dt):St:=⟨tsOf [(1,.dat 23 (.lst x0)),(6,.dat 23 (.lst x1)),(7,.row 0)],[.row 23 x2],0⟩
def avy(x0:List Dt)(x1 x2:Dt):St:=⟨tsOf [(1,.dat 23 (.lst x0)),(2,.ptr 0 [] 0),(5,.ptr 1 [] 0)],[.box 29 (.dat 29 x1),.box 35 (.dat 35 x2)],0⟩
abbrev avz(m M2:Nat)(rec2:List Dt->List Dt->Int->Int->Dt->List Dt->Option Bool):Prop:=∀x0 x1 x2 x3 x4 x5,l0 jn m Z9 [] M2 (Xn x0 x1 x2 x3 x4 x5)=rec2 x0 x1 x2 x3 x4 x5
theorem Ap m M2 rec2(h2:avz m M2 rec2) x0 x1 x2 x3 x4 x5:e0 jn m asX [M2] (Xn x0 x1 x2 x3 x4 x5)=law33_GroupCounts_j4 m rec2 x0 x1 x2 x3 x4 x5:=
 tq (g:=fun J=>(jj J 1 7 M2 (Xn x0 x1 x2 (IntKind.wrap .i64 (x3+1)) x4 x5) (l0 J m Z9 [] M2))) (by simp only[aM,h2];rfl)
theorem Aq m M2 rec2(h2:avz m M2 rec2) x0 x1 x2 x3 x4 x5:e0 jn m asW [M2] (Xn x0 x1 x2 x3 x4 x5)=law33_GroupCounts_j3 m rec2 x0 x1 x2 x3 x4 x5:=
 tq (g:=fun J=>((idx x0 x3).bind fun v3=>
  ((xA x4 v3).bind fun r4=>
  ((i5 m x5 r4).bind fun r5=>
  (bif (Bool.not r5)then
  ((app x5 [r4]).bind fun v6=>
  (jj J 0 12 0 (Xn x0 x1 x2 x3 x4 v6) (e0 J m asX [M2])))
  else
  (jj J 0 12 0 (Xn x0 x1 x2 x3 x4 x5) (e0 J m asX [M2]))))))) (by simp only[aM,Ap m M2 rec2 h2];rfl)
abbrev aoQ(m M7:Nat)(rec7:List Dt->List Dt->Int->Int->Int->List Dt->Option Bool):Prop:=∀x0 x1 x2 x3 x4 x5,l0 jn m al5 [] M7 (LQ x0 x1 x2 x3 x4 x5)=rec7 x0 x1 x2 x3 x4 x5
theorem zn m M7 rec7(h7:aoQ m M7 rec7) x0 x1 x2 x3 x4 x5:e0 jn m aoP [M7] (LQ x0 x1 x2 x3 x4 x5)=law33_GroupCounts_j11 m rec7 x0 x1 x2 x3 x4 x5:=
 tq (g:=fun J=>(jj J 1 15 M7 (LQ x0 x1 x2 x3 (IntKind.wrap .i64 (x4+1)) x5) (l0 J m al5 [] M7))) (by simp only[aM,h7];rfl)
theorem zo m M7 rec7(h7:aoQ m M7 rec7) x0 x1 x2 x3 x4 x5 x6:e0 jn m avw [M7] (ap6 x0 x1 x2 x3 x4 x5 x6)=law33_GroupCounts_j10 m rec7 x0 x1 x2 x3 x4 x5 x6:=
 tq (g:=fun J=>((idx x1 x3).bind fun v7=>
  ((idx (L v7 4) 1).bind fun v8=>
  (jj J 0 20 0 (LQ x0 x1 (IntKind.wrap .i64 (x2+(I (fld v8 1) 1))) x4 x5 x6) (e0 J m aoP [M7]))))) (by simp only[aM,zn m M7 rec7 h7];rfl)
theorem Ar m M7 rec7(h7:aoQ m M7 rec7) x0 x1 x2 x3 x4 x5 x6 x7:e0 jn m Qp [M7] (al7 x0 x1 x2 x3 x4 x5 x6 x7)=law33_GroupCounts_j9 m rec7 x0 x1 x2 x3 x4 x5 x6 x7:=
 tq (g:=fun J=>(bif x6 then
  some false
   else
  (jj J 0 19 0 (ap6 x0 x1 x2 x3 x4 x5 x7) (e0 J m avw [M7])))) (by simp only[aM,zo m M7 rec7 h7];rfl)
theorem Au m M7 rec7(h7:aoQ m M7 rec7) x0 x1 x2 x3 x4 x5:e0 jn m al6 [M7] (LQ x0 x1 x2 x3 x4 x5)=law33_GroupCounts_j8 m rec7 x0 x1 x2 x3 x4 x5:=
 tq (g:=fun J=>(bif (decide ((List.length x5:Int)<=x4))then
  (jj J 0 18 0 (al7 x0 x1 x2 x4 x3 x4 true x5) (e0 J m Qp [M7]))
   else
  ((idx x1 x4).bind fun v9=>
  (bif ((List.length (L v9 4):Int) !=2)then
  (jj J 0 18 0 (al7 x0 x1 x2 x4 x3 x4 true x5) (e0 J m Qp [M7]))
  else
  ((idx x1 x4).bind fun v10=>
  ((idx (L v10 4) 0).bind fun v11=>
  ((inL x5 x4).bind fun v12=>
  ((x5[(Int.toNat x4)]?).bind fun v13=>
  ((eZ (fld v11 1) v13).bind fun r14=>
  (bif (r14 !=0)then
  (jj J 0 18 0 (al7 x0 x1 x2 x4 x3 x4 true x5) (e0 J m Qp [M7]))
  else
  ((idx x1 x4).bind fun v15=>
  ((idx (L v15 4) 1).bind fun v16=>
  (jj J 0 18 0 (al7 x0 x1 x2 x4 x3 x4 (decide ((I (fld v16 1) 1)<1)) x5) (e0 J m Qp [M7])))))))))))))) (by simp only[aM,Ar m M7 rec7 h7];rfl)
theorem zq m x0 x1 x2 x3:e0 jn m avv [] (ap7 x0 x1 x2 x3)=law33_GroupCounts_j12 m x0 x1 x2 x3:=
 tq (g:=fun J=>(bif ((List.length x1:Int)==(List.length x3:Int))then
  (bif (x2==(List.length x0:Int))then
  ((Cx).bind fun r17=>
  some r17)
  else
  some false)
   else
  some false)) (by rfl)
theorem rG m:∀M7 x0 x1 x2 x3 x4 x5,l0 jn m al5 [] M7 (LQ x0 x1 x2 x3 x4 x5)=law33_GroupCounts_l7 m M7 x0 x1 x2 x3 x4 x5
 |0,_,_,_,_,_,_=>rfl
 | M7+1,x0,x1,x2,x3,x4,x5=>
   tl (g:=fun J=>(bif (decide (x4<x3))then
  (jj J 0 16 0 (LQ x0 x1 x2 x3 x4 x5) (e0 J m al6 [M7]))
   else
  (jj J 0 21 0 (ap7 x0 x1 x2 x5) (e0 J m avv [])))) (by simp only[aM,Au m M7 (law33_GroupCounts_l7 m M7) (rG m M7),zq m];rfl)
theorem Av m x0 x1 x2:e0 jn m afr [] (avx x0 x1 x2)=law33_GroupCounts_j5 m x0 x1 x2:=
 tq (g:=fun J=>((jj J 1 15 (Nat.succ m) (LQ x0 x1 0 (List.length x1:Int) 0 x2) (l0 J m al5 [] (Nat.succ m))))) (by simp only[aM,rG m];rfl)
theorem rH m:∀M2 x0 x1 x2 x3 x4 x5,l0 jn m Z9 [] M2 (Xn x0 x1 x2 x3 x4 x5)=law33_GroupCounts_l2 m M2 x0 x1 x2 x3 x4 x5
 |0,_,_,_,_,_,_=>rfl
 | M2+1,x0,x1,x2,x3,x4,x5=>
   tl (g:=fun J=>(bif (decide (x3<x2))then
  (jj J 0 8 0 (Xn x0 x1 x2 x3 x4 x5) (e0 J m asW [M2]))
   else
  (jj J 0 13 0 (avx x0 x1 x5) (e0 J m afr [])))) (by simp only[aM,Aq m M2 (law33_GroupCounts_l2 m M2) (rH m M2),Av m];rfl)
theorem Ay m x0 x1 x2:e0 jn m [1,1,1] [] (avy x0 x1 x2)=law33_GroupCounts_j0 m x0 x1 x2:=
 tq (g:=fun J=>((xw x2 x0).bind fun r2=>
  ((jj J 1 7 (Nat.succ m) (Xn x0 r2 (List.length x0:Int) 0 x1 []) (l0 J m Z9 [] (Nat.succ m)))))) (by simp only[aM,rH m];rfl)
theorem Du m a0 a1:e0 jn m [] [] ⟨[.dat 29 a0,.dat 23 (.lst a1)],[],0⟩=law33_GroupCounts (m+1) a0 a1:=
 tq (g:=fun J=>((pJ (agg [a0,(lst [Nh])]) a1).bind fun r0=>
  (bif (Bool.not r0)then
  ((Cx).bind fun r1=>
  some r1)
  else
  (jj J 0 4 0 (avy a1 a0 (agg [a0,(lst [Nh])])) (e0 J m [1,1,1] []))))) (by simp only[aM,Ay m];rfl)
end Go.Proofs.YtjibjkdalajaiaaGreatDoor.P2
namespace Go.Proofs.YtjibjkdalajaiaaGreatDoor.P2
open Go.Am
set_option maxRecDepth 100000
theorem mixed:Tryz.prog.follows .mixedOrders=true:=by kernel_rfl
abbrev CtH(m:Nat):Prop:=∀R,CallOK (R:=R) Tryz.prog (ct m)
abbrev CtK(m:Nat):Prop:=∀k,k<m->CtH k
abbrev FQ{R:Type}(f:Nat)(args:List AV)(objs:List Ob)(K:Res->Option R)(r:R):Prop:=∃q:Res,K q=some r∧FX Tryz.prog f args objs q.1 q.2∧HasBody Tryz.prog f
theorem fo{R:Type}{m f:Nat}{fn:Func}{c:Code}{args:List AV}{objs:List Ob}{res:AV}{ro:List Ob}{dec:Res->Option R}{r:R}(hct:CtH m)(hf:Tryz.prog.funcs[f]? =some fn)(hc:fn.body=some c)(hl:Nat.ble args.length fn.ntmps=true)(hd:∀{b:Res},dec b=some r->Sim Tryz.prog b (res,ro))(h:ev Tryz.prog env (ct m) jn (m+1) f fn.ntmps c ⟨args,objs,objs.length⟩ (fun e σ=>(Rf Tryz.prog env f fn e σ).bind dec)=some r):FX Tryz.prog f args objs res ro:=
 FX_of (q:=(res,ro)) (E:=env) (m:=m+1) (dec:=dec) jn_ok (hct _) mixed hf hc (aL hl) (fun _ hb=>hd hb) h
section
variable{R:Type}{args:List AV}{objs:List Ob}{K:Res->Option R}{r:R}
theorem avA m(hct:CtH m)(a0 a1:Dt){r:Bool}(h:i7 (m+1) a0 a1=some r):FX Tryz.prog 9 [.dat 26 a0,.rptr 26 a1] [] (.dat 4 (.bool r)) []:=
 fo hct Tryz.func9 rfl rfl adv ((avn m a0 a1).trans h)
theorem avB m(hct:CtH m)(a0:List Dt)(a1:Dt){r:Int}(h:i6 (m+1) a0 a1=some r):FX Tryz.prog 25 [.dat 23 (.lst a0),.fn 9 [.rptr 26 a1]] [] (.dat 3 (.int r)) []:=
 fo hct Tryz.func25 rfl rfl asU ((avr m a0 a1).trans h)
theorem avD m(hct:CtH m)(a0:List Dt)(a1:Dt){r:Bool}(h:i5 (m+1) a0 a1=some r):FX Tryz.prog 8 [.dat 23 (.lst a0),.fn 9 [.rptr 26 a1]] [] (.dat 4 (.bool r)) []:=
 fo hct Tryz.func8 rfl rfl adv ((avt m a0 a1).trans h)
theorem law33_GroupCounts_fx m(hct:CtH m)(a0:Dt)(a1:List Dt){r:Bool}(h:law33_GroupCounts (m+1) a0 a1=some r):FX Tryz.prog 3 [.dat 29 a0,.dat 23 (.lst a1)] [] (.dat 4 (.bool r)) []:=
 fo hct Tryz.func3 rfl rfl adv ((Du m a0 a1).trans h)
theorem asY m(hct:CtK m)(h:ct3 m args objs K=some r):FQ 3 args objs K r:=by
 unfold ct3 at h;split at h
 ·rename_i l hl;obtain⟨x,hx,hk⟩:=ak.1 h;obtain⟨h1,h2⟩:=Xk hl;cases m with
  |zero=>cases hx
  |succ m=>exact⟨_,hk,(law33_GroupCounts_fx m (hct m (Nat.lt_succ_self m)) _ _ hx).conv h1 h2,⟨_,Tryz.func3,rfl,by decide⟩⟩
 cases h
theorem asZ m(hct:CtK m)(h:ct4 m args objs K=some r):FQ 4 args objs K r:=by
 unfold ct4 at h;split at h
 ·rename_i l hl;obtain⟨x,hx,hk⟩:=ak.1 h;obtain⟨h1,h2⟩:=DY hl;exact⟨_,hk,(Qo hx).conv h1 h2,⟨_,Tryz.func4,rfl,by decide⟩⟩
 cases h
theorem as0 m(hct:CtK m)(h:ct5 m args objs K=some r):FQ 5 args objs K r:=by
 unfold ct5 at h;split at h
 ·rename_i l hl;obtain⟨x,hx,hk⟩:=ak.1 h;obtain⟨h1,h2⟩:=Xl hl;exact⟨_,hk,(TD hx).conv h1 h2,⟨_,Tryz.func5,rfl,by decide⟩⟩
 cases h
theorem as3 m(hct:CtK m)(h:ct6 m args objs K=some r):FQ 6 args objs K r:=by
 unfold ct6 at h;split at h
 ·rename_i l hl;obtain⟨x,hx,hk⟩:=ak.1 h;obtain⟨h1,h2⟩:=DY hl;exact⟨_,hk,(SB hx).conv h1 h2,⟨_,Tryz.func6,rfl,by decide⟩⟩
 cases h
theorem as4 m(hct:CtK m)(h:ct7 m args objs K=some r):FQ 7 args objs K r:=by
 unfold ct7 at h;split at h
 ·rename_i l hl;obtain⟨x,hx,hk⟩:=ak.1 h;obtain⟨h1,h2⟩:=Xm hl;exact⟨_,hk,(SC hx).conv h1 h2,⟨_,Tryz.func7,rfl,by decide⟩⟩
 cases h
theorem as5 m(hct:CtK m)(h:ct8 m args objs K=some r):FQ 8 args objs K r:=by
 unfold ct8 at h;split at h
 ·rename_i l hl;obtain⟨x,hx,hk⟩:=ak.1 h;obtain⟨h1,h2⟩:=afq hl;cases m with
  |zero=>cases hx
  |succ m=>exact⟨_,hk,(avD m (hct m (Nat.lt_succ_self m)) _ _ hx).conv h1 h2,⟨_,Tryz.func8,rfl,by decide⟩⟩
 cases h
theorem aoR m(hct:CtK m)(h:asS m args objs K=some r):FQ 25 args objs K r:=by
 unfold asS at h;split at h
 ·rename_i l hl;obtain⟨x,hx,hk⟩:=ak.1 h;obtain⟨h1,h2⟩:=afq hl;cases m with
  |zero=>cases hx
  |succ m=>exact⟨_,hk,(avB m (hct m (Nat.lt_succ_self m)) _ _ hx).conv h1 h2,⟨_,Tryz.func25,rfl,by decide⟩⟩
 cases h
theorem as6 m(hct:CtK m)(h:ct9 m args objs K=some r):FQ 9 args objs K r:=by
 unfold ct9 at h;split at h
 ·rename_i l hl;obtain⟨x,hx,hk⟩:=ak.1 h;obtain⟨h1,h2⟩:=aoN hl;cases m with
  |zero=>cases hx
  |succ m=>exact⟨_,hk,(avA m (hct m (Nat.lt_succ_self m)) _ _ hx).conv h1 h2,⟨_,Tryz.func9,rfl,by decide⟩⟩
 cases h
theorem aoT m(hct:CtK m)(h:asT m args objs K=some r):FQ 10 args objs K r:=by
 unfold asT at h;split at h
 ·rename_i l hl;obtain⟨x,hx,hk⟩:=ak.1 h;obtain⟨h1,h2⟩:=aoO hl;exact⟨_,hk,(Iy hx).conv h1 h2,⟨_,Tryz.func10,rfl,by decide⟩⟩
 cases h
end
set_option maxHeartbeats 4000000 in
theorem ct_ok:∀(m:Nat)(R:Type),CallOK (R:=R) Tryz.prog (ct m):=by
 intro m;induction m using Nat.strongRecOn with
 |_ m ih=>
  intro R f args objs K r h;unfold ct at h;rcases bQ h with⟨hb,h1⟩| ⟨_,h⟩;·cases beq_eq hb;exact asY m ih h1
  rcases bQ h with⟨hb,h1⟩| ⟨_,h⟩;·cases beq_eq hb;exact asZ m ih h1
  rcases bQ h with⟨hb,h1⟩| ⟨_,h⟩;·cases beq_eq hb;exact as0 m ih h1
  rcases bQ h with⟨hb,h1⟩| ⟨_,h⟩;·cases beq_eq hb;exact as3 m ih h1
  rcases bQ h with⟨hb,h1⟩| ⟨_,h⟩;·cases beq_eq hb;exact as4 m ih h1
  rcases bQ h with⟨hb,h1⟩| ⟨_,h⟩;·cases beq_eq hb;exact as5 m ih h1
  rcases bQ h with⟨hb,h1⟩| ⟨_,h⟩;·cases beq_eq hb;exact aoR m ih h1
  rcases bQ h with⟨hb,h1⟩| ⟨_,h⟩;·cases beq_eq hb;exact as6 m ih h1
  rcases bQ h with⟨hb,h1⟩| ⟨_,h⟩;·cases beq_eq hb;exact aoT m ih h1
  cases h
