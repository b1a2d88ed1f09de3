/- Generated: the contracts. -/
import Derived.Test.YtjnkagkoolbodaaGreatDoorEq0
import Derived.Test.YtjnkagkoolbodaaGreatDoorEq1
import Derived.Test.YtjnkagkoolbodaaGreatDoorEq2
set_option linter.unusedVariables false
set_option linter.unusedSimpArgs false
namespace Go.Proofs.YtjnkagkoolbodaaGreatDoor
open Go.Am
set_option maxRecDepth 100000
theorem mixed:Tryz.prog.follows .mixedOrders=true:=by kernel_rfl
abbrev CtH (m:Nat):Prop:=∀R,CallOK (R:=R) Tryz.prog (ct m)
abbrev CtK (m:Nat):Prop:=∀k,k<m→CtH k
abbrev FQ {R:Type} (f:Nat) (args:List AV) (objs:List Ob) (K:Res→Option R) (r:R):Prop:=∃q:Res,K q=some r∧FX Tryz.prog f args objs q.1 q.2∧HasBody Tryz.prog f
theorem fo {R:Type} {m f:Nat} {fn:Func} {c:Code} {args:List AV} {objs:List Ob} {res:AV} {ro:List Ob} {dec:Res→Option R} {r:R} (hct:CtH m) (hf:Tryz.prog.funcs[f]? =some fn) (hc:fn.body=some c) (hl:Nat.ble args.length fn.ntmps=true) (hd:∀{b:Res},dec b=some r→Sim Tryz.prog b (res,ro)) (h:ev Tryz.prog env (ct m) jn (m+1) f fn.ntmps c ⟨args,objs,objs.length⟩ (fun e σ=>(asZ Tryz.prog env f fn e σ).bind dec)=some r):FX Tryz.prog f args objs res ro:=
 FX_of (q:=(res,ro)) (E:=env) (m:=m+1) (dec:=dec) jn_ok (hct _) mixed hf hc (Nat.le_of_ble_eq_true hl) (fun _ hb=>hd hb) h
abbrev FE (f:FuncId) (s:SR) (sh:List SA) (F:CF sh (Option s.T)):Prop:=FG Tryz.prog f s sh F fun l=>l
theorem fe {f:FuncId} {s:SR} {sh:List SA} {X:Nat→CF sh (Option s.T)} (m:Nat) (ck:CtK m) (ho:oksA Tryz.prog sh) (hb:HasBody Tryz.prog f) (h1:∀m,CtH m→FE f s sh (X (m+1))) (h0:FZ sh (X 0)):EOK Tryz.prog f ⟨sh,s,X m⟩:=
 ⟨ho,match m,ck with
  |0,_=>h0.fg
  |m+1,ck=>h1 m (ck m (Nat.lt_succ_self m)),hb⟩
section
variable {R:Type} {args:List AV} {objs:List Ob} {K:Res→Option R} {r:R}
theorem akc m (hct:CtH m):FE 18 auw alJ (rO (m+1)):=fun a0 r h=>
 fo hct Tryz.func18 (dec:=d9) rfl rfl (SR.sim arw) ((ajD m a0).trans h)
theorem avT m (hct:CtH m):FE 26 res1 aFd (oH (m+1)):=fun a0 a1 a2 r h=>
 fo hct Tryz.func26 (dec:=d17) rfl rfl (SR.sim aH) ((atO m a0 a1 a2).trans h)
theorem anA m (hct:CtH m):FE 28 auw aFb (u7 (m+1)):=fun a0 a1 r h=>
 fo hct Tryz.func28 (dec:=d9) rfl rfl (SR.sim arw) ((alx m a0 a1).trans h)
theorem akd m (hct:CtH m):FE 34 res2 Ej (oI (m+1)):=fun a0 r h=>
 fo hct Tryz.func34 (dec:=d24) rfl rfl (SR.sim aMZ) ((ajE m a0).trans h)
theorem anB m (hct:CtH m):FE 14 wE aFb (bB (m+1)):=fun a0 a1 r h=>
 fo hct Tryz.func14 (dec:=d7) rfl rfl (SR.sim pY) ((alz m a0 a1).trans h)
theorem aVe m (hct:CtH m) (a0:Dt) (a1 a2:Int) {r:Bool×Int} (h:i27 (m+1) a0 a1 a2=some r):FX Tryz.prog 39 [.dat 39 a0,.dat 3 (.int a1),.ptr 0 [] 0] [.box 3 (.dat 3 (.int a2))] (.dat 4 (.bool r.1)) [.box 3 (.dat 3 (.int r.2))]:=
 fo hct Tryz.func39 rfl rfl aM5 ((aT5 m a0 a1 a2).trans h)
theorem Qs m (hct:CtH m):FE 41 aMO Ud (aM (m+1)):=fun a0 r h=>
 fo hct Tryz.func41 (dec:=d29) rfl rfl (SR.sim aM0) ((Pm m a0).trans h)
theorem Vq m (hct:CtH m):FE 22 aMP aUJ (fG (m+1)):=fun a0 r h=>
 fo hct Tryz.func22 (dec:=d13) rfl rfl (SR.sim aM1) ((SV m a0).trans h)
theorem aVf m (hct:CtH m):FE 21 aMQ aUI (i12 (m+1)):=fun a0 r h=>
 fo hct Tryz.func21 (dec:=d12) rfl rfl (SR.sim aM2) ((aT6 m a0).trans h)
theorem Vr m (hct:CtH m):FE 42 aMR sO (aS (m+1)):=fun a0 r h=>
 fo hct Tryz.func42 (dec:=d30) rfl rfl (SR.sim aM3) ((SX m a0).trans h)
theorem aVg m (hct:CtH m):FE 43 aCL aFf (i31 (m+1)):=fun a0 r h=>
 fo hct Tryz.func43 (dec:=d31) rfl rfl (SR.sim az7) ((aT7 m a0).trans h)
theorem aVh m (hct:CtH m):FE 98 aMS aFC (i79 (m+1)):=fun a0 r h=>
 fo hct Tryz.func98 (dec:=d79) rfl rfl (SR.sim aM4) ((aT8 m a0).trans h)
theorem Vs m (hct:CtH m):FE 99 azN aFD (bn (m+1)):=fun a0 r h=>
 fo hct Tryz.func99 (dec:=d80) rfl rfl (SR.sim aGh) ((SY m a0).trans h)
theorem Vt m (hct:CtH m):FE 44 azO adq (dD (m+1)):=fun a0 r h=>
 fo hct Tryz.func44 (dec:=d32) rfl rfl (SR.sim aGi) ((S9 m a0).trans h)
theorem Xi m (hct:CtH m):FE 45 azP El (aK (m+1)):=fun a0 r h=>
 fo hct Tryz.func45 (dec:=d33) rfl rfl (SR.sim aGj) ((WB m a0).trans h)
theorem aVi m (hct:CtH m):FE 100 azQ aFE (i81 (m+1)):=fun a0 r h=>
 fo hct Tryz.func100 (dec:=d81) rfl rfl (SR.sim aGk) ((aT9 m a0).trans h)
theorem Xj m (hct:CtH m):FE 20 auw Uc (aQ (m+1)):=fun a0 r h=>
 fo hct Tryz.func20 (dec:=d9) rfl rfl (SR.sim arw) ((WC m a0).trans h)
theorem aVj m (hct:CtH m):FE 46 azR aFg (i34 (m+1)):=fun a0 r h=>
 fo hct Tryz.func46 (dec:=d34) rfl rfl (SR.sim aGl) ((aUa m a0).trans h)
theorem aVk m (hct:CtH m):FE 47 aqD aFh (i35 (m+1)):=fun a0 r h=>
 fo hct Tryz.func47 (dec:=d35) rfl rfl (SR.sim auM) ((aUb m a0).trans h)
theorem Vu m (hct:CtH m):FE 49 azS aFj (fH (m+1)):=fun a0 r h=>
 fo hct Tryz.func49 (dec:=d37) rfl rfl (SR.sim aGm) ((Ta m a0).trans h)
theorem aVl m (hct:CtH m):FE 48 azT aFi (i36 (m+1)):=fun a0 r h=>
 fo hct Tryz.func48 (dec:=d36) rfl rfl (SR.sim aGn) ((aUc m a0).trans h)
theorem OY m (hct:CtH m):FE 51 azU aFl (dH (m+1)):=fun a0 r h=>
 fo hct Tryz.func51 (dec:=d39) rfl rfl (SR.sim aGo) ((Od m a0).trans h)
theorem aVm m (hct:CtH m):FE 50 azV aFk (i38 (m+1)):=fun a0 r h=>
 fo hct Tryz.func50 (dec:=d38) rfl rfl (SR.sim aGp) ((aUd m a0).trans h)
theorem Qt m (hct:CtH m):FE 23 azW awO (bW (m+1)):=fun a0 r h=>
 fo hct Tryz.func23 (dec:=d14) rfl rfl (SR.sim aGq) ((Pn m a0).trans h)
theorem abe m (hct:CtH m):FE 53 azX aul (iC (m+1)):=fun a0 r h=>
 fo hct Tryz.func53 (dec:=d41) rfl rfl (SR.sim aGr) ((Zl m a0).trans h)
theorem aVn m (hct:CtH m):FE 52 azY aFm (i40 (m+1)):=fun a0 r h=>
 fo hct Tryz.func52 (dec:=d40) rfl rfl (SR.sim aGs) ((aUe m a0).trans h)
theorem abf m (hct:CtH m):FE 55 azZ aum (iD (m+1)):=fun a0 r h=>
 fo hct Tryz.func55 (dec:=d43) rfl rfl (SR.sim aGt) ((Zm m a0).trans h)
theorem aVo m (hct:CtH m):FE 54 az0 aFo (i42 (m+1)):=fun a0 r h=>
 fo hct Tryz.func54 (dec:=d42) rfl rfl (SR.sim aGu) ((aUf m a0).trans h)
theorem aVp m (hct:CtH m):FE 24 az1 aFc (i15 (m+1)):=fun a0 r h=>
 fo hct Tryz.func24 (dec:=d15) rfl rfl (SR.sim aGv) ((aUg m a0).trans h)
theorem Vv m (hct:CtH m):FE 25 az2 Ej (aX (m+1)):=fun a0 r h=>
 fo hct Tryz.func25 (dec:=d16) rfl rfl (SR.sim aGw) ((Tc m a0).trans h)
theorem aVq m (hct:CtH m):FE 56 az3 aFp (i44 (m+1)):=fun a0 r h=>
 fo hct Tryz.func56 (dec:=d44) rfl rfl (SR.sim aGx) ((aUh m a0).trans h)
theorem Vw m (hct:CtH m):FE 57 az4 aFq (aZ (m+1)):=fun a0 r h=>
 fo hct Tryz.func57 (dec:=d45) rfl rfl (SR.sim aGy) ((Td m a0).trans h)
theorem anC m (hct:CtH m):FE 58 wE aFr (bF (m+1)):=fun a0 a1 a2 r h=>
 fo hct Tryz.func58 (dec:=d7) rfl rfl (SR.sim pY) ((alA m a0 a1 a2).trans h)
theorem apl m (hct:CtH m):FE 60 res1 aun (aC (m+1)):=fun a0 a1 r h=>
 fo hct Tryz.func60 (dec:=d17) rfl rfl (SR.sim aH) ((aoY m a0 a1).trans h)
theorem afj m (hct:CtH m):FE 61 res1 aFs (cu (m+1)):=fun a0 a1 r h=>
 fo hct Tryz.func61 (dec:=d17) rfl rfl (SR.sim aH) ((ac5 m a0 a1).trans h)
theorem abg m (hct:CtH m):FE 72 res1 aFu (aW (m+1)):=fun a0 a1 r h=>
 fo hct Tryz.func72 (dec:=d17) rfl rfl (SR.sim aH) ((Zn m a0 a1).trans h)
theorem apm m (hct:CtH m):FE 74 res1 aFA (bY (m+1)):=fun a0 a1 r h=>
 fo hct Tryz.func74 (dec:=d17) rfl rfl (SR.sim aH) ((aoZ m a0 a1).trans h)
theorem abh m (hct:CtH m):FE 79 res1 aus (fA (m+1)):=fun a0 r h=>
 fo hct Tryz.func79 (dec:=d17) rfl rfl (SR.sim aH) ((Zo m a0).trans h)
theorem Xk m (hct:CtH m):FE 78 res1 aFB (bL (m+1)):=fun a0 r h=>
 fo hct Tryz.func78 (dec:=d17) rfl rfl (SR.sim aH) ((WG m a0).trans h)
theorem ake m (hct:CtH m):FE 104 res1 qb (iY (m+1)):=fun a0 r h=>
 fo hct Tryz.func104 (dec:=d17) rfl rfl (SR.sim aH) ((ajF m a0).trans h)
theorem ahY m (hct:CtH m):FE 102 res1 qb (bX (m+1)):=fun a0 r h=>
 fo hct Tryz.func102 (dec:=d17) rfl rfl (SR.sim aH) ((agT m a0).trans h)
theorem ahZ m (hct:CtH m):FE 108 res1 qb (fZ (m+1)):=fun a0 r h=>
 fo hct Tryz.func108 (dec:=d17) rfl rfl (SR.sim aH) ((agU m a0).trans h)
theorem akf m (hct:CtH m):FE 106 res1 qb (gP (m+1)):=fun a0 r h=>
 fo hct Tryz.func106 (dec:=d17) rfl rfl (SR.sim aH) ((ajG m a0).trans h)
theorem apn m (hct:CtH m):FE 101 res1 Uc (vo (m+1)):=fun a0 r h=>
 fo hct Tryz.func101 (dec:=d17) rfl rfl (SR.sim aH) ((ao0 m a0).trans h)
theorem ah0 m (hct:CtH m):FE 103 res1 Uc (iZ (m+1)):=fun a0 r h=>
 fo hct Tryz.func103 (dec:=d17) rfl rfl (SR.sim aH) ((agY m a0).trans h)
theorem akg m (hct:CtH m):FE 73 res1 adr (jc (m+1)):=fun a0 a1 r h=>
 fo hct Tryz.func73 (dec:=d17) rfl rfl (SR.sim aH) ((ajH m a0 a1).trans h)
theorem apo m (hct:CtH m):FE 33 res1 adr (aL (m+1)):=fun a0 a1 r h=>
 fo hct Tryz.func33 (dec:=d17) rfl rfl (SR.sim aH) ((ao1 m a0 a1).trans h)
theorem Xl m (hct:CtH m):FE 13 res1 auj (gF (m+1)):=fun a0 a1 r h=>
 fo hct Tryz.func13 (dec:=d17) rfl rfl (SR.sim aH) ((WI m a0 a1).trans h)
theorem apq m (hct:CtH m):FE 62 res1 auo (dz (m+1)):=fun a0 a1 r h=>
 fo hct Tryz.func62 (dec:=d17) rfl rfl (SR.sim aH) ((ao2 m a0 a1).trans h)
theorem afk m (hct:CtH m):FE 29 res1 aui (aR (m+1)):=fun a0 a1 r h=>
 fo hct Tryz.func29 (dec:=d17) rfl rfl (SR.sim aH) ((ac6 m a0 a1).trans h)
theorem afl m (hct:CtH m):FE 63 res1 aFt (cB (m+1)):=fun a0 a1 r h=>
 fo hct Tryz.func63 (dec:=d17) rfl rfl (SR.sim aH) ((ac7 m a0 a1).trans h)
theorem apr m (hct:CtH m):FE 30 res1 auk (vw (m+1)):=fun a0 a1 r h=>
 fo hct Tryz.func30 (dec:=d17) rfl rfl (SR.sim aH) ((ao3 m a0 a1).trans h)
theorem abj m (hct:CtH m):FE 9 res1 aUF (jV (m+1)):=fun a0 a1 r h=>
 fo hct Tryz.func9 (dec:=d17) rfl rfl (SR.sim aH) ((Zv m a0 a1).trans h)
theorem afm m (hct:CtH m):FE 68 res1 auo (aD (m+1)):=fun a0 a1 r h=>
 fo hct Tryz.func68 (dec:=d17) rfl rfl (SR.sim aH) ((ade m a0 a1).trans h)
theorem afn m (hct:CtH m):FE 64 res1 aui (aY (m+1)):=fun a0 a1 r h=>
 fo hct Tryz.func64 (dec:=d17) rfl rfl (SR.sim aH) ((adf m a0 a1).trans h)
theorem Xm m (hct:CtH m):FE 67 res1 auj (dA (m+1)):=fun a0 a1 r h=>
 fo hct Tryz.func67 (dec:=d17) rfl rfl (SR.sim aH) ((WJ m a0 a1).trans h)
theorem abk m (hct:CtH m):FE 69 res1 aFw (jW (m+1)):=fun a0 a1 r h=>
 fo hct Tryz.func69 (dec:=d17) rfl rfl (SR.sim aH) ((Zw m a0 a1).trans h)
theorem Xn m (hct:CtH m):FE 70 res1 aFx (iU (m+1)):=fun a0 a1 r h=>
 fo hct Tryz.func70 (dec:=d17) rfl rfl (SR.sim aH) ((WK m a0 a1).trans h)
theorem afo m (hct:CtH m):FE 75 res1 El (dB (m+1)):=fun a0 r h=>
 fo hct Tryz.func75 (dec:=d17) rfl rfl (SR.sim aH) ((adg m a0).trans h)
theorem abl m (hct:CtH m):FE 76 res1 auq (iF (m+1)):=fun a0 r h=>
 fo hct Tryz.func76 (dec:=d17) rfl rfl (SR.sim aH) ((Zx m a0).trans h)
theorem Xo m (hct:CtH m):FE 77 res1 aur (dQ (m+1)):=fun a0 r h=>
 fo hct Tryz.func77 (dec:=d17) rfl rfl (SR.sim aH) ((WL m a0).trans h)
theorem RZ m (hct:CtH m):FE 112 res1 aup (cO (m+1)):=fun a0 a1 r h=>
 fo hct Tryz.func112 (dec:=d17) rfl rfl (SR.sim aH) ((Rz m a0 a1).trans h)
theorem Vx m (hct:CtH m):FE 65 res1 auk (bM (m+1)):=fun a0 a1 r h=>
 fo hct Tryz.func65 (dec:=d17) rfl rfl (SR.sim aH) ((Ua m a0 a1).trans h)
theorem anD m (hct:CtH m):FE 35 res1 Ej (qX (m+1)):=fun a0 r h=>
 fo hct Tryz.func35 (dec:=d17) rfl rfl (SR.sim aH) ((alB m a0).trans h)
theorem afp m (hct:CtH m):FE 66 res1 aup (ni (m+1)):=fun a0 a1 r h=>
 fo hct Tryz.func66 (dec:=d17) rfl rfl (SR.sim aH) ((ado m a0 a1).trans h)
theorem apt m (hct:CtH m):FE 10 res1 aUG (bg (m+1)):=fun a0 a1 r h=>
 fo hct Tryz.func10 (dec:=d17) rfl rfl (SR.sim aH) ((apJ m a0 a1).trans h)
theorem abm m (hct:CtH m):FE 31 res1 aFe (bH (m+1)):=fun a0 a1 r h=>
 fo hct Tryz.func31 (dec:=d17) rfl rfl (SR.sim aH) ((abr m a0 a1).trans h)
theorem Xp m (hct:CtH m):FE 71 res1 aFv (bO (m+1)):=fun a0 a1 r h=>
 fo hct Tryz.func71 (dec:=d17) rfl rfl (SR.sim aH) ((Xu m a0 a1).trans h)
theorem anE m (hct:CtH m):FE 113 aqD awO (qY (m+1)):=fun a0 r h=>
 fo hct Tryz.func113 (dec:=d35) rfl rfl (SR.sim auM) ((an9 m a0).trans h)
theorem ah1 m (hct:CtH m):FE 114 res1 adr (gM (m+1)):=fun a0 a1 r h=>
 fo hct Tryz.func114 (dec:=d17) rfl rfl (SR.sim aH) ((aib m a0 a1).trans h)
theorem apu m (hct:CtH m):FE 119 res1 Gr (eF (m+1)):=fun a0 r h=>
 fo hct Tryz.func119 (dec:=d17) rfl rfl (SR.sim aH) ((apK m a0).trans h)
theorem anF m (hct:CtH m):FE 105 res1 Ud (bG (m+1)):=fun a0 r h=>
 fo hct Tryz.func105 (dec:=d17) rfl rfl (SR.sim aH) ((aoa m a0).trans h)
theorem anG m (hct:CtH m):FE 88 dw aus (vJ (m+1)):=fun a0 r h=>
 fo hct Tryz.func88 (dec:=d70) rfl rfl (SR.sim dx) ((aoc m a0).trans h)
theorem akh m (hct:CtH m):FE 115 res1 Gr (bR (m+1)):=fun a0 r h=>
 fo hct Tryz.func115 (dec:=d17) rfl rfl (SR.sim aH) ((akw m a0).trans h)
theorem R3 m (hct:CtH m):FE 129 res1 qb (cZ (m+1)):=fun a0 r h=>
 fo hct Tryz.func129 (dec:=d17) rfl rfl (SR.sim aH) ((Sc m a0).trans h)
theorem Xq m (hct:CtH m):FE 131 res1 qb (gG (m+1)):=fun a0 r h=>
 fo hct Tryz.func131 (dec:=d17) rfl rfl (SR.sim aH) ((Xv m a0).trans h)
theorem Vy m (hct:CtH m):FE 135 res1 qb (dF (m+1)):=fun a0 r h=>
 fo hct Tryz.func135 (dec:=d17) rfl rfl (SR.sim aH) ((VF m a0).trans h)
theorem Vz m (hct:CtH m):FE 133 res1 qb (fJ (m+1)):=fun a0 r h=>
 fo hct Tryz.func133 (dec:=d17) rfl rfl (SR.sim aH) ((VG m a0).trans h)
theorem VA m (hct:CtH m):FE 130 res1 Uc (gW (m+1)):=fun a0 r h=>
 fo hct Tryz.func130 (dec:=d17) rfl rfl (SR.sim aH) ((VH m a0).trans h)
theorem VB m (hct:CtH m):FE 128 res1 alL (jR (m+1)):=fun a0 a1 r h=>
 fo hct Tryz.func128 (dec:=d17) rfl rfl (SR.sim aH) ((VI m a0 a1).trans h)
theorem avU m (hct:CtH m):FE 143 res1 qb (qx (m+1)):=fun a0 r h=>
 fo hct Tryz.func143 (dec:=d17) rfl rfl (SR.sim aH) ((av3 m a0).trans h)
theorem avV m (hct:CtH m):FE 142 res1 auu (xW (m+1)):=fun a0 r h=>
 fo hct Tryz.func142 (dec:=d17) rfl rfl (SR.sim aH) ((av4 m a0).trans h)
theorem anH m (hct:CtH m):FE 109 dw adq (iG (m+1)):=fun a0 r h=>
 fo hct Tryz.func109 (dec:=d70) rfl rfl (SR.sim dx) ((aod m a0).trans h)
theorem apv m (hct:CtH m):FE 87 dw Ej (zy (m+1)):=fun a0 r h=>
 fo hct Tryz.func87 (dec:=d70) rfl rfl (SR.sim dx) ((apL m a0).trans h)
theorem ah2 m (hct:CtH m):FE 145 res1 adq (jd (m+1)):=fun a0 r h=>
 fo hct Tryz.func145 (dec:=d17) rfl rfl (SR.sim aH) ((ais m a0).trans h)
theorem ah3 m (hct:CtH m):FE 144 res1 sO (gq (m+1)):=fun a0 r h=>
 fo hct Tryz.func144 (dec:=d17) rfl rfl (SR.sim aH) ((ait m a0).trans h)
theorem aki m (hct:CtH m):FE 146 res1 El (je (m+1)):=fun a0 r h=>
 fo hct Tryz.func146 (dec:=d17) rfl rfl (SR.sim aH) ((akx m a0).trans h)
theorem akj m (hct:CtH m):FE 110 res1 Uc (l5 (m+1)):=fun a0 r h=>
 fo hct Tryz.func110 (dec:=d17) rfl rfl (SR.sim aH) ((aky m a0).trans h)
theorem apw m (hct:CtH m):FE 148 res1 adr (zA (m+1)):=fun a0 a1 r h=>
 fo hct Tryz.func148 (dec:=d17) rfl rfl (SR.sim aH) ((apM m a0 a1).trans h)
theorem anI m (hct:CtH m):FE 117 dw aFF (mE (m+1)):=fun a0 r h=>
 fo hct Tryz.func117 (dec:=d70) rfl rfl (SR.sim dx) ((aog m a0).trans h)
theorem apx m (hct:CtH m):FE 149 wE alL (gX (m+1)):=fun a0 a1 r h=>
 fo hct Tryz.func149 (dec:=d7) rfl rfl (SR.sim pY) ((apN m a0 a1).trans h)
theorem anJ m (hct:CtH m):FE 150 wE aFH (oK (m+1)):=fun a0 a1 r h=>
 fo hct Tryz.func150 (dec:=d7) rfl rfl (SR.sim pY) ((aoh m a0 a1).trans h)
theorem ah4 m (hct:CtH m):FE 120 wE aun (aJ (m+1)):=fun a0 a1 r h=>
 fo hct Tryz.func120 (dec:=d7) rfl rfl (SR.sim pY) ((aiC m a0 a1).trans h)
theorem akk m (hct:CtH m):FE 174 res1 Gr (wJ (m+1)):=fun a0 r h=>
 fo hct Tryz.func174 (dec:=d17) rfl rfl (SR.sim aH) ((akz m a0).trans h)
theorem aNS m (hct:CtH m):FE 209 wE auv (i127 (m+1)):=fun a0 r h=>
 fo hct Tryz.func209 (dec:=d7) rfl rfl (SR.sim pY) ((aN8 m a0).trans h)
theorem aNT m (hct:CtH m):FE 173 res1 auv (aDf (m+1)):=fun a0 r h=>
 fo hct Tryz.func173 (dec:=d17) rfl rfl (SR.sim aH) ((aN9 m a0).trans h)
theorem apy m (hct:CtH m):FE 132 res1 Ud (pq (m+1)):=fun a0 r h=>
 fo hct Tryz.func132 (dec:=d17) rfl rfl (SR.sim aH) ((apO m a0).trans h)
theorem Xr m (hct:CtH m):FE 178 res1 qb (fC (m+1)):=fun a0 r h=>
 fo hct Tryz.func178 (dec:=d17) rfl rfl (SR.sim aH) ((XE m a0).trans h)
theorem anK m (hct:CtH m):FE 179 res1 auu (qZ (m+1)):=fun a0 r h=>
 fo hct Tryz.func179 (dec:=d17) rfl rfl (SR.sim aH) ((aol m a0).trans h)
theorem asw m (hct:CtH m):FE 136 dw adq (CU (m+1)):=fun a0 r h=>
 fo hct Tryz.func136 (dec:=d70) rfl rfl (SR.sim dx) ((asH m a0).trans h)
theorem Xt m (hct:CtH m):FE 180 res1 sO (gH (m+1)):=fun a0 r h=>
 fo hct Tryz.func180 (dec:=d17) rfl rfl (SR.sim aH) ((XF m a0).trans h)
theorem abn m (hct:CtH m):FE 181 res1 qb (jZ (m+1)):=fun a0 r h=>
 fo hct Tryz.func181 (dec:=d17) rfl rfl (SR.sim aH) ((abL m a0).trans h)
theorem OZ m (hct:CtH m):FE 182 res1 El (eG (m+1)):=fun a0 r h=>
 fo hct Tryz.func182 (dec:=d17) rfl rfl (SR.sim aH) ((O9 m a0).trans h)
theorem abo m (hct:CtH m):FE 137 res1 Uc (j5 (m+1)):=fun a0 r h=>
 fo hct Tryz.func137 (dec:=d17) rfl rfl (SR.sim aH) ((abM m a0).trans h)
theorem anL m (hct:CtH m):FE 210 wE ads (vP (m+1)):=fun a0 a1 r h=>
 fo hct Tryz.func210 (dec:=d7) rfl rfl (SR.sim pY) ((aon m a0 a1).trans h)
theorem aNU m (hct:CtH m) (a0:Dt) (a1 a2:Int) {r:Int×Int} (h:axE (m+1) a0 a1 a2=some r):FX Tryz.prog 238 [.dat 30 a0,(.fn 239 [.ptr 0 [] 0,.ptr 1 [] 0])] [.box 3 (.dat 3 (.int a1)),.box 3 (.dat 3 (.int a2))] (.tup []) [.box 3 (.dat 3 (.int r.1)),.box 3 (.dat 3 (.int r.2))]:=
 fo hct Tryz.func238 rfl rfl auO ((aOb m a0 a1 a2).trans h)
theorem aNV m (hct:CtH m) (a0:Dt) (a1 a2:Int) {r:Bool×Int×Int} (h:i159 (m+1) a0 a1 a2=some r):FX Tryz.prog 239 [.dat 30 a0,.ptr 0 [] 0,.ptr 1 [] 0] [.box 3 (.dat 3 (.int a1)),.box 3 (.dat 3 (.int a2))] (.dat 4 (.bool r.1)) [.box 3 (.dat 3 (.int r.2.1)),.box 3 (.dat 3 (.int r.2.2))]:=
 fo hct Tryz.func239 rfl rfl auP ((aOc m a0 a1 a2).trans h)
theorem anM m (hct:CtH m):FE 175 wE sO (ru (m+1)):=fun a0 r h=>
 fo hct Tryz.func175 (dec:=d7) rfl rfl (SR.sim pY) ((aos m a0).trans h)
theorem anN m (hct:CtH m):FE 211 wE ads (vQ (m+1)):=fun a0 a1 r h=>
 fo hct Tryz.func211 (dec:=d7) rfl rfl (SR.sim pY) ((aot m a0 a1).trans h)
theorem aNW m (hct:CtH m) (a0:Dt) (a1 a2:Int) {r:Int×Int} (h:i160 (m+1) a0 a1 a2=some r):FX Tryz.prog 238 [.dat 30 a0,(.fn 240 [.ptr 0 [] 0,.ptr 1 [] 0])] [.box 3 (.dat 3 (.int a1)),.box 3 (.dat 3 (.int a2))] (.tup []) [.box 3 (.dat 3 (.int r.1)),.box 3 (.dat 3 (.int r.2))]:=
 fo hct Tryz.func238 rfl rfl auO ((aOd m a0 a1 a2).trans h)
theorem aNX m (hct:CtH m) (a0:Dt) (a1 a2:Int) {r:Bool×Int×Int} (h:GK (m+1) a0 a1 a2=some r):FX Tryz.prog 240 [.dat 30 a0,.ptr 0 [] 0,.ptr 1 [] 0] [.box 3 (.dat 3 (.int a1)),.box 3 (.dat 3 (.int a2))] (.dat 4 (.bool r.1)) [.box 3 (.dat 3 (.int r.2.1)),.box 3 (.dat 3 (.int r.2.2))]:=
 fo hct Tryz.func240 rfl rfl auP ((aOe m a0 a1 a2).trans h)
theorem anO m (hct:CtH m):FE 176 wE sO (rz (m+1)):=fun a0 r h=>
 fo hct Tryz.func176 (dec:=d7) rfl rfl (SR.sim pY) ((aoy m a0).trans h)
theorem anP m (hct:CtH m):FE 245 res1 Gr (rA (m+1)):=fun a0 r h=>
 fo hct Tryz.func245 (dec:=d17) rfl rfl (SR.sim aH) ((aoz m a0).trans h)
theorem anQ m (hct:CtH m):FE 247 res1 sO (vR (m+1)):=fun a0 r h=>
 fo hct Tryz.func247 (dec:=d17) rfl rfl (SR.sim aH) ((aoA m a0).trans h)
theorem R4 m (hct:CtH m):FE 246 res1 Ud (iV (m+1)):=fun a0 r h=>
 fo hct Tryz.func246 (dec:=d17) rfl rfl (SR.sim aH) ((Sn m a0).trans h)
theorem apz m (hct:CtH m):FE 244 wE qb (CX (m+1)):=fun a0 r h=>
 fo hct Tryz.func244 (dec:=d7) rfl rfl (SR.sim pY) ((apP m a0).trans h)
theorem akl m (hct:CtH m):FE 243 res1 alL (Bl (m+1)):=fun a0 a1 r h=>
 fo hct Tryz.func243 (dec:=d17) rfl rfl (SR.sim aH) ((akG m a0 a1).trans h)
theorem anR m (hct:CtH m):FE 215 aCL sO (rF (m+1)):=fun a0 r h=>
 fo hct Tryz.func215 (dec:=d31) rfl rfl (SR.sim az7) ((aoE m a0).trans h)
theorem akm m (hct:CtH m):FE 184 wE ads (bV (m+1)):=fun a0 a1 r h=>
 fo hct Tryz.func184 (dec:=d7) rfl rfl (SR.sim pY) ((akH m a0 a1).trans h)
theorem anS m (hct:CtH m):FE 139 wE sO (rG (m+1)):=fun a0 r h=>
 fo hct Tryz.func139 (dec:=d7) rfl rfl (SR.sim pY) ((aoG m a0).trans h)
theorem anT m (hct:CtH m):FE 185 wE ads (eO (m+1)):=fun a0 a1 r h=>
 fo hct Tryz.func185 (dec:=d7) rfl rfl (SR.sim pY) ((aoI m a0 a1).trans h)
theorem anU m (hct:CtH m):FE 140 wE sO (rH (m+1)):=fun a0 r h=>
 fo hct Tryz.func140 (dec:=d7) rfl rfl (SR.sim pY) ((aoJ m a0).trans h)
theorem apA m (hct:CtH m):FE 216 res1 aFJ (zC (m+1)):=fun a0 a1 a2 r h=>
 fo hct Tryz.func216 (dec:=d17) rfl rfl (SR.sim aH) ((apR m a0 a1 a2).trans h)
theorem apB m (hct:CtH m):FE 186 res1 Gr (CY (m+1)):=fun a0 r h=>
 fo hct Tryz.func186 (dec:=d17) rfl rfl (SR.sim aH) ((apS m a0).trans h)
theorem apC m (hct:CtH m):FE 217 res1 Gr (zD (m+1)):=fun a0 r h=>
 fo hct Tryz.func217 (dec:=d17) rfl rfl (SR.sim aH) ((apT m a0).trans h)
theorem akn m (hct:CtH m):FE 141 res1 aut (aB (m+1)):=fun a0 a1 r h=>
 fo hct Tryz.func141 (dec:=d17) rfl rfl (SR.sim aH) ((akI m a0 a1).trans h)
theorem ako m (hct:CtH m):FE 187 res1 aut (bf (m+1)):=fun a0 a1 r h=>
 fo hct Tryz.func187 (dec:=d17) rfl rfl (SR.sim aH) ((akJ m a0 a1).trans h)
theorem anV m (hct:CtH m):FE 107 res1 sO (dJ (m+1)):=fun a0 r h=>
 fo hct Tryz.func107 (dec:=d17) rfl rfl (SR.sim aH) ((aoN m a0).trans h)
theorem anW m (hct:CtH m):FE 219 res1 Ud (zX (m+1)):=fun a0 r h=>
 fo hct Tryz.func219 (dec:=d17) rfl rfl (SR.sim aH) ((aoP m a0).trans h)
theorem apD m (hct:CtH m):FE 218 wE qb (Df (m+1)):=fun a0 r h=>
 fo hct Tryz.func218 (dec:=d7) rfl rfl (SR.sim pY) ((apU m a0).trans h)
theorem apE m (hct:CtH m):FE 188 dw El (zF (m+1)):=fun a0 r h=>
 fo hct Tryz.func188 (dec:=d70) rfl rfl (SR.sim dx) ((ao8 m a0).trans h)
theorem anX m (hct:CtH m):FE 147 az5 aFG (bS (m+1)):=fun a0 a1 a2 r h=>
 fo hct Tryz.func147 (dec:=aUK) rfl rfl (SR.sim aGz) ((alR m a0 a1 a2).trans h)
theorem anY m (hct:CtH m):FE 111 dw El (aV (m+1)):=fun a0 r h=>
 fo hct Tryz.func111 (dec:=d70) rfl rfl (SR.sim dx) ((alS m a0).trans h)
theorem apF m (hct:CtH m):FE 59 dw alK (aN (m+1)):=fun a0 a1 r h=>
 fo hct Tryz.func59 (dec:=d70) rfl rfl (SR.sim dx) ((ao9 m a0 a1).trans h)
theorem anZ m (hct:CtH m):FE 27 dw Uc (mG (m+1)):=fun a0 r h=>
 fo hct Tryz.func27 (dec:=d70) rfl rfl (SR.sim dx) ((alT m a0).trans h)
theorem an0 m (hct:CtH m):FE 8 aqE alJ (vX (m+1)):=fun a0 r h=>
 fo hct Tryz.func8 (dec:=d4) rfl rfl (SR.sim auN) ((alU m a0).trans h)
theorem an1 m (hct:CtH m):FE 80 dw awO (vY (m+1)):=fun a0 r h=>
 fo hct Tryz.func80 (dec:=d70) rfl rfl (SR.sim dx) ((alW m a0).trans h)
theorem apG m (hct:CtH m):FE 81 dw aFy (vZ (m+1)):=fun a0 r h=>
 fo hct Tryz.func81 (dec:=d70) rfl rfl (SR.sim dx) ((apb m a0).trans h)
theorem akp m (hct:CtH m):FE 86 dw Ej (rZ (m+1)):=fun a0 r h=>
 fo hct Tryz.func86 (dec:=d70) rfl rfl (SR.sim dx) ((ajJ m a0).trans h)
theorem akq m (hct:CtH m):FE 89 dw Ej (oM (m+1)):=fun a0 r h=>
 fo hct Tryz.func89 (dec:=d70) rfl rfl (SR.sim dx) ((ajK m a0).trans h)
theorem asx m (hct:CtH m):FE 116 dw aul (zY (m+1)):=fun a0 r h=>
 fo hct Tryz.func116 (dec:=d70) rfl rfl (SR.sim dx) ((arH m a0).trans h)
theorem an2 m (hct:CtH m):FE 82 dw auq (wh (m+1)):=fun a0 r h=>
 fo hct Tryz.func82 (dec:=d70) rfl rfl (SR.sim dx) ((alX m a0).trans h)
theorem asy m (hct:CtH m):FE 118 dw aum (zZ (m+1)):=fun a0 r h=>
 fo hct Tryz.func118 (dec:=d70) rfl rfl (SR.sim dx) ((arK m a0).trans h)
theorem akr m (hct:CtH m):FE 83 dw aur (oN (m+1)):=fun a0 r h=>
 fo hct Tryz.func83 (dec:=d70) rfl rfl (SR.sim dx) ((aj2 m a0).trans h)
theorem aks m (hct:CtH m):FE 15 dw aUH (aF (m+1)):=fun a0 a1 r h=>
 fo hct Tryz.func15 (dec:=d70) rfl rfl (SR.sim dx) ((aj3 m a0 a1).trans h)
theorem an3 m (hct:CtH m):FE 36 dw Ej (dR (m+1)):=fun a0 r h=>
 fo hct Tryz.func36 (dec:=d70) rfl rfl (SR.sim dx) ((alY m a0).trans h)
theorem akt m (hct:CtH m):FE 84 dw Ej (gY (m+1)):=fun a0 r h=>
 fo hct Tryz.func84 (dec:=d70) rfl rfl (SR.sim dx) ((aj4 m a0).trans h)
theorem aku m (hct:CtH m):FE 85 dw aFz (gZ (m+1)):=fun a0 r h=>
 fo hct Tryz.func85 (dec:=d70) rfl rfl (SR.sim dx) ((aj5 m a0).trans h)
theorem an4 m (hct:CtH m):FE 5 dw alJ (rJ (m+1)):=fun a0 r h=>
 fo hct Tryz.func5 (dec:=d70) rfl rfl (SR.sim dx) ((alZ m a0).trans h)
theorem akv m (hct:CtH m):FE 242 res1 Gr (wN (m+1)):=fun a0 r h=>
 fo hct Tryz.func242 (dec:=d17) rfl rfl (SR.sim aH) ((aj6 m a0).trans h)
theorem an5 m (hct:CtH m):FE 177 res1 sO (aI (m+1)):=fun a0 r h=>
 fo hct Tryz.func177 (dec:=d17) rfl rfl (SR.sim aH) ((al1 m a0).trans h)
theorem VD m (hct:CtH m):FE 213 res1 aFI (aG (m+1)):=fun a0 r h=>
 fo hct Tryz.func213 (dec:=d17) rfl rfl (SR.sim aH) ((Ug m a0).trans h)
theorem an6 m (hct:CtH m):FE 134 res1 sO (jA (m+1)):=fun a0 r h=>
 fo hct Tryz.func134 (dec:=d17) rfl rfl (SR.sim aH) ((al3 m a0).trans h)
theorem afq m (hct:CtH m):FE 214 dw El (qO (m+1)):=fun a0 r h=>
 fo hct Tryz.func214 (dec:=d70) rfl rfl (SR.sim dx) ((aex m a0).trans h)
theorem aNY m (hct:CtH m) (a0:Dt) (a1 a2:Int) {r:Int×Int} (h:OX (m+1) a0 a1 a2=some r):FX Tryz.prog 183 [.dat 36 a0,.dat 3 (.int a1),.ptr 0 [] 0] [.box 3 (.dat 3 (.int a2))] (.dat 23 (.int r.1)) [.box 3 (.dat 3 (.int r.2))]:=
 fo hct Tryz.func183 rfl rfl aGG ((aNh m a0 a1 a2).trans h)
theorem apH m (hct:CtH m):FE 138 dw El (sw (m+1)):=fun a0 r h=>
 fo hct Tryz.func138 (dec:=d70) rfl rfl (SR.sim dx) ((apd m a0).trans h)
theorem Qu m (hct:CtH m):FE 97 dw alK (fF (m+1)):=fun a0 a1 r h=>
 fo hct Tryz.func97 (dec:=d70) rfl rfl (SR.sim dx) ((PW m a0 a1).trans h)
theorem abp m (hct:CtH m):FE 40 dw alK (bC (m+1)):=fun a0 a1 r h=>
 fo hct Tryz.func40 (dec:=d70) rfl rfl (SR.sim dx) ((aaG m a0 a1).trans h)
theorem abq m (hct:CtH m):FE 19 dw Uc (kV (m+1)):=fun a0 r h=>
 fo hct Tryz.func19 (dec:=d70) rfl rfl (SR.sim dx) ((aaH m a0).trans h)
theorem ah5 m (hct:CtH m):FE 7 aqE alJ (pW (m+1)):=fun a0 r h=>
 fo hct Tryz.func7 (dec:=d4) rfl rfl (SR.sim auN) ((ahI m a0).trans h)
theorem Cw m (hct:CtH m):FE 3 res1 alJ (nR (m+1)):=fun a0 r h=>
 fo hct Tryz.func3 (dec:=d17) rfl rfl (SR.sim aH) ((RY m a0).trans h)
theorem aNZ m (hct:CtK m) (h:aUL m args objs K=some r):FQ 39 args objs K r:=by
 unfold aUL at h
 split at h
 ·rename_i l hl
  obtain⟨x,hx,hk⟩:=Option.bind_eq_some_iff.1 h
  obtain⟨h1,h2⟩:=aGB hl
  cases m with
  |zero=>cases hx
  |succ m=>exact⟨_,hk,(aVe m (hct m (Nat.lt_succ_self m)) _ _ _ hx).conv h1 h2,⟨_,Tryz.func39,rfl,by decide⟩⟩
 cases h
theorem aJs m (hct:CtK m) (h:aGC m args objs K=some r):FQ 183 args objs K r:=by
 unfold aGC at h
 split at h
 ·rename_i l hl
  obtain⟨x,hx,hk⟩:=Option.bind_eq_some_iff.1 h
  obtain⟨h1,h2⟩:=aCM hl
  cases m with
  |zero=>cases hx
  |succ m=>exact⟨_,hk,(aNY m (hct m (Nat.lt_succ_self m)) _ _ _ hx).conv h1 h2,⟨_,Tryz.func183,rfl,by decide⟩⟩
 cases h
theorem aJt m (hct:CtK m) (h:aGD m args objs K=some r):FQ 238 args objs K r:=by
 unfold aGD at h
 split at h
 ·rename_i l hl
  obtain⟨x,hx,hk⟩:=Option.bind_eq_some_iff.1 h
  obtain⟨h1,h2⟩:=aCN hl
  cases m with
  |zero=>cases hx
  |succ m=>exact⟨_,hk,(aNU m (hct m (Nat.lt_succ_self m)) _ _ _ hx).conv h1 h2,⟨_,Tryz.func238,rfl,by decide⟩⟩
 split at h
 ·rename_i l hl
  obtain⟨x,hx,hk⟩:=Option.bind_eq_some_iff.1 h
  obtain⟨h1,h2⟩:=aCO hl
  cases m with
  |zero=>cases hx
  |succ m=>exact⟨_,hk,(aNW m (hct m (Nat.lt_succ_self m)) _ _ _ hx).conv h1 h2,⟨_,Tryz.func238,rfl,by decide⟩⟩
 cases h
theorem aJu m (hct:CtK m) (h:aGE m args objs K=some r):FQ 239 args objs K r:=by
 unfold aGE at h
 split at h
 ·rename_i l hl
  obtain⟨x,hx,hk⟩:=Option.bind_eq_some_iff.1 h
  obtain⟨h1,h2⟩:=aqF hl
  cases m with
  |zero=>cases hx
  |succ m=>exact⟨_,hk,(aNV m (hct m (Nat.lt_succ_self m)) _ _ _ hx).conv h1 h2,⟨_,Tryz.func239,rfl,by decide⟩⟩
 cases h
theorem aJv m (hct:CtK m) (h:aGF m args objs K=some r):FQ 240 args objs K r:=by
 unfold aGF at h
 split at h
 ·rename_i l hl
  obtain⟨x,hx,hk⟩:=Option.bind_eq_some_iff.1 h
  obtain⟨h1,h2⟩:=aqF hl
  cases m with
  |zero=>cases hx
  |succ m=>exact⟨_,hk,(aNX m (hct m (Nat.lt_succ_self m)) _ _ _ hx).conv h1 h2,⟨_,Tryz.func240,rfl,by decide⟩⟩
 cases h
end
theorem aVr m (ck:CtK m) (f:FuncId) (e:Ent):ctE m f=some e→EOK Tryz.prog f e:=
 .st (fe m ck adt ⟨_,Tryz.func3,rfl,by decide⟩ Cw (fun _=>rfl))<|
 .st (fe m ck adt ⟨_,Tryz.func5,rfl,by decide⟩ an4 (fun _=>rfl))<|
 .st ⟨aMT,fun r h=>aDe h,⟨_,Tryz.func6,rfl,by decide⟩⟩<|
 .st (fe m ck adt ⟨_,Tryz.func7,rfl,by decide⟩ ah5 (fun _=>rfl))<|
 .st (fe m ck adt ⟨_,Tryz.func8,rfl,by decide⟩ an0 (fun _=>rfl))<|
 .st (fe m ck aMU ⟨_,Tryz.func9,rfl,by decide⟩ abj (fun _ _=>rfl))<|
 .st (fe m ck aMV ⟨_,Tryz.func10,rfl,by decide⟩ apt (fun _ _=>rfl))<|
 .st (fe m ck az6 ⟨_,Tryz.func14,rfl,by decide⟩ anB (fun _ _=>rfl))<|
 .st (fe m ck aMW ⟨_,Tryz.func15,rfl,by decide⟩ aks (fun _ _=>rfl))<|
 .st (fe m ck adt ⟨_,Tryz.func18,rfl,by decide⟩ akc (fun _=>rfl))<|
 .st (fe m ck KM ⟨_,Tryz.func19,rfl,by decide⟩ abq (fun _=>rfl))<|
 .st (fe m ck KM ⟨_,Tryz.func20,rfl,by decide⟩ Xj (fun _=>rfl))<|
 .st (fe m ck aMX ⟨_,Tryz.func21,rfl,by decide⟩ aVf (fun _=>rfl))<|
 .st (fe m ck aMY ⟨_,Tryz.func22,rfl,by decide⟩ Vq (fun _=>rfl))<|
 .st (fe m ck arv ⟨_,Tryz.func23,rfl,by decide⟩ Qt (fun _=>rfl))<|
 .st (fe m ck aFK ⟨_,Tryz.func24,rfl,by decide⟩ aVp (fun _=>rfl))<|
 .st (fe m ck Em ⟨_,Tryz.func25,rfl,by decide⟩ Vv (fun _=>rfl))<|
 .st (fe m ck aFL ⟨_,Tryz.func26,rfl,by decide⟩ avT (fun _ _ _=>rfl))<|
 .st (fe m ck az6 ⟨_,Tryz.func28,rfl,by decide⟩ anA (fun _ _=>rfl))<|
 .st (fe m ck KM ⟨_,Tryz.func27,rfl,by decide⟩ anZ (fun _=>rfl))<|
 .st (fe m ck auy ⟨_,Tryz.func29,rfl,by decide⟩ afk (fun _ _=>rfl))<|
 .st (fe m ck auz ⟨_,Tryz.func13,rfl,by decide⟩ Xl (fun _ _=>rfl))<|
 .st (fe m ck auA ⟨_,Tryz.func30,rfl,by decide⟩ apr (fun _ _=>rfl))<|
 .st (fe m ck aFM ⟨_,Tryz.func31,rfl,by decide⟩ abm (fun _ _=>rfl))<|
 .st (fe m ck Em ⟨_,Tryz.func34,rfl,by decide⟩ akd (fun _=>rfl))<|
 .st (fe m ck Em ⟨_,Tryz.func36,rfl,by decide⟩ an3 (fun _=>rfl))<|
 .st (fe m ck Em ⟨_,Tryz.func35,rfl,by decide⟩ anD (fun _=>rfl))<|
 .st (fe m ck alM ⟨_,Tryz.func40,rfl,by decide⟩ abp (fun _ _=>rfl))<|
 .st (fe m ck Ue ⟨_,Tryz.func41,rfl,by decide⟩ Qs (fun _=>rfl))<|
 .st (fe m ck sP ⟨_,Tryz.func42,rfl,by decide⟩ Vr (fun _=>rfl))<|
 .st (fe m ck aFN ⟨_,Tryz.func43,rfl,by decide⟩ aVg (fun _=>rfl))<|
 .st (fe m ck adu ⟨_,Tryz.func44,rfl,by decide⟩ Vt (fun _=>rfl))<|
 .st (fe m ck En ⟨_,Tryz.func45,rfl,by decide⟩ Xi (fun _=>rfl))<|
 .st (fe m ck aFO ⟨_,Tryz.func46,rfl,by decide⟩ aVj (fun _=>rfl))<|
 .st (fe m ck aFP ⟨_,Tryz.func47,rfl,by decide⟩ aVk (fun _=>rfl))<|
 .st (fe m ck aFQ ⟨_,Tryz.func48,rfl,by decide⟩ aVl (fun _=>rfl))<|
 .st (fe m ck aFR ⟨_,Tryz.func49,rfl,by decide⟩ Vu (fun _=>rfl))<|
 .st (fe m ck aFS ⟨_,Tryz.func50,rfl,by decide⟩ aVm (fun _=>rfl))<|
 .st (fe m ck aFT ⟨_,Tryz.func51,rfl,by decide⟩ OY (fun _=>rfl))<|
 .st (fe m ck aFU ⟨_,Tryz.func52,rfl,by decide⟩ aVn (fun _=>rfl))<|
 .st (fe m ck auB ⟨_,Tryz.func53,rfl,by decide⟩ abe (fun _=>rfl))<|
 .st (fe m ck aFV ⟨_,Tryz.func54,rfl,by decide⟩ aVo (fun _=>rfl))<|
 .st (fe m ck auC ⟨_,Tryz.func55,rfl,by decide⟩ abf (fun _=>rfl))<|
 .st (fe m ck aFW ⟨_,Tryz.func56,rfl,by decide⟩ aVq (fun _=>rfl))<|
 .st (fe m ck aFX ⟨_,Tryz.func57,rfl,by decide⟩ Vw (fun _=>rfl))<|
 .st (fe m ck aFY ⟨_,Tryz.func58,rfl,by decide⟩ anC (fun _ _ _=>rfl))<|
 .st (fe m ck alM ⟨_,Tryz.func59,rfl,by decide⟩ apF (fun _ _=>rfl))<|
 .st (fe m ck adv ⟨_,Tryz.func33,rfl,by decide⟩ apo (fun _ _=>rfl))<|
 .st (fe m ck auD ⟨_,Tryz.func60,rfl,by decide⟩ apl (fun _ _=>rfl))<|
 .st (fe m ck aFZ ⟨_,Tryz.func61,rfl,by decide⟩ afj (fun _ _=>rfl))<|
 .st (fe m ck auE ⟨_,Tryz.func62,rfl,by decide⟩ apq (fun _ _=>rfl))<|
 .st (fe m ck aF0 ⟨_,Tryz.func63,rfl,by decide⟩ afl (fun _ _=>rfl))<|
 .st (fe m ck aF1 ⟨_,Tryz.func72,rfl,by decide⟩ abg (fun _ _=>rfl))<|
 .st (fe m ck aF2 ⟨_,Tryz.func71,rfl,by decide⟩ Xp (fun _ _=>rfl))<|
 .st (fe m ck auE ⟨_,Tryz.func68,rfl,by decide⟩ afm (fun _ _=>rfl))<|
 .st (fe m ck aF3 ⟨_,Tryz.func69,rfl,by decide⟩ abk (fun _ _=>rfl))<|
 .st (fe m ck aF4 ⟨_,Tryz.func70,rfl,by decide⟩ Xn (fun _ _=>rfl))<|
 .st (fe m ck auy ⟨_,Tryz.func64,rfl,by decide⟩ afn (fun _ _=>rfl))<|
 .st (fe m ck auA ⟨_,Tryz.func65,rfl,by decide⟩ Vx (fun _ _=>rfl))<|
 .st (fe m ck auF ⟨_,Tryz.func66,rfl,by decide⟩ afp (fun _ _=>rfl))<|
 .st (fe m ck auz ⟨_,Tryz.func67,rfl,by decide⟩ Xm (fun _ _=>rfl))<|
 .st (fe m ck arv ⟨_,Tryz.func80,rfl,by decide⟩ an1 (fun _=>rfl))<|
 .st (fe m ck aF5 ⟨_,Tryz.func81,rfl,by decide⟩ apG (fun _=>rfl))<|
 .st (fe m ck auG ⟨_,Tryz.func82,rfl,by decide⟩ an2 (fun _=>rfl))<|
 .st (fe m ck auH ⟨_,Tryz.func83,rfl,by decide⟩ akr (fun _=>rfl))<|
 .st (fe m ck Em ⟨_,Tryz.func84,rfl,by decide⟩ akt (fun _=>rfl))<|
 .st (fe m ck aF6 ⟨_,Tryz.func85,rfl,by decide⟩ aku (fun _=>rfl))<|
 .st (fe m ck Em ⟨_,Tryz.func86,rfl,by decide⟩ akp (fun _=>rfl))<|
 .st (fe m ck Em ⟨_,Tryz.func87,rfl,by decide⟩ apv (fun _=>rfl))<|
 .st (fe m ck auI ⟨_,Tryz.func88,rfl,by decide⟩ anG (fun _=>rfl))<|
 .st (fe m ck Em ⟨_,Tryz.func89,rfl,by decide⟩ akq (fun _=>rfl))<|
 .st (fe m ck aF7 ⟨_,Tryz.func74,rfl,by decide⟩ apm (fun _ _=>rfl))<|
 .st (fe m ck En ⟨_,Tryz.func75,rfl,by decide⟩ afo (fun _=>rfl))<|
 .st (fe m ck auI ⟨_,Tryz.func79,rfl,by decide⟩ abh (fun _=>rfl))<|
 .st (fe m ck auG ⟨_,Tryz.func76,rfl,by decide⟩ abl (fun _=>rfl))<|
 .st (fe m ck auH ⟨_,Tryz.func77,rfl,by decide⟩ Xo (fun _=>rfl))<|
 .st (fe m ck aF8 ⟨_,Tryz.func78,rfl,by decide⟩ Xk (fun _=>rfl))<|
 .st (fe m ck alM ⟨_,Tryz.func97,rfl,by decide⟩ Qu (fun _ _=>rfl))<|
 .st (fe m ck aF9 ⟨_,Tryz.func98,rfl,by decide⟩ aVh (fun _=>rfl))<|
 .st (fe m ck aGa ⟨_,Tryz.func99,rfl,by decide⟩ Vs (fun _=>rfl))<|
 .st (fe m ck aGb ⟨_,Tryz.func100,rfl,by decide⟩ aVi (fun _=>rfl))<|
 .st (fe m ck qc ⟨_,Tryz.func104,rfl,by decide⟩ ake (fun _=>rfl))<|
 .st (fe m ck Ue ⟨_,Tryz.func105,rfl,by decide⟩ anF (fun _=>rfl))<|
 .st (fe m ck qc ⟨_,Tryz.func106,rfl,by decide⟩ akf (fun _=>rfl))<|
 .st (fe m ck sP ⟨_,Tryz.func107,rfl,by decide⟩ anV (fun _=>rfl))<|
 .st (fe m ck qc ⟨_,Tryz.func102,rfl,by decide⟩ ahY (fun _=>rfl))<|
 .st (fe m ck adu ⟨_,Tryz.func109,rfl,by decide⟩ anH (fun _=>rfl))<|
 .st (fe m ck KM ⟨_,Tryz.func110,rfl,by decide⟩ akj (fun _=>rfl))<|
 .st (fe m ck En ⟨_,Tryz.func111,rfl,by decide⟩ anY (fun _=>rfl))<|
 .st (fe m ck qc ⟨_,Tryz.func108,rfl,by decide⟩ ahZ (fun _=>rfl))<|
 .st (fe m ck KM ⟨_,Tryz.func101,rfl,by decide⟩ apn (fun _=>rfl))<|
 .st (fe m ck KM ⟨_,Tryz.func103,rfl,by decide⟩ ah0 (fun _=>rfl))<|
 .st (fe m ck adv ⟨_,Tryz.func73,rfl,by decide⟩ akg (fun _ _=>rfl))<|
 .st (fe m ck auF ⟨_,Tryz.func112,rfl,by decide⟩ RZ (fun _ _=>rfl))<|
 .st (fe m ck arv ⟨_,Tryz.func113,rfl,by decide⟩ anE (fun _=>rfl))<|
 .st (fe m ck adv ⟨_,Tryz.func114,rfl,by decide⟩ ah1 (fun _ _=>rfl))<|
 .st (fe m ck Eo ⟨_,Tryz.func115,rfl,by decide⟩ akh (fun _=>rfl))<|
 .st (fe m ck auB ⟨_,Tryz.func116,rfl,by decide⟩ asx (fun _=>rfl))<|
 .st (fe m ck aGc ⟨_,Tryz.func117,rfl,by decide⟩ anI (fun _=>rfl))<|
 .st (fe m ck auC ⟨_,Tryz.func118,rfl,by decide⟩ asy (fun _=>rfl))<|
 .st (fe m ck Eo ⟨_,Tryz.func119,rfl,by decide⟩ apu (fun _=>rfl))<|
 .st (fe m ck auD ⟨_,Tryz.func120,rfl,by decide⟩ ah4 (fun _ _=>rfl))<|
 .st (fe m ck qc ⟨_,Tryz.func129,rfl,by decide⟩ R3 (fun _=>rfl))<|
 .st (fe m ck qc ⟨_,Tryz.func131,rfl,by decide⟩ Xq (fun _=>rfl))<|
 .st (fe m ck Ue ⟨_,Tryz.func132,rfl,by decide⟩ apy (fun _=>rfl))<|
 .st (fe m ck qc ⟨_,Tryz.func133,rfl,by decide⟩ Vz (fun _=>rfl))<|
 .st (fe m ck sP ⟨_,Tryz.func134,rfl,by decide⟩ an6 (fun _=>rfl))<|
 .st (fe m ck adu ⟨_,Tryz.func136,rfl,by decide⟩ asw (fun _=>rfl))<|
 .st (fe m ck KM ⟨_,Tryz.func137,rfl,by decide⟩ abo (fun _=>rfl))<|
 .st (fe m ck En ⟨_,Tryz.func138,rfl,by decide⟩ apH (fun _=>rfl))<|
 .st (fe m ck qc ⟨_,Tryz.func135,rfl,by decide⟩ Vy (fun _=>rfl))<|
 .st (fe m ck KM ⟨_,Tryz.func130,rfl,by decide⟩ VA (fun _=>rfl))<|
 .st (fe m ck alN ⟨_,Tryz.func128,rfl,by decide⟩ VB (fun _ _=>rfl))<|
 .st (fe m ck sP ⟨_,Tryz.func139,rfl,by decide⟩ anS (fun _=>rfl))<|
 .st (fe m ck sP ⟨_,Tryz.func140,rfl,by decide⟩ anU (fun _=>rfl))<|
 .st (fe m ck auJ ⟨_,Tryz.func141,rfl,by decide⟩ akn (fun _ _=>rfl))<|
 .st (fe m ck auK ⟨_,Tryz.func142,rfl,by decide⟩ avV (fun _=>rfl))<|
 .st (fe m ck qc ⟨_,Tryz.func143,rfl,by decide⟩ avU (fun _=>rfl))<|
 .st (fe m ck En ⟨_,Tryz.func146,rfl,by decide⟩ aki (fun _=>rfl))<|
 .st (fe m ck adu ⟨_,Tryz.func145,rfl,by decide⟩ ah2 (fun _=>rfl))<|
 .st (fe m ck sP ⟨_,Tryz.func144,rfl,by decide⟩ ah3 (fun _=>rfl))<|
 .st (fe m ck aGd ⟨_,Tryz.func147,rfl,by decide⟩ anX (fun _ _ _=>rfl))<|
 .st (fe m ck adv ⟨_,Tryz.func148,rfl,by decide⟩ apw (fun _ _=>rfl))<|
 .st (fe m ck alN ⟨_,Tryz.func149,rfl,by decide⟩ apx (fun _ _=>rfl))<|
 .st (fe m ck aGe ⟨_,Tryz.func150,rfl,by decide⟩ anJ (fun _ _=>rfl))<|
 .st (fe m ck auL ⟨_,Tryz.func173,rfl,by decide⟩ aNT (fun _=>rfl))<|
 .st (fe m ck auL ⟨_,Tryz.func209,rfl,by decide⟩ aNS (fun _=>rfl))<|
 .st (fe m ck Eo ⟨_,Tryz.func174,rfl,by decide⟩ akk (fun _=>rfl))<|
 .st (fe m ck sP ⟨_,Tryz.func175,rfl,by decide⟩ anM (fun _=>rfl))<|
 .st (fe m ck sP ⟨_,Tryz.func176,rfl,by decide⟩ anO (fun _=>rfl))<|
 .st (fe m ck sP ⟨_,Tryz.func177,rfl,by decide⟩ an5 (fun _=>rfl))<|
 .st (fe m ck auK ⟨_,Tryz.func179,rfl,by decide⟩ anK (fun _=>rfl))<|
 .st (fe m ck qc ⟨_,Tryz.func178,rfl,by decide⟩ Xr (fun _=>rfl))<|
 .st (fe m ck sP ⟨_,Tryz.func180,rfl,by decide⟩ Xt (fun _=>rfl))<|
 .st (fe m ck qc ⟨_,Tryz.func181,rfl,by decide⟩ abn (fun _=>rfl))<|
 .st (fe m ck En ⟨_,Tryz.func182,rfl,by decide⟩ OZ (fun _=>rfl))<|
 .st (fe m ck En ⟨_,Tryz.func214,rfl,by decide⟩ afq (fun _=>rfl))<|
 .st (fe m ck adw ⟨_,Tryz.func184,rfl,by decide⟩ akm (fun _ _=>rfl))<|
 .st (fe m ck adw ⟨_,Tryz.func185,rfl,by decide⟩ anT (fun _ _=>rfl))<|
 .st (fe m ck Eo ⟨_,Tryz.func186,rfl,by decide⟩ apB (fun _=>rfl))<|
 .st (fe m ck auJ ⟨_,Tryz.func187,rfl,by decide⟩ ako (fun _ _=>rfl))<|
 .st (fe m ck En ⟨_,Tryz.func188,rfl,by decide⟩ apE (fun _=>rfl))<|
 .st (fe m ck adw ⟨_,Tryz.func210,rfl,by decide⟩ anL (fun _ _=>rfl))<|
 .st (fe m ck adw ⟨_,Tryz.func211,rfl,by decide⟩ anN (fun _ _=>rfl))<|
 .st ⟨Eo,fun _ r h=>Uv h,⟨_,Tryz.func212,rfl,by decide⟩⟩<|
 .st (fe m ck aGf ⟨_,Tryz.func213,rfl,by decide⟩ VD (fun _=>rfl))<|
 .st (fe m ck Eo ⟨_,Tryz.func245,rfl,by decide⟩ anP (fun _=>rfl))<|
 .st (fe m ck sP ⟨_,Tryz.func247,rfl,by decide⟩ anQ (fun _=>rfl))<|
 .st (fe m ck Ue ⟨_,Tryz.func246,rfl,by decide⟩ R4 (fun _=>rfl))<|
 .st (fe m ck qc ⟨_,Tryz.func244,rfl,by decide⟩ apz (fun _=>rfl))<|
 .st (fe m ck alN ⟨_,Tryz.func243,rfl,by decide⟩ akl (fun _ _=>rfl))<|
 .st (fe m ck sP ⟨_,Tryz.func215,rfl,by decide⟩ anR (fun _=>rfl))<|
 .st (fe m ck aGg ⟨_,Tryz.func216,rfl,by decide⟩ apA (fun _ _ _=>rfl))<|
 .st (fe m ck Eo ⟨_,Tryz.func217,rfl,by decide⟩ apC (fun _=>rfl))<|
 .st (fe m ck Ue ⟨_,Tryz.func219,rfl,by decide⟩ anW (fun _=>rfl))<|
 .st (fe m ck qc ⟨_,Tryz.func218,rfl,by decide⟩ apD (fun _=>rfl))<|
 .st (fe m ck Eo ⟨_,Tryz.func242,rfl,by decide⟩ akv (fun _=>rfl))<|
 nofun
theorem aVs m (ck:CtK m) {R:Type} {f:FuncId} {args:List AV} {objs:List Ob} {K:Res→Option R} {r:R} (h:ctX m f args objs K=some r):FQ f args objs K r:=by
 unfold ctX at h
 rcases uh h with⟨hb,h1⟩| ⟨_,h⟩
 ·cases beq_eq hb;exact aNZ m ck h1
 rcases uh h with⟨hb,h1⟩| ⟨_,h⟩
 ·cases beq_eq hb;exact aJs m ck h1
 rcases uh h with⟨hb,h1⟩| ⟨_,h⟩
 ·cases beq_eq hb;exact aJt m ck h1
 rcases uh h with⟨hb,h1⟩| ⟨_,h⟩
 ·cases beq_eq hb;exact aJu m ck h1
 rcases uh h with⟨hb,h1⟩| ⟨_,h⟩
 ·cases beq_eq hb;exact aJv m ck h1
 cases h
theorem aWW (m:Nat):CtH m:=Nat.strongRecOn m fun m ck R f args objs K r h=>by
 unfold ct at h
 split at h
 ·rename_i e he
  exact(aVr m ck f e he).run h
 ·exact aVs m ck h
end Go.Proofs.YtjnkagkoolbodaaGreatDoor
