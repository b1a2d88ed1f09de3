/- Generated: the contracts. -/
import Derived.Test.YtmecfjhdnbgfeaaGreatDoorEq0
import Derived.Test.YtmecfjhdnbgfeaaGreatDoorEq1
import Derived.Test.YtmecfjhdnbgfeaaGreatDoorEq2
set_option linter.unusedVariables false
set_option linter.unusedSimpArgs false
namespace Go.Proofs.YtmecfjhdnbgfeaaGreatDoor
open Go.Am
set_option maxRecDepth 100000
theorem mixed:Tryz.prog.follows .mixedOrders=true:=by kernel_rfl
abbrev CtH (m:Nat):Prop:=∀R,CallOK (R:=R) Tryz.prog (ct m)
abbrev CtK (m:Nat):Prop:=∀k,k<m→CtH k
abbrev FQ {R:Type} (f:Nat) (args:List AV) (objs:List Ob) (K:Res→Option R) (r:R):Prop:=∃q:Res,K q=some r∧FX Tryz.prog f args objs q.1 q.2∧HasBody Tryz.prog f
theorem fo {R:Type} {m f:Nat} {fn:Func} {c:Code} {args:List AV} {objs:List Ob} {res:AV} {ro:List Ob} {dec:Res→Option R} {r:R} (hct:CtH m) (hf:Tryz.prog.funcs[f]? =some fn) (hc:fn.body=some c) (hl:Nat.ble args.length fn.ntmps=true) (hd:∀{b:Res},dec b=some r→Sim Tryz.prog b (res,ro)) (h:ev Tryz.prog env (ct m) jn (m+1) f fn.ntmps c ⟨args,objs,objs.length⟩ (fun e σ=>(Tf Tryz.prog env f fn e σ).bind dec)=some r):FX Tryz.prog f args objs res ro:=
 FX_of (q:=(res,ro)) (E:=env) (m:=m+1) (dec:=dec) jn_ok (hct _) mixed hf hc (Nat.le_of_ble_eq_true hl) (fun _ hb=>hd hb) h
abbrev FE (f:FuncId) (s:SR) (sh:List SA) (F:CF sh (Option s.T)):Prop:=FG Tryz.prog f s sh F fun l=>l
theorem fe {f:FuncId} {s:SR} {sh:List SA} {X:Nat→CF sh (Option s.T)} (m:Nat) (ck:CtK m) (ho:oksA Tryz.prog sh) (hb:HasBody Tryz.prog f) (h1:∀m,CtH m→FE f s sh (X (m+1))) (h0:FZ sh (X 0)):EOK Tryz.prog f ⟨sh,s,X m⟩:=
 ⟨ho,match m,ck with
  |0,_=>h0.fg
  |m+1,ck=>h1 m (ck m (Nat.lt_succ_self m)),hb⟩
section
variable {R:Type} {args:List AV} {objs:List Ob} {K:Res→Option R} {r:R}
theorem Fz m (hct:CtH m):FE 13 cO anj (aZ (m+1)):=fun a0 a1 r h=>
 fo hct Tryz.func13 (dec:=d5) rfl rfl (SR.sim bC) ((FI m a0 a1).trans h)
theorem OT m (hct:CtH m):FE 42 cO EB (bH (m+1)):=fun a0 a1 r h=>
 fo hct Tryz.func42 (dec:=d5) rfl rfl (SR.sim bC) ((Pq m a0 a1).trans h)
theorem Bd m (hct:CtH m):FE 58 res1 oh (aL (m+1)):=fun a0 r h=>
 fo hct Tryz.func58 (dec:=d16) rfl rfl (SR.sim aW) ((Bg m a0).trans h)
theorem OU m (hct:CtH m):FE 59 res1 Xd (rz (m+1)):=fun r h=>
 fo hct Tryz.func59 (dec:=d16) rfl rfl (SR.sim aW) ((Pv m).trans h)
theorem OV m (hct:CtH m):FE 83 res1 oh (aJ (m+1)):=fun a0 r h=>
 fo hct Tryz.func83 (dec:=d16) rfl rfl (SR.sim aW) ((Pw m a0).trans h)
theorem Ef m (hct:CtH m):FE 48 res1 vT (mh (m+1)):=fun a0 r h=>
 fo hct Tryz.func48 (dec:=d16) rfl rfl (SR.sim aW) ((Em m a0).trans h)
theorem Eh m (hct:CtH m):FE 47 res1 Jf (fB (m+1)):=fun a0 a1 r h=>
 fo hct Tryz.func47 (dec:=d16) rfl rfl (SR.sim aW) ((En m a0 a1).trans h)
theorem OW m (hct:CtH m):FE 60 res2 y9 (bI (m+1)):=fun a0 a1 r h=>
 fo hct Tryz.func60 (dec:=d31) rfl rfl (SR.sim fF) ((Px m a0 a1).trans h)
theorem Mt m (hct:CtH m):FE 61 res2 ab6 (iq (m+1)):=fun a0 a1 r h=>
 fo hct Tryz.func61 (dec:=d31) rfl rfl (SR.sim fF) ((Nh m a0 a1).trans h)
theorem Hu m (hct:CtH m):FE 21 res2 EB (aA (m+1)):=fun a0 a1 r h=>
 fo hct Tryz.func21 (dec:=d31) rfl rfl (SR.sim fF) ((Ij m a0 a1).trans h)
theorem Hw m (hct:CtH m):FE 91 res1 vT (oP (m+1)):=fun a0 r h=>
 fo hct Tryz.func91 (dec:=d16) rfl rfl (SR.sim aW) ((Ik m a0).trans h)
theorem Hy m (hct:CtH m):FE 52 res1 Jf (iw (m+1)):=fun a0 a1 r h=>
 fo hct Tryz.func52 (dec:=d16) rfl rfl (SR.sim aW) ((Il m a0 a1).trans h)
theorem Tt m (hct:CtH m):FE 128 cO vT (qg (m+1)):=fun a0 r h=>
 fo hct Tryz.func128 (dec:=d5) rfl rfl (SR.sim bC) ((TL m a0).trans h)
theorem Mw m (hct:CtH m):FE 86 res2 y9 (cZ (m+1)):=fun a0 a1 r h=>
 fo hct Tryz.func86 (dec:=d31) rfl rfl (SR.sim fF) ((Nj m a0 a1).trans h)
theorem Hz m (hct:CtH m):FE 45 res2 EB (ay (m+1)):=fun a0 a1 r h=>
 fo hct Tryz.func45 (dec:=d31) rfl rfl (SR.sim fF) ((Io m a0 a1).trans h)
theorem amy m (hct:CtH m):FE 57 ake ank (i15 (m+1)):=fun a0 a1 r h=>
 fo hct Tryz.func57 (dec:=d15) rfl rfl (SR.sim akk) ((amK m a0 a1).trans h)
theorem zu m (hct:CtH m):FE 123 res1 Xd (aT (m+1)):=fun r h=>
 fo hct Tryz.func123 (dec:=d16) rfl rfl (SR.sim aW) ((zn m).trans h)
theorem OX m (hct:CtH m):FE 127 res1 Xd (aS (m+1)):=fun r h=>
 fo hct Tryz.func127 (dec:=d16) rfl rfl (SR.sim aW) ((Py m).trans h)
theorem OY m (hct:CtH m):FE 97 cO uy (fK (m+1)):=fun a0 r h=>
 fo hct Tryz.func97 (dec:=d5) rfl rfl (SR.sim bC) ((Pz m a0).trans h)
theorem Mx m (hct:CtH m):FE 65 cO Gc (gF (m+1)):=fun a0 r h=>
 fo hct Tryz.func65 (dec:=d5) rfl rfl (SR.sim bC) ((Nl m a0).trans h)
theorem OZ m (hct:CtH m):FE 108 cO EB (aF (m+1)):=fun a0 a1 r h=>
 fo hct Tryz.func108 (dec:=d5) rfl rfl (SR.sim bC) ((PD m a0 a1).trans h)
theorem MB m (hct:CtH m):FE 107 cO Gc (lG (m+1)):=fun a0 r h=>
 fo hct Tryz.func107 (dec:=d5) rfl rfl (SR.sim bC) ((Nn m a0).trans h)
theorem O0 m (hct:CtH m):FE 106 res2 vT (nO (m+1)):=fun a0 r h=>
 fo hct Tryz.func106 (dec:=d31) rfl rfl (SR.sim fF) ((PE m a0).trans h)
theorem MC m (hct:CtH m):FE 208 cO oh (nP (m+1)):=fun a0 r h=>
 fo hct Tryz.func208 (dec:=d5) rfl rfl (SR.sim bC) ((Np m a0).trans h)
theorem O1 m (hct:CtH m):FE 205 res2 vT (nQ (m+1)):=fun a0 r h=>
 fo hct Tryz.func205 (dec:=d31) rfl rfl (SR.sim fF) ((PG m a0).trans h)
theorem J5 m (hct:CtH m):FE 204 cO y9 (oC (m+1)):=fun a0 a1 r h=>
 fo hct Tryz.func204 (dec:=d5) rfl rfl (SR.sim bC) ((Km m a0 a1).trans h)
theorem J6 m (hct:CtH m):FE 159 res1 Xg (aR (m+1)):=fun a0 a1 r h=>
 fo hct Tryz.func159 (dec:=d16) rfl rfl (SR.sim aW) ((Kn m a0 a1).trans h)
theorem tT m (hct:CtH m):FE 166 res1 vT (aN (m+1)):=fun a0 r h=>
 fo hct Tryz.func166 (dec:=d16) rfl rfl (SR.sim aW) ((tL m a0).trans h)
theorem O3 m (hct:CtH m):FE 172 res1 oh (lU (m+1)):=fun a0 r h=>
 fo hct Tryz.func172 (dec:=d16) rfl rfl (SR.sim aW) ((PI m a0).trans h)
theorem O4 m (hct:CtH m):FE 173 cO oh (dY (m+1)):=fun a0 r h=>
 fo hct Tryz.func173 (dec:=d5) rfl rfl (SR.sim bC) ((PK m a0).trans h)
theorem HV m (hct:CtH m):FE 176 res1 Xi (aO (m+1)):=fun a0 r h=>
 fo hct Tryz.func176 (dec:=d16) rfl rfl (SR.sim aW) ((IJ m a0).trans h)
theorem ME m (hct:CtH m):FE 175 res1 zU (lH (m+1)):=fun a0 a1 r h=>
 fo hct Tryz.func175 (dec:=d16) rfl rfl (SR.sim aW) ((Nr m a0 a1).trans h)
theorem Tw m (hct:CtH m):FE 178 res1 vT (bO (m+1)):=fun a0 r h=>
 fo hct Tryz.func178 (dec:=d16) rfl rfl (SR.sim aW) ((TN m a0).trans h)
theorem HY m (hct:CtH m):FE 180 akf ah1 (iA (m+1)):=fun a0 a1 r h=>
 fo hct Tryz.func180 (dec:=d85) rfl rfl (SR.sim akl) ((IK m a0 a1).trans h)
theorem O5 m (hct:CtH m):FE 179 res1 uy (iT (m+1)):=fun a0 r h=>
 fo hct Tryz.func179 (dec:=d16) rfl rfl (SR.sim aW) ((PL m a0).trans h)
theorem MF m (hct:CtH m):FE 181 res1 ah2 (lI (m+1)):=fun a0 a1 a2 r h=>
 fo hct Tryz.func181 (dec:=d16) rfl rfl (SR.sim aW) ((Ns m a0 a1 a2).trans h)
theorem O6 m (hct:CtH m):FE 182 res1 ah3 (jX (m+1)):=fun a0 a1 r h=>
 fo hct Tryz.func182 (dec:=d16) rfl rfl (SR.sim aW) ((PN m a0 a1).trans h)
theorem HZ m (hct:CtH m):FE 183 res1 EB (iB (m+1)):=fun a0 a1 r h=>
 fo hct Tryz.func183 (dec:=d16) rfl rfl (SR.sim aW) ((IL m a0 a1).trans h)
theorem H6 m (hct:CtH m):FE 187 res1 ah4 (bQ (m+1)):=fun a0 a1 a2 r h=>
 fo hct Tryz.func187 (dec:=d16) rfl rfl (SR.sim aW) ((IQ m a0 a1 a2).trans h)
theorem MG m (hct:CtH m):FE 133 Xm oh (jD (m+1)):=fun a0 r h=>
 fo hct Tryz.func133 (dec:=d94) rfl rfl (SR.sim Um) ((Nt m a0).trans h)
theorem J7 m (hct:CtH m):FE 92 res2 Jf (cK (m+1)):=fun a0 a1 r h=>
 fo hct Tryz.func92 (dec:=d31) rfl rfl (SR.sim fF) ((Ko m a0 a1).trans h)
theorem MH m (hct:CtH m):FE 54 res2 oh (lJ (m+1)):=fun a0 r h=>
 fo hct Tryz.func54 (dec:=d31) rfl rfl (SR.sim fF) ((Nu m a0).trans h)
theorem MI m (hct:CtH m):FE 93 res2 Jf (gG (m+1)):=fun a0 a1 r h=>
 fo hct Tryz.func93 (dec:=d31) rfl rfl (SR.sim fF) ((Nv m a0 a1).trans h)
theorem MJ m (hct:CtH m):FE 55 res2 oh (lK (m+1)):=fun a0 r h=>
 fo hct Tryz.func55 (dec:=d31) rfl rfl (SR.sim fF) ((Nw m a0).trans h)
theorem O7 m (hct:CtH m):FE 134 cO ah5 (pR (m+1)):=fun a0 a1 a2 r h=>
 fo hct Tryz.func134 (dec:=d5) rfl rfl (SR.sim bC) ((PO m a0 a1 a2).trans h)
theorem O8 m (hct:CtH m):FE 94 cO uy (pU (m+1)):=fun a0 r h=>
 fo hct Tryz.func94 (dec:=d5) rfl rfl (SR.sim bC) ((PS m a0).trans h)
theorem O9 m (hct:CtH m):FE 135 cO uy (lV (m+1)):=fun a0 r h=>
 fo hct Tryz.func135 (dec:=d5) rfl rfl (SR.sim bC) ((PU m a0).trans h)
theorem J8 m (hct:CtH m):FE 56 cO Xf (aD (m+1)):=fun a0 a1 r h=>
 fo hct Tryz.func56 (dec:=d5) rfl rfl (SR.sim bC) ((Kq m a0 a1).trans h)
theorem J9 m (hct:CtH m):FE 95 cO Xf (bg (m+1)):=fun a0 a1 r h=>
 fo hct Tryz.func95 (dec:=d5) rfl rfl (SR.sim bC) ((Kr m a0 a1).trans h)
theorem MK m (hct:CtH m):FE 18 cO oh (eF (m+1)):=fun a0 r h=>
 fo hct Tryz.func18 (dec:=d5) rfl rfl (SR.sim bC) ((Ny m a0).trans h)
theorem yc m (hct:CtH m):FE 17 cO oh (cu (m+1)):=fun a0 r h=>
 fo hct Tryz.func17 (dec:=d5) rfl rfl (SR.sim bC) ((yg m a0).trans h)
theorem apL m (hct:CtH m) (a0:List Dt) {r:Int} (h:i8 (m+1) a0=some r):FX Tryz.prog 53 [.dat 23 (.lst a0),.fn 17 []] [] (.dat 3 (.int r)) []:=
 fo hct Tryz.func53 (dec:=d31) rfl rfl (SR.sim fF) ((aql m a0).trans h)
theorem apM m (hct:CtH m) (a0:List Dt) {r:Bool} (h:i7 (m+1) a0=some r):FX Tryz.prog 16 [.dat 23 (.lst a0),.fn 17 []] [] (.dat 4 (.bool r)) []:=
 fo hct Tryz.func16 (dec:=d5) rfl rfl (SR.sim bC) ((aqm m a0).trans h)
theorem H7 m (hct:CtH m):FE 33 cO oh (jZ (m+1)):=fun a0 r h=>
 fo hct Tryz.func33 (dec:=d5) rfl rfl (SR.sim bC) ((I5 m a0).trans h)
theorem amz m (hct:CtH m) (a0:List Dt) {r:Int} (h:i11 (m+1) a0=some r):FX Tryz.prog 53 [.dat 23 (.lst a0),.fn 33 []] [] (.dat 3 (.int r)) []:=
 fo hct Tryz.func53 (dec:=d31) rfl rfl (SR.sim fF) ((amM m a0).trans h)
theorem amA m (hct:CtH m) (a0:List Dt) {r:Bool} (h:i10 (m+1) a0=some r):FX Tryz.prog 16 [.dat 23 (.lst a0),.fn 33 []] [] (.dat 4 (.bool r)) []:=
 fo hct Tryz.func16 (dec:=d5) rfl rfl (SR.sim bC) ((amN m a0).trans h)
theorem ML m (hct:CtH m):FE 8 cO NV (lM (m+1)):=fun a0 r h=>
 fo hct Tryz.func8 (dec:=d5) rfl rfl (SR.sim bC) ((Nz m a0).trans h)
theorem Pb m (hct:CtH m):FE 75 P5 Uk (pV (m+1)):=fun a0 r h=>
 fo hct Tryz.func75 (dec:=d35) rfl rfl (SR.sim KN) ((OG m a0).trans h)
theorem MN m (hct:CtH m):FE 34 akg ah0 (dL (m+1)):=fun a0 a1 a2 r h=>
 fo hct Tryz.func34 (dec:=d23) rfl rfl (SR.sim akm) ((LP m a0 a1 a2).trans h)
theorem MO m (hct:CtH m):FE 9 P5 Uk (iH (m+1)):=fun a0 r h=>
 fo hct Tryz.func9 (dec:=d35) rfl rfl (SR.sim KN) ((LQ m a0).trans h)
theorem Ka m (hct:CtH m):FE 198 cO uy (lW (m+1)):=fun a0 r h=>
 fo hct Tryz.func198 (dec:=d5) rfl rfl (SR.sim bC) ((JV m a0).trans h)
theorem amB m (hct:CtH m):FE 230 res2 Xk (i98 (m+1)):=fun a0 r h=>
 fo hct Tryz.func230 (dec:=d31) rfl rfl (SR.sim fF) ((amb m a0).trans h)
theorem amC m (hct:CtH m):FE 197 cO Xk (i97 (m+1)):=fun a0 r h=>
 fo hct Tryz.func197 (dec:=d5) rfl rfl (SR.sim bC) ((amc m a0).trans h)
theorem Pf m (hct:CtH m):FE 147 cO Gc (lX (m+1)):=fun a0 r h=>
 fo hct Tryz.func147 (dec:=d5) rfl rfl (SR.sim bC) ((OH m a0).trans h)
theorem MP m (hct:CtH m):FE 206 cO uy (jE (m+1)):=fun a0 r h=>
 fo hct Tryz.func206 (dec:=d5) rfl rfl (SR.sim bC) ((LU m a0).trans h)
theorem Ab m (hct:CtH m):FE 207 cO Gc (dh (m+1)):=fun a0 r h=>
 fo hct Tryz.func207 (dec:=d5) rfl rfl (SR.sim bC) ((z8 m a0).trans h)
theorem MQ m (hct:CtH m):FE 209 res1 oh (fD (m+1)):=fun a0 r h=>
 fo hct Tryz.func209 (dec:=d16) rfl rfl (SR.sim aW) ((LV m a0).trans h)
theorem Ei m (hct:CtH m):FE 168 res1 Xh (bY (m+1)):=fun a0 a1 r h=>
 fo hct Tryz.func168 (dec:=d16) rfl rfl (SR.sim aW) ((DW m a0 a1).trans h)
theorem MR m (hct:CtH m):FE 210 cO oh (bS (m+1)):=fun a0 r h=>
 fo hct Tryz.func210 (dec:=d5) rfl rfl (SR.sim bC) ((LY m a0).trans h)
theorem H8 m (hct:CtH m):FE 211 res2 y9 (gB (m+1)):=fun a0 a1 r h=>
 fo hct Tryz.func211 (dec:=d31) rfl rfl (SR.sim fF) ((G7 m a0 a1).trans h)
theorem Ej m (hct:CtH m):FE 161 res1 zU (bM (m+1)):=fun a0 a1 r h=>
 fo hct Tryz.func161 (dec:=d16) rfl rfl (SR.sim aW) ((DX m a0 a1).trans h)
theorem Kc m (hct:CtH m):FE 212 res1 Xi (aQ (m+1)):=fun a0 r h=>
 fo hct Tryz.func212 (dec:=d16) rfl rfl (SR.sim aW) ((JW m a0).trans h)
theorem El m (hct:CtH m):FE 162 res1 y9 (gV (m+1)):=fun a0 a1 r h=>
 fo hct Tryz.func162 (dec:=d16) rfl rfl (SR.sim aW) ((DY m a0 a1).trans h)
theorem Pg m (hct:CtH m):FE 163 res1 zU (eU (m+1)):=fun a0 a1 r h=>
 fo hct Tryz.func163 (dec:=d16) rfl rfl (SR.sim aW) ((OI m a0 a1).trans h)
theorem MS m (hct:CtH m):FE 141 cO EB (iI (m+1)):=fun a0 a1 r h=>
 fo hct Tryz.func141 (dec:=d5) rfl rfl (SR.sim bC) ((LZ m a0 a1).trans h)
theorem Ke m (hct:CtH m):FE 217 res1 Xj (jF (m+1)):=fun a0 a1 r h=>
 fo hct Tryz.func217 (dec:=d16) rfl rfl (SR.sim aW) ((JX m a0 a1).trans h)
theorem Kg m (hct:CtH m):FE 165 res1 zU (bF (m+1)):=fun a0 a1 r h=>
 fo hct Tryz.func165 (dec:=d16) rfl rfl (SR.sim aW) ((JY m a0 a1).trans h)
theorem MU m (hct:CtH m):FE 218 res2 Jf (jG (m+1)):=fun a0 a1 r h=>
 fo hct Tryz.func218 (dec:=d31) rfl rfl (SR.sim fF) ((L6 m a0 a1).trans h)
theorem ajV m (hct:CtH m) (a0:Dt) (a1 a2:Int) {r:Int×Int} (h:acU (m+1) a0 a1 a2=some r):FX Tryz.prog 234 [.dat 26 a0,(.fn 235 [.ptr 0 [] 0,.ptr 1 [] 0])] [.box 3 (.dat 3 (.int a1)),.box 3 (.dat 3 (.int a2))] (.tup []) [.box 3 (.dat 3 (.int r.1)),.box 3 (.dat 3 (.int r.2))]:=
 fo hct Tryz.func234 rfl rfl Xy ((ajL m a0 a1 a2).trans h)
theorem ajW m (hct:CtH m) (a0:Dt) (a1 a2:Int) {r:Bool×Int×Int} (h:Dr (m+1) a0 a1 a2=some r):FX Tryz.prog 235 [.dat 26 a0,.ptr 0 [] 0,.ptr 1 [] 0] [.box 3 (.dat 3 (.int a1)),.box 3 (.dat 3 (.int a2))] (.dat 4 (.bool r.1)) [.box 3 (.dat 3 (.int r.2.1)),.box 3 (.dat 3 (.int r.2.2))]:=
 fo hct Tryz.func235 rfl rfl Xz ((ajM m a0 a1 a2).trans h)
theorem MV m (hct:CtH m):FE 169 res2 oh (lN (m+1)):=fun a0 r h=>
 fo hct Tryz.func169 (dec:=d31) rfl rfl (SR.sim fF) ((Ma m a0).trans h)
theorem MW m (hct:CtH m):FE 219 res2 Jf (jH (m+1)):=fun a0 a1 r h=>
 fo hct Tryz.func219 (dec:=d31) rfl rfl (SR.sim fF) ((Mc m a0 a1).trans h)
theorem ajX m (hct:CtH m) (a0:Dt) (a1 a2:Int) {r:Int×Int} (h:acV (m+1) a0 a1 a2=some r):FX Tryz.prog 234 [.dat 26 a0,(.fn 236 [.ptr 0 [] 0,.ptr 1 [] 0])] [.box 3 (.dat 3 (.int a1)),.box 3 (.dat 3 (.int a2))] (.tup []) [.box 3 (.dat 3 (.int r.1)),.box 3 (.dat 3 (.int r.2))]:=
 fo hct Tryz.func234 rfl rfl Xy ((ajN m a0 a1 a2).trans h)
theorem ajY m (hct:CtH m) (a0:Dt) (a1 a2:Int) {r:Bool×Int×Int} (h:Du (m+1) a0 a1 a2=some r):FX Tryz.prog 236 [.dat 26 a0,.ptr 0 [] 0,.ptr 1 [] 0] [.box 3 (.dat 3 (.int a1)),.box 3 (.dat 3 (.int a2))] (.dat 4 (.bool r.1)) [.box 3 (.dat 3 (.int r.2.1)),.box 3 (.dat 3 (.int r.2.2))]:=
 fo hct Tryz.func236 rfl rfl Xz ((ajO m a0 a1 a2).trans h)
theorem MX m (hct:CtH m):FE 170 res2 oh (lQ (m+1)):=fun a0 r h=>
 fo hct Tryz.func170 (dec:=d31) rfl rfl (SR.sim fF) ((Mf m a0).trans h)
theorem Wm m (hct:CtH m):FE 62 res2 NY (kU (m+1)):=fun a0 a1 r h=>
 fo hct Tryz.func62 (dec:=d31) rfl rfl (SR.sim fF) ((V6 m a0 a1).trans h)
theorem Tz m (hct:CtH m):FE 23 akh NY (qh (m+1)):=fun a0 a1 r h=>
 fo hct Tryz.func23 (dec:=d77) rfl rfl (SR.sim akn) ((Tj m a0 a1).trans h)
theorem Wn m (hct:CtH m):FE 124 res1 Xg (fG (m+1)):=fun a0 a1 r h=>
 fo hct Tryz.func124 (dec:=d16) rfl rfl (SR.sim aW) ((V7 m a0 a1).trans h)
theorem MZ m (hct:CtH m):FE 222 cO ah7 (gH (m+1)):=fun a0 a1 r h=>
 fo hct Tryz.func222 (dec:=d5) rfl rfl (SR.sim bC) ((Mg m a0 a1).trans h)
theorem Kh m (hct:CtH m):FE 177 res1 NV (jI (m+1)):=fun a0 r h=>
 fo hct Tryz.func177 (dec:=d16) rfl rfl (SR.sim aW) ((JZ m a0).trans h)
theorem Ph m (hct:CtH m):FE 185 res1 NV (nW (m+1)):=fun a0 r h=>
 fo hct Tryz.func185 (dec:=d16) rfl rfl (SR.sim aW) ((OJ m a0).trans h)
theorem FB m (hct:CtH m):FE 223 res2 y9 (dw (m+1)):=fun a0 a1 r h=>
 fo hct Tryz.func223 (dec:=d31) rfl rfl (SR.sim fF) ((Fp m a0 a1).trans h)
theorem Ki m (hct:CtH m):FE 174 res1 zU (dR (m+1)):=fun a0 a1 r h=>
 fo hct Tryz.func174 (dec:=d16) rfl rfl (SR.sim aW) ((J2 m a0 a1).trans h)
theorem M0 m (hct:CtH m):FE 224 cO EB (iJ (m+1)):=fun a0 a1 r h=>
 fo hct Tryz.func224 (dec:=d5) rfl rfl (SR.sim bC) ((Mh m a0 a1).trans h)
theorem FC m (hct:CtH m):FE 184 cO Xj (iX (m+1)):=fun a0 a1 r h=>
 fo hct Tryz.func184 (dec:=d5) rfl rfl (SR.sim bC) ((Fq m a0 a1).trans h)
theorem TA m (hct:CtH m):FE 105 res1 Xl (nk (m+1)):=fun a0 a1 a2 r h=>
 fo hct Tryz.func105 (dec:=d16) rfl rfl (SR.sim aW) ((Tn m a0 a1 a2).trans h)
theorem Na m (hct:CtH m):FE 186 res1 NV (lT (m+1)):=fun a0 r h=>
 fo hct Tryz.func186 (dec:=d16) rfl rfl (SR.sim aW) ((Mi m a0).trans h)
theorem Nb m (hct:CtH m):FE 126 res1 Xh (ak (m+1)):=fun a0 a1 r h=>
 fo hct Tryz.func126 (dec:=d16) rfl rfl (SR.sim aW) ((Ml m a0 a1).trans h)
theorem Pj m (hct:CtH m):FE 85 res1 Xe (ref08_eval (m+1)):=fun a0 a1 a2 r h=>
 fo hct Tryz.func85 (dec:=d16) rfl rfl (SR.sim aW) ((OL m a0 a1 a2).trans h)
theorem Pk m (hct:CtH m):FE 125 res1 Xe (bD (m+1)):=fun a0 a1 a2 r h=>
 fo hct Tryz.func125 (dec:=d16) rfl rfl (SR.sim aW) ((OM m a0 a1 a2).trans h)
theorem Pm m (hct:CtH m):FE 41 res1 ahZ (ref08_Eval (m+1)):=fun a0 a1 r h=>
 fo hct Tryz.func41 (dec:=d16) rfl rfl (SR.sim aW) ((OO m a0 a1).trans h)
theorem Kj m (hct:CtH m):FE 20 Xm ZY (jM (m+1)):=fun a0 a1 a2 r h=>
 fo hct Tryz.func20 (dec:=d94) rfl rfl (SR.sim Um) ((J4 m a0 a1 a2).trans h)
theorem Nc m (hct:CtH m) (a0:Dt) {r:Int×Int×ByteArray×List Dt×List Dt} (h:bf (m+1) a0=some r):FX Tryz.prog 156 [.dat 26 a0] [] (.agg 26 [.dat 3 (.int r.1),.dat 3 (.int r.2.1),.dat 9 (.str r.2.2.1),.row 0,.row 1]) [.row 23 r.2.2.2.1,.row 24 r.2.2.2.2]:=
 fo hct Tryz.func156 rfl rfl air ((Mq m a0).trans h)
theorem Pn m (hct:CtH m):FE 157 res2 NY (pW (m+1)):=fun a0 a1 r h=>
 fo hct Tryz.func157 (dec:=d31) rfl rfl (SR.sim fF) ((OC m a0 a1).trans h)
theorem TD m (hct:CtH m):FE 119 res1 Xl (rP (m+1)):=fun a0 a1 a2 r h=>
 fo hct Tryz.func119 (dec:=d16) rfl rfl (SR.sim aW) ((Sw m a0 a1 a2).trans h)
theorem Po m (hct:CtH m):FE 167 res1 NV (nZ (m+1)):=fun a0 r h=>
 fo hct Tryz.func167 (dec:=d16) rfl rfl (SR.sim aW) ((OD m a0).trans h)
theorem Kk m (hct:CtH m):FE 238 cO uy (lZ (m+1)):=fun a0 r h=>
 fo hct Tryz.func238 (dec:=d5) rfl rfl (SR.sim bC) ((JQ m a0).trans h)
theorem Nf m (hct:CtH m):FE 171 cO oh (aI (m+1)):=fun a0 r h=>
 fo hct Tryz.func171 (dec:=d5) rfl rfl (SR.sim bC) ((LC m a0).trans h)
theorem Bf m (hct:CtH m):FE 221 cO ah6 (aH (m+1)):=fun a0 r h=>
 fo hct Tryz.func221 (dec:=d5) rfl rfl (SR.sim bC) ((Ay m a0).trans h)
theorem Ng m (hct:CtH m):FE 122 cO oh (jN (m+1)):=fun a0 r h=>
 fo hct Tryz.func122 (dec:=d5) rfl rfl (SR.sim bC) ((LD m a0).trans h)
theorem TF m (hct:CtH m):FE 84 res1 NW (expr_eval (m+1)):=fun a0 a1 a2 r h=>
 fo hct Tryz.func84 (dec:=d16) rfl rfl (SR.sim aW) ((SQ m a0 a1 a2).trans h)
theorem Kl m (hct:CtH m):FE 121 res1 NW (dG (m+1)):=fun a0 a1 a2 r h=>
 fo hct Tryz.func121 (dec:=d16) rfl rfl (SR.sim aW) ((JR m a0 a1 a2).trans h)
theorem TG m (hct:CtH m):FE 160 res1 NW (bZ (m+1)):=fun a0 a1 a2 r h=>
 fo hct Tryz.func160 (dec:=d16) rfl rfl (SR.sim aW) ((SV m a0 a1 a2).trans h)
theorem FD m (hct:CtH m):FE 158 P5 Uk (jd (m+1)):=fun a0 r h=>
 fo hct Tryz.func158 (dec:=d35) rfl rfl (SR.sim KN) ((EZ m a0).trans h)
theorem amD m (hct:CtH m) (a0:Dt) (a1 a2:Int) {r:Int×Int} (h:i40 (m+1) a0 a1 a2=some r):FX Tryz.prog 120 [.dat 29 a0,.dat 3 (.int a1),.ptr 0 [] 0] [.box 3 (.dat 3 (.int a2))] (.dat 31 (.int r.1)) [.box 3 (.dat 3 (.int r.2))]:=
 fo hct Tryz.func120 rfl rfl aks ((alZ m a0 a1 a2).trans h)
theorem Pp m (hct:CtH m):FE 82 P5 Uk (p8 (m+1)):=fun a0 r h=>
 fo hct Tryz.func82 (dec:=d35) rfl rfl (SR.sim KN) ((OE m a0).trans h)
theorem TH m (hct:CtH m):FE 40 res1 ahZ (expr_Eval (m+1)):=fun a0 a1 r h=>
 fo hct Tryz.func40 (dec:=d16) rfl rfl (SR.sim aW) ((SY m a0 a1).trans h)
theorem FH m (hct:CtH m):FE 19 Xm ZY (gI (m+1)):=fun a0 a1 a2 r h=>
 fo hct Tryz.func19 (dec:=d94) rfl rfl (SR.sim Um) ((E8 m a0 a1 a2).trans h)
theorem qN m (hct:CtH m):FE 4 cO ZY (ig (m+1)):=fun a0 a1 a2 r h=>
 fo hct Tryz.func4 (dec:=d5) rfl rfl (SR.sim bC) ((zy m a0 a1 a2).trans h)
theorem ajZ m (hct:CtK m) (h:anm m args objs K=some r):FQ 16 args objs K r:=by
 unfold anm at h
 split at h
 ·rename_i l hl
  obtain⟨x,hx,hk⟩:=Option.bind_eq_some_iff.1 h
  obtain⟨h1,h2⟩:=ab8 hl
  cases m with
  |zero=>cases hx
  |succ m=>exact⟨_,hk,(apM m (hct m (Nat.lt_succ_self m)) _ hx).conv h1 h2,⟨_,Tryz.func16,rfl,by decide⟩⟩
 split at h
 ·rename_i l hl
  obtain⟨x,hx,hk⟩:=Option.bind_eq_some_iff.1 h
  obtain⟨h1,h2⟩:=Xx hl
  cases m with
  |zero=>cases hx
  |succ m=>exact⟨_,hk,(amA m (hct m (Nat.lt_succ_self m)) _ hx).conv h1 h2,⟨_,Tryz.func16,rfl,by decide⟩⟩
 cases h
theorem aj0 m (hct:CtK m) (h:ano m args objs K=some r):FQ 53 args objs K r:=by
 unfold ano at h
 split at h
 ·rename_i l hl
  obtain⟨x,hx,hk⟩:=Option.bind_eq_some_iff.1 h
  obtain⟨h1,h2⟩:=ab8 hl
  cases m with
  |zero=>cases hx
  |succ m=>exact⟨_,hk,(apL m (hct m (Nat.lt_succ_self m)) _ hx).conv h1 h2,⟨_,Tryz.func53,rfl,by decide⟩⟩
 split at h
 ·rename_i l hl
  obtain⟨x,hx,hk⟩:=Option.bind_eq_some_iff.1 h
  obtain⟨h1,h2⟩:=Xx hl
  cases m with
  |zero=>cases hx
  |succ m=>exact⟨_,hk,(amz m (hct m (Nat.lt_succ_self m)) _ hx).conv h1 h2,⟨_,Tryz.func53,rfl,by decide⟩⟩
 cases h
theorem agu m (hct:CtK m) (h:ail m args objs K=some r):FQ 120 args objs K r:=by
 unfold ail at h
 split at h
 ·rename_i l hl
  obtain⟨x,hx,hk⟩:=Option.bind_eq_some_iff.1 h
  obtain⟨h1,h2⟩:=aik hl
  cases m with
  |zero=>cases hx
  |succ m=>exact⟨_,hk,(amD m (hct m (Nat.lt_succ_self m)) _ _ _ hx).conv h1 h2,⟨_,Tryz.func120,rfl,by decide⟩⟩
 cases h
theorem agv m (hct:CtK m) (h:ain m args objs K=some r):FQ 156 args objs K r:=by
 unfold ain at h
 split at h
 ·rename_i l hl
  obtain⟨x,hx,hk⟩:=Option.bind_eq_some_iff.1 h
  obtain⟨h1,h2⟩:=akp hl
  cases m with
  |zero=>cases hx
  |succ m=>exact⟨_,hk,(Nc m (hct m (Nat.lt_succ_self m)) _ hx).conv h1 h2,⟨_,Tryz.func156,rfl,by decide⟩⟩
 cases h
theorem agw m (hct:CtK m) (h:aio m args objs K=some r):FQ 234 args objs K r:=by
 unfold aio at h
 split at h
 ·rename_i l hl
  obtain⟨x,hx,hk⟩:=Option.bind_eq_some_iff.1 h
  obtain⟨h1,h2⟩:=adL hl
  cases m with
  |zero=>cases hx
  |succ m=>exact⟨_,hk,(ajV m (hct m (Nat.lt_succ_self m)) _ _ _ hx).conv h1 h2,⟨_,Tryz.func234,rfl,by decide⟩⟩
 split at h
 ·rename_i l hl
  obtain⟨x,hx,hk⟩:=Option.bind_eq_some_iff.1 h
  obtain⟨h1,h2⟩:=adM hl
  cases m with
  |zero=>cases hx
  |succ m=>exact⟨_,hk,(ajX m (hct m (Nat.lt_succ_self m)) _ _ _ hx).conv h1 h2,⟨_,Tryz.func234,rfl,by decide⟩⟩
 cases h
theorem agx m (hct:CtK m) (h:aip m args objs K=some r):FQ 235 args objs K r:=by
 unfold aip at h
 split at h
 ·rename_i l hl
  obtain⟨x,hx,hk⟩:=Option.bind_eq_some_iff.1 h
  obtain⟨h1,h2⟩:=Rp hl
  cases m with
  |zero=>cases hx
  |succ m=>exact⟨_,hk,(ajW m (hct m (Nat.lt_succ_self m)) _ _ _ hx).conv h1 h2,⟨_,Tryz.func235,rfl,by decide⟩⟩
 cases h
theorem agy m (hct:CtK m) (h:aiq m args objs K=some r):FQ 236 args objs K r:=by
 unfold aiq at h
 split at h
 ·rename_i l hl
  obtain⟨x,hx,hk⟩:=Option.bind_eq_some_iff.1 h
  obtain⟨h1,h2⟩:=Rp hl
  cases m with
  |zero=>cases hx
  |succ m=>exact⟨_,hk,(ajY m (hct m (Nat.lt_succ_self m)) _ _ _ hx).conv h1 h2,⟨_,Tryz.func236,rfl,by decide⟩⟩
 cases h
end
theorem amE m (ck:CtK m) (f:FuncId) (e:Ent):ctE m f=some e→EOK Tryz.prog f e:=
 .st (fe m ck Ul ⟨_,Tryz.func4,rfl,by decide⟩ qN (fun _ _ _=>rfl))<|
 .st (fe m ck Gd ⟨_,Tryz.func8,rfl,by decide⟩ ML (fun _=>rfl))<|
 .st ⟨KL,fun r h=>adT h,⟨_,Tryz.func10,rfl,by decide⟩⟩<|
 .st (fe m ck Ul ⟨_,Tryz.func19,rfl,by decide⟩ FH (fun _ _ _=>rfl))<|
 .st (fe m ck Ul ⟨_,Tryz.func20,rfl,by decide⟩ Kj (fun _ _ _=>rfl))<|
 .st (fe m ck aki ⟨_,Tryz.func13,rfl,by decide⟩ Fz (fun _ _=>rfl))<|
 .st (fe m ck KM ⟨_,Tryz.func9,rfl,by decide⟩ MO (fun _=>rfl))<|
 .st (fe m ck jS ⟨_,Tryz.func17,rfl,by decide⟩ yc (fun _=>rfl))<|
 .st (fe m ck jS ⟨_,Tryz.func33,rfl,by decide⟩ H7 (fun _=>rfl))<|
 .st (fe m ck zA ⟨_,Tryz.func45,rfl,by decide⟩ Hz (fun _ _=>rfl))<|
 .st (fe m ck ab7 ⟨_,Tryz.func40,rfl,by decide⟩ TH (fun _ _=>rfl))<|
 .st (fe m ck akj ⟨_,Tryz.func57,rfl,by decide⟩ amy (fun _ _=>rfl))<|
 .st (fe m ck jS ⟨_,Tryz.func58,rfl,by decide⟩ Bd (fun _=>rfl))<|
 .st (fe m ck BZ ⟨_,Tryz.func47,rfl,by decide⟩ Eh (fun _ _=>rfl))<|
 .st (fe m ck zA ⟨_,Tryz.func21,rfl,by decide⟩ Hu (fun _ _=>rfl))<|
 .st (fe m ck ab7 ⟨_,Tryz.func41,rfl,by decide⟩ Pm (fun _ _=>rfl))<|
 .st (fe m ck BZ ⟨_,Tryz.func52,rfl,by decide⟩ Hy (fun _ _=>rfl))<|
 .st (fe m ck KL ⟨_,Tryz.func59,rfl,by decide⟩ OU (rfl))<|
 .st (fe m ck zA ⟨_,Tryz.func42,rfl,by decide⟩ OT (fun _ _=>rfl))<|
 .st (fe m ck ah8 ⟨_,Tryz.func34,rfl,by decide⟩ MN (fun _ _ _=>rfl))<|
 .st (fe m ck jS ⟨_,Tryz.func18,rfl,by decide⟩ MK (fun _=>rfl))<|
 .st (fe m ck ze ⟨_,Tryz.func86,rfl,by decide⟩ Mw (fun _ _=>rfl))<|
 .st ⟨Xn,fun _ _ r h=>Yg h,⟨_,Tryz.func87,rfl,by decide⟩⟩<|
 .st (fe m ck KM ⟨_,Tryz.func82,rfl,by decide⟩ Pp (fun _=>rfl))<|
 .st (fe m ck NZ ⟨_,Tryz.func84,rfl,by decide⟩ TF (fun _ _ _=>rfl))<|
 .st (fe m ck jS ⟨_,Tryz.func83,rfl,by decide⟩ OV (fun _=>rfl))<|
 .st (fe m ck vU ⟨_,Tryz.func48,rfl,by decide⟩ Ef (fun _=>rfl))<|
 .st (fe m ck ze ⟨_,Tryz.func60,rfl,by decide⟩ OW (fun _ _=>rfl))<|
 .st (fe m ck Xn ⟨_,Tryz.func61,rfl,by decide⟩ Mt (fun _ _=>rfl))<|
 .st (fe m ck Xo ⟨_,Tryz.func85,rfl,by decide⟩ Pj (fun _ _ _=>rfl))<|
 .st (fe m ck vU ⟨_,Tryz.func91,rfl,by decide⟩ Hw (fun _=>rfl))<|
 .st (fe m ck KM ⟨_,Tryz.func75,rfl,by decide⟩ Pb (fun _=>rfl))<|
 .st (fe m ck jS ⟨_,Tryz.func54,rfl,by decide⟩ MH (fun _=>rfl))<|
 .st (fe m ck jS ⟨_,Tryz.func55,rfl,by decide⟩ MJ (fun _=>rfl))<|
 .st (fe m ck Xp ⟨_,Tryz.func56,rfl,by decide⟩ J8 (fun _ _=>rfl))<|
 .st (fe m ck vU ⟨_,Tryz.func128,rfl,by decide⟩ Tt (fun _=>rfl))<|
 .st (fe m ck KM ⟨_,Tryz.func158,rfl,by decide⟩ FD (fun _=>rfl))<|
 .st (fe m ck NZ ⟨_,Tryz.func121,rfl,by decide⟩ Kl (fun _ _ _=>rfl))<|
 .st (fe m ck jS ⟨_,Tryz.func122,rfl,by decide⟩ Ng (fun _=>rfl))<|
 .st (fe m ck KL ⟨_,Tryz.func123,rfl,by decide⟩ zu (rfl))<|
 .st (fe m ck KL ⟨_,Tryz.func127,rfl,by decide⟩ OX (rfl))<|
 .st (fe m ck Xq ⟨_,Tryz.func124,rfl,by decide⟩ Wn (fun _ _=>rfl))<|
 .st (fe m ck Xo ⟨_,Tryz.func125,rfl,by decide⟩ Pk (fun _ _ _=>rfl))<|
 .st (fe m ck Xr ⟨_,Tryz.func126,rfl,by decide⟩ Nb (fun _ _=>rfl))<|
 .st (fe m ck Gf ⟨_,Tryz.func65,rfl,by decide⟩ Mx (fun _=>rfl))<|
 .st (fe m ck tF ⟨_,Tryz.func97,rfl,by decide⟩ OY (fun _=>rfl))<|
 .st (fe m ck zA ⟨_,Tryz.func108,rfl,by decide⟩ OZ (fun _ _=>rfl))<|
 .st (fe m ck Gf ⟨_,Tryz.func107,rfl,by decide⟩ MB (fun _=>rfl))<|
 .st (fe m ck vU ⟨_,Tryz.func106,rfl,by decide⟩ O0 (fun _=>rfl))<|
 .st (fe m ck BZ ⟨_,Tryz.func92,rfl,by decide⟩ J7 (fun _ _=>rfl))<|
 .st (fe m ck BZ ⟨_,Tryz.func93,rfl,by decide⟩ MI (fun _ _=>rfl))<|
 .st (fe m ck tF ⟨_,Tryz.func94,rfl,by decide⟩ O8 (fun _=>rfl))<|
 .st (fe m ck Xp ⟨_,Tryz.func95,rfl,by decide⟩ J9 (fun _ _=>rfl))<|
 .st (fe m ck Gf ⟨_,Tryz.func147,rfl,by decide⟩ Pf (fun _=>rfl))<|
 .st (fe m ck tF ⟨_,Tryz.func206,rfl,by decide⟩ MP (fun _=>rfl))<|
 .st (fe m ck jS ⟨_,Tryz.func208,rfl,by decide⟩ MC (fun _=>rfl))<|
 .st (fe m ck Gf ⟨_,Tryz.func207,rfl,by decide⟩ Ab (fun _=>rfl))<|
 .st (fe m ck vU ⟨_,Tryz.func205,rfl,by decide⟩ O1 (fun _=>rfl))<|
 .st (fe m ck ze ⟨_,Tryz.func204,rfl,by decide⟩ J5 (fun _ _=>rfl))<|
 .st (fe m ck Xq ⟨_,Tryz.func159,rfl,by decide⟩ J6 (fun _ _=>rfl))<|
 .st (fe m ck NZ ⟨_,Tryz.func160,rfl,by decide⟩ TG (fun _ _ _=>rfl))<|
 .st (fe m ck zf ⟨_,Tryz.func161,rfl,by decide⟩ Ej (fun _ _=>rfl))<|
 .st (fe m ck ze ⟨_,Tryz.func162,rfl,by decide⟩ El (fun _ _=>rfl))<|
 .st (fe m ck zf ⟨_,Tryz.func163,rfl,by decide⟩ Pg (fun _ _=>rfl))<|
 .st ⟨zf,fun _ _ r h=>Gx h,⟨_,Tryz.func164,rfl,by decide⟩⟩<|
 .st (fe m ck zf ⟨_,Tryz.func165,rfl,by decide⟩ Kg (fun _ _=>rfl))<|
 .st (fe m ck vU ⟨_,Tryz.func166,rfl,by decide⟩ tT (fun _=>rfl))<|
 .st (fe m ck Gd ⟨_,Tryz.func167,rfl,by decide⟩ Po (fun _=>rfl))<|
 .st (fe m ck Xr ⟨_,Tryz.func168,rfl,by decide⟩ Ei (fun _ _=>rfl))<|
 .st (fe m ck jS ⟨_,Tryz.func169,rfl,by decide⟩ MV (fun _=>rfl))<|
 .st (fe m ck jS ⟨_,Tryz.func170,rfl,by decide⟩ MX (fun _=>rfl))<|
 .st (fe m ck jS ⟨_,Tryz.func171,rfl,by decide⟩ Nf (fun _=>rfl))<|
 .st (fe m ck N7 ⟨_,Tryz.func23,rfl,by decide⟩ Tz (fun _ _=>rfl))<|
 .st (fe m ck jS ⟨_,Tryz.func172,rfl,by decide⟩ O3 (fun _=>rfl))<|
 .st (fe m ck jS ⟨_,Tryz.func173,rfl,by decide⟩ O4 (fun _=>rfl))<|
 .st (fe m ck zf ⟨_,Tryz.func174,rfl,by decide⟩ Ki (fun _ _=>rfl))<|
 .st (fe m ck zf ⟨_,Tryz.func175,rfl,by decide⟩ ME (fun _ _=>rfl))<|
 .st (fe m ck Xt ⟨_,Tryz.func176,rfl,by decide⟩ HV (fun _=>rfl))<|
 .st (fe m ck Gd ⟨_,Tryz.func177,rfl,by decide⟩ Kh (fun _=>rfl))<|
 .st (fe m ck vU ⟨_,Tryz.func178,rfl,by decide⟩ Tw (fun _=>rfl))<|
 .st (fe m ck ah9 ⟨_,Tryz.func180,rfl,by decide⟩ HY (fun _ _=>rfl))<|
 .st (fe m ck tF ⟨_,Tryz.func179,rfl,by decide⟩ O5 (fun _=>rfl))<|
 .st (fe m ck aia ⟨_,Tryz.func181,rfl,by decide⟩ MF (fun _ _ _=>rfl))<|
 .st (fe m ck aib ⟨_,Tryz.func182,rfl,by decide⟩ O6 (fun _ _=>rfl))<|
 .st (fe m ck zA ⟨_,Tryz.func183,rfl,by decide⟩ HZ (fun _ _=>rfl))<|
 .st (fe m ck Xu ⟨_,Tryz.func184,rfl,by decide⟩ FC (fun _ _=>rfl))<|
 .st (fe m ck Gd ⟨_,Tryz.func185,rfl,by decide⟩ Ph (fun _=>rfl))<|
 .st (fe m ck Gd ⟨_,Tryz.func186,rfl,by decide⟩ Na (fun _=>rfl))<|
 .st (fe m ck aic ⟨_,Tryz.func187,rfl,by decide⟩ H6 (fun _ _ _=>rfl))<|
 .st (fe m ck jS ⟨_,Tryz.func133,rfl,by decide⟩ MG (fun _=>rfl))<|
 .st (fe m ck aie ⟨_,Tryz.func134,rfl,by decide⟩ O7 (fun _ _ _=>rfl))<|
 .st (fe m ck tF ⟨_,Tryz.func135,rfl,by decide⟩ O9 (fun _=>rfl))<|
 .st (fe m ck Xv ⟨_,Tryz.func197,rfl,by decide⟩ amC (fun _=>rfl))<|
 .st (fe m ck Xv ⟨_,Tryz.func230,rfl,by decide⟩ amB (fun _=>rfl))<|
 .st (fe m ck tF ⟨_,Tryz.func198,rfl,by decide⟩ Ka (fun _=>rfl))<|
 .st (fe m ck jS ⟨_,Tryz.func209,rfl,by decide⟩ MQ (fun _=>rfl))<|
 .st (fe m ck jS ⟨_,Tryz.func210,rfl,by decide⟩ MR (fun _=>rfl))<|
 .st (fe m ck ze ⟨_,Tryz.func211,rfl,by decide⟩ H8 (fun _ _=>rfl))<|
 .st (fe m ck Xt ⟨_,Tryz.func212,rfl,by decide⟩ Kc (fun _=>rfl))<|
 .st (fe m ck zA ⟨_,Tryz.func141,rfl,by decide⟩ MS (fun _ _=>rfl))<|
 .st (fe m ck Xu ⟨_,Tryz.func217,rfl,by decide⟩ Ke (fun _ _=>rfl))<|
 .st (fe m ck Xw ⟨_,Tryz.func119,rfl,by decide⟩ TD (fun _ _ _=>rfl))<|
 .st (fe m ck BZ ⟨_,Tryz.func218,rfl,by decide⟩ MU (fun _ _=>rfl))<|
 .st (fe m ck BZ ⟨_,Tryz.func219,rfl,by decide⟩ MW (fun _ _=>rfl))<|
 .st ⟨tF,fun _ r h=>Lc h,⟨_,Tryz.func220,rfl,by decide⟩⟩<|
 .st (fe m ck aif ⟨_,Tryz.func221,rfl,by decide⟩ Bf (fun _=>rfl))<|
 .st (fe m ck N7 ⟨_,Tryz.func62,rfl,by decide⟩ Wm (fun _ _=>rfl))<|
 .st (fe m ck aii ⟨_,Tryz.func222,rfl,by decide⟩ MZ (fun _ _=>rfl))<|
 .st (fe m ck ze ⟨_,Tryz.func223,rfl,by decide⟩ FB (fun _ _=>rfl))<|
 .st (fe m ck zA ⟨_,Tryz.func224,rfl,by decide⟩ M0 (fun _ _=>rfl))<|
 .st (fe m ck Xw ⟨_,Tryz.func105,rfl,by decide⟩ TA (fun _ _ _=>rfl))<|
 .st (fe m ck N7 ⟨_,Tryz.func157,rfl,by decide⟩ Pn (fun _ _=>rfl))<|
 .st (fe m ck tF ⟨_,Tryz.func238,rfl,by decide⟩ Kk (fun _=>rfl))<|
 nofun
theorem amF m (ck:CtK m) {R:Type} {f:FuncId} {args:List AV} {objs:List Ob} {K:Res→Option R} {r:R} (h:ctX m f args objs K=some r):FQ f args objs K r:=by
 unfold ctX at h
 rcases dH h with⟨hb,h1⟩| ⟨_,h⟩
 ·cases beq_eq hb;exact ajZ m ck h1
 rcases dH h with⟨hb,h1⟩| ⟨_,h⟩
 ·cases beq_eq hb;exact aj0 m ck h1
 rcases dH h with⟨hb,h1⟩| ⟨_,h⟩
 ·cases beq_eq hb;exact agu m ck h1
 rcases dH h with⟨hb,h1⟩| ⟨_,h⟩
 ·cases beq_eq hb;exact agv m ck h1
 rcases dH h with⟨hb,h1⟩| ⟨_,h⟩
 ·cases beq_eq hb;exact agw m ck h1
 rcases dH h with⟨hb,h1⟩| ⟨_,h⟩
 ·cases beq_eq hb;exact agx m ck h1
 rcases dH h with⟨hb,h1⟩| ⟨_,h⟩
 ·cases beq_eq hb;exact agy m ck h1
 cases h
theorem ct_ok (m:Nat):CtH m:=Nat.strongRecOn m fun m ck R f args objs K r h=>by
 unfold ct at h
 split at h
 ·rename_i e he
  exact(amE m ck f e he).run h
 ·exact amF m ck h
end Go.Proofs.YtmecfjhdnbgfeaaGreatDoor
