/- Generated: the contracts. -/
import Derived.Test.YtjnkagkoolbodaaGreatDoorEq0
import Derived.Test.YtjnkagkoolbodaaGreatDoorEq1
import Derived.Test.YtjnkagkoolbodaaGreatDoorEq2
set_option linter.unusedVariables false
set_option linter.unusedSimpArgs false
namespace Go.Proofs.YtjnkagkoolbodaaGreatDoor
open Go.Am
set_option maxRecDepth 100000
theorem mixed:Tryz.prog.follows .mixedOrders=true:=by kernel_rfl
abbrev CtH (m:Nat):Prop:=∀R,CallOK (R:=R) Tryz.prog (ct m)
abbrev CtK (m:Nat):Prop:=∀k,k<m→CtH k
abbrev FQ {R:Type} (f:Nat) (args:List AV) (objs:List Ob) (K:Res→Option R) (r:R):Prop:=∃q:Res,K q=some r∧FX Tryz.prog f args objs q.1 q.2∧HasBody Tryz.prog f
theorem fo {R:Type} {m f:Nat} {fn:Func} {c:Code} {args:List AV} {objs:List Ob} {res:AV} {ro:List Ob} {dec:Res→Option R} {r:R} (hct:CtH m) (hf:Tryz.prog.funcs[f]? =some fn) (hc:fn.body=some c) (hl:Nat.ble args.length fn.ntmps=true) (hd:∀{b:Res},dec b=some r→Sim Tryz.prog b (res,ro)) (h:ev Tryz.prog env (ct m) jn (m+1) f fn.ntmps c ⟨args,objs,objs.length⟩ (fun e σ=>(JC Tryz.prog env f fn e σ).bind dec)=some r):FX Tryz.prog f args objs res ro:=
 FX_of (q:=(res,ro)) (E:=env) (m:=m+1) (dec:=dec) jn_ok (hct _) mixed hf hc (Nat.le_of_ble_eq_true hl) (fun _ hb=>hd hb) h
section
variable {R:Type} {args:List AV} {objs:List Ob} {K:Res→Option R} {r:R}
theorem aC7 m (hct:CtH m) (a0:Int) {r:Bool} (h:yI (m+1) a0=some r):FX Tryz.prog 32 [.dat 3 (.int a0)] [] (.dat 4 (.bool r)) []:=
 fo hct Tryz.func32 rfl rfl aH ((aBA m a0).trans h)
theorem aC8 m (hct:CtH m) (a0:List Dt) (a1 a2:Int) {r:Bool} (h:vH (m+1) a0 a1 a2=some r):FX Tryz.prog 26 [.dat 22 (.lst a0),.dat 3 (.int a1),.dat 3 (.int a2)] [] (.dat 4 (.bool r)) []:=
 fo hct Tryz.func26 rfl rfl aH ((aBB m a0 a1 a2).trans h)
theorem aC9 m (hct:CtH m) (a0:List Dt) {r:List Dt×List Dt×List Dt} (h:z8 (m+1) a0=some r):FX Tryz.prog 12 [.dat 22 (.lst a0)] [] (.tup [.dat 22 (.lst r.1),.dat 22 (.lst r.2.1),.dat 40 (.lst r.2.2)]) []:=
 fo hct Tryz.func12 rfl rfl aha ((aBC m a0).trans h)
theorem aDa m (hct:CtH m) (a0:Dt) {r:List Dt} (h:zU (m+1) a0=some r):FX Tryz.prog 34 [.dat 71 a0] [] (.dat 90 (.lst r)) []:=
 fo hct Tryz.func34 rfl rfl arp ((aBD m a0).trans h)
theorem aDb m (hct:CtH m) (a0:List Dt) (a1:Int) {r:Int} (h:qW (m+1) a0 a1=some r):FX Tryz.prog 14 [.dat 22 (.lst a0),.dat 3 (.int a1)] [] (.dat 3 (.int r)) []:=
 fo hct Tryz.func14 rfl rfl iB ((aBI m a0 a1).trans h)
theorem aDc m (hct:CtH m) (a0:List Dt) {r:List Dt} (h:zW (m+1) a0=some r):FX Tryz.prog 41 [.dat 26 (.lst a0)] [] (.dat 26 (.lst r)) []:=
 fo hct Tryz.func41 rfl rfl arq ((aBJ m a0).trans h)
theorem aDd m (hct:CtH m) (a0:Dt) {r:Dt} (h:y4 (m+1) a0=some r):FX Tryz.prog 22 [.dat 73 a0] [] (.dat 73 r) []:=
 fo hct Tryz.func22 rfl rfl ars ((aBK m a0).trans h)
theorem aAI m (hct:CtH m) (a0:List Dt) {r:List Dt} (h:i12 (m+1) a0=some r):FX Tryz.prog 21 [.dat 40 (.lst a0),.fn 22 []] [] (.dat 40 (.lst r)) []:=
 fo hct Tryz.func21 rfl rfl aru ((ayB m a0).trans h)
theorem aAJ m (hct:CtH m) (a0:List Dt) {r:List Dt} (h:i32 (m+1) a0=some r):FX Tryz.prog 43 [.dat 27 (.lst a0),.fn 42 []] [] (.dat 27 (.lst r)) []:=
 fo hct Tryz.func43 rfl rfl Va ((ayC m a0).trans h)
theorem aDe m (hct:CtH m) (a0:Dt) {r:Dt} (h:yD (m+1) a0=some r):FX Tryz.prog 42 [.dat 30 a0] [] (.dat 30 r) []:=
 fo hct Tryz.func42 rfl rfl arv ((aBL m a0).trans h)
theorem aAK m (hct:CtH m) (a0:List Dt) {r:List Dt} (h:i69 (m+1) a0=some r):FX Tryz.prog 98 [.dat 28 (.lst a0),.fn 99 []] [] (.dat 28 (.lst r)) []:=
 fo hct Tryz.func98 rfl rfl arw ((ayD m a0).trans h)
theorem aDf m (hct:CtH m) (a0:Dt) {r:Dt} (h:yQ (m+1) a0=some r):FX Tryz.prog 99 [.dat 156 a0] [] (.dat 156 r) []:=
 fo hct Tryz.func99 rfl rfl arx ((aBM m a0).trans h)
theorem aDg m (hct:CtH m) (a0:Dt) {r:Dt} (h:z7 (m+1) a0=some r):FX Tryz.prog 45 [.dat 36 a0] [] (.dat 36 r) []:=
 fo hct Tryz.func45 rfl rfl arz ((aBN m a0).trans h)
theorem aAL m (hct:CtH m) (a0:List Dt) {r:List Dt} (h:i68 (m+1) a0=some r):FX Tryz.prog 100 [.dat 34 (.lst a0),.fn 45 []] [] (.dat 34 (.lst r)) []:=
 fo hct Tryz.func100 rfl rfl arA ((ayE m a0).trans h)
theorem aDh m (hct:CtH m) (a0:Dt) {r:Dt} (h:yX (m+1) a0=some r):FX Tryz.prog 51 [.dat 110 a0] [] (.dat 110 r) []:=
 fo hct Tryz.func51 rfl rfl arB ((aBO m a0).trans h)
theorem aAM m (hct:CtH m) (a0:List Dt) {r:List Dt} (h:i22 (m+1) a0=some r):FX Tryz.prog 50 [.dat 43 (.lst a0),.fn 51 []] [] (.dat 43 (.lst r)) []:=
 fo hct Tryz.func50 rfl rfl arC ((ayF m a0).trans h)
theorem aDi m (hct:CtH m) (a0:Dt) {r:Dt} (h:vC (m+1) a0=some r):FX Tryz.prog 53 [.dat 114 a0] [] (.dat 114 r) []:=
 fo hct Tryz.func53 rfl rfl arD ((aBP m a0).trans h)
theorem aAN m (hct:CtH m) (a0:List Dt) {r:List Dt} (h:i26 (m+1) a0=some r):FX Tryz.prog 52 [.dat 59 (.lst a0),.fn 53 []] [] (.dat 59 (.lst r)) []:=
 fo hct Tryz.func52 rfl rfl arE ((ayG m a0).trans h)
theorem aDj m (hct:CtH m) (a0:Dt) {r:Dt} (h:vD (m+1) a0=some r):FX Tryz.prog 55 [.dat 118 a0] [] (.dat 118 r) []:=
 fo hct Tryz.func55 rfl rfl arF ((aBQ m a0).trans h)
theorem aAO m (hct:CtH m) (a0:List Dt) {r:List Dt} (h:i28 (m+1) a0=some r):FX Tryz.prog 54 [.dat 62 (.lst a0),.fn 55 []] [] (.dat 62 (.lst r)) []:=
 fo hct Tryz.func54 rfl rfl arG ((ayH m a0).trans h)
theorem aAP m (hct:CtH m) (a0:List Dt) {r:List Dt} (h:i34 (m+1) a0=some r):FX Tryz.prog 47 [.dat 41 (.lst a0),.fn 41 []] [] (.dat 41 (.lst r)) []:=
 fo hct Tryz.func47 rfl rfl Vb ((ayI m a0).trans h)
theorem aDk m (hct:CtH m) (a0:Dt) {r:Dt} (h:yY (m+1) a0=some r):FX Tryz.prog 44 [.dat 33 a0] [] (.dat 33 r) []:=
 fo hct Tryz.func44 rfl rfl arH ((aBR m a0).trans h)
theorem aDl m (hct:CtH m) (a0:Dt) {r:Dt} (h:yH (m+1) a0=some r):FX Tryz.prog 20 [.dat 39 a0] [] (.dat 39 r) []:=
 fo hct Tryz.func20 rfl rfl arI ((aBS m a0).trans h)
theorem aAQ m (hct:CtH m) (a0:List Dt) {r:List Dt} (h:i65 (m+1) a0=some r):FX Tryz.prog 46 [.dat 37 (.lst a0),.fn 20 []] [] (.dat 37 (.lst r)) []:=
 fo hct Tryz.func46 rfl rfl arJ ((ayJ m a0).trans h)
theorem aDm m (hct:CtH m) (a0 a1:Dt) {r:Bool} (h:qH (m+1) a0 a1=some r):FX Tryz.prog 72 [.dat 33 a0,.dat 33 a1] [] (.dat 4 (.bool r)) []:=
 fo hct Tryz.func72 rfl rfl aH ((aBT m a0 a1).trans h)
theorem aDn m (hct:CtH m) (a0 a1:List Dt) {r:Bool} (h:zL (m+1) a0 a1=some r):FX Tryz.prog 73 [.dat 26 (.lst a0),.dat 26 (.lst a1)] [] (.dat 4 (.bool r)) []:=
 fo hct Tryz.func73 rfl rfl aH ((aBU m a0 a1).trans h)
theorem aDo m (hct:CtH m) (a0 a1:List Dt) {r:Bool} (h:yE (m+1) a0 a1=some r):FX Tryz.prog 33 [.dat 26 (.lst a0),.dat 26 (.lst a1)] [] (.dat 4 (.bool r)) []:=
 fo hct Tryz.func33 rfl rfl aH ((aBV m a0 a1).trans h)
theorem aDp m (hct:CtH m) (a0 a1:List Dt) {r:Bool} (h:qP (m+1) a0 a1=some r):FX Tryz.prog 13 [.dat 40 (.lst a0),.dat 40 (.lst a1)] [] (.dat 4 (.bool r)) []:=
 fo hct Tryz.func13 rfl rfl aH ((aBZ m a0 a1).trans h)
theorem aDq m (hct:CtH m) (a0 a1:List Dt) {r:Bool} (h:zA (m+1) a0 a1=some r):FX Tryz.prog 63 [.dat 41 (.lst a0),.dat 41 (.lst a1)] [] (.dat 4 (.bool r)) []:=
 fo hct Tryz.func63 rfl rfl aH ((aB0 m a0 a1).trans h)
theorem aDr m (hct:CtH m) (a0 a1:List Dt) {r:Bool} (h:qK (m+1) a0 a1=some r):FX Tryz.prog 67 [.dat 40 (.lst a0),.dat 40 (.lst a1)] [] (.dat 4 (.bool r)) []:=
 fo hct Tryz.func67 rfl rfl aH ((aB1 m a0 a1).trans h)
theorem aDs m (hct:CtH m) (a0:Int) (a1:List Dt) {r:Bool} (h:zS (m+1) a0 a1=some r):FX Tryz.prog 74 [.dat 3 (.int a0),.dat 164 (.lst a1)] [] (.dat 4 (.bool r)) []:=
 fo hct Tryz.func74 rfl rfl aH ((aB2 m a0 a1).trans h)
theorem aDt m (hct:CtH m) (a0:Dt) {r:Bool} (h:yT (m+1) a0=some r):FX Tryz.prog 79 [.dat 69 a0] [] (.dat 4 (.bool r)) []:=
 fo hct Tryz.func79 rfl rfl aH ((aB3 m a0).trans h)
theorem aDu m (hct:CtH m) (a0:Dt) {r:Bool} (h:yF (m+1) a0=some r):FX Tryz.prog 78 [.dat 66 a0] [] (.dat 4 (.bool r)) []:=
 fo hct Tryz.func78 rfl rfl aH ((aB4 m a0).trans h)
theorem aDv m (hct:CtH m) (a0:Dt) {r:Dt} (h:y5 (m+1) a0=some r):FX Tryz.prog 49 [.dat 106 a0] [] (.dat 106 r) []:=
 fo hct Tryz.func49 rfl rfl arK ((aB5 m a0).trans h)
theorem aAR m (hct:CtH m) (a0:List Dt) {r:List Dt} (h:i66 (m+1) a0=some r):FX Tryz.prog 48 [.dat 42 (.lst a0),.fn 49 []] [] (.dat 42 (.lst r)) []:=
 fo hct Tryz.func48 rfl rfl arL ((ayN m a0).trans h)
theorem aDw m (hct:CtH m) (a0:Dt) {r:Dt} (h:yZ (m+1) a0=some r):FX Tryz.prog 23 [.dat 45 a0] [] (.dat 45 r) []:=
 fo hct Tryz.func23 rfl rfl arM ((aB6 m a0).trans h)
theorem aAS m (hct:CtH m) (a0:List Dt) {r:List Dt} (h:i10 (m+1) a0=some r):FX Tryz.prog 24 [.dat 22 (.lst a0),.fn 25 []] [] (.dat 22 (.lst r)) []:=
 fo hct Tryz.func24 rfl rfl arN ((ayO m a0).trans h)
theorem aDx m (hct:CtH m) (a0:Dt) {r:Dt} (h:yJ (m+1) a0=some r):FX Tryz.prog 25 [.dat 71 a0] [] (.dat 71 r) []:=
 fo hct Tryz.func25 rfl rfl arO ((aB7 m a0).trans h)
theorem aAT m (hct:CtH m) (a0:List Dt) {r:List Dt} (h:i30 (m+1) a0=some r):FX Tryz.prog 56 [.dat 67 (.lst a0),.fn 57 []] [] (.dat 67 (.lst r)) []:=
 fo hct Tryz.func56 rfl rfl arP ((ayP m a0).trans h)
theorem aDy m (hct:CtH m) (a0:Dt) {r:Dt} (h:yM (m+1) a0=some r):FX Tryz.prog 57 [.dat 122 a0] [] (.dat 122 r) []:=
 fo hct Tryz.func57 rfl rfl arQ ((aB8 m a0).trans h)
theorem aDz m (hct:CtH m) (a0:List Dt) {r:List Dt×List Dt×List Dt} (h:zV (m+1) a0=some r):FX Tryz.prog 11 [.dat 22 (.lst a0)] [] (.tup [.dat 22 (.lst r.1),.dat 22 (.lst r.2.1),.dat 40 (.lst r.2.2)]) []:=
 fo hct Tryz.func11 rfl rfl aha ((aCc m a0).trans h)
theorem aDA m (hct:CtH m) (a0 a1:Dt) {r:Bool} (h:qA (m+1) a0 a1=some r):FX Tryz.prog 60 [.dat 30 a0,.dat 30 a1] [] (.dat 4 (.bool r)) []:=
 fo hct Tryz.func60 rfl rfl aH ((aCd m a0 a1).trans h)
theorem aDB m (hct:CtH m) (a0 a1:List Dt) {r:Bool} (h:y0 (m+1) a0 a1=some r):FX Tryz.prog 61 [.dat 27 (.lst a0),.dat 27 (.lst a1)] [] (.dat 4 (.bool r)) []:=
 fo hct Tryz.func61 rfl rfl aH ((aCe m a0 a1).trans h)
theorem aDC m (hct:CtH m) (a0 a1:Dt) {r:Bool} (h:qC (m+1) a0 a1=some r):FX Tryz.prog 68 [.dat 36 a0,.dat 36 a1] [] (.dat 4 (.bool r)) []:=
 fo hct Tryz.func68 rfl rfl aH ((aCf m a0 a1).trans h)
theorem aDD m (hct:CtH m) (a0 a1:Dt) {r:Bool} (h:qR (m+1) a0 a1=some r):FX Tryz.prog 69 [.dat 61 a0,.dat 61 a1] [] (.dat 4 (.bool r)) []:=
 fo hct Tryz.func69 rfl rfl aH ((aCg m a0 a1).trans h)
theorem aDE m (hct:CtH m) (a0 a1:Dt) {r:Bool} (h:qJ (m+1) a0 a1=some r):FX Tryz.prog 70 [.dat 64 a0,.dat 64 a1] [] (.dat 4 (.bool r)) []:=
 fo hct Tryz.func70 rfl rfl aH ((aCh m a0 a1).trans h)
theorem aDF m (hct:CtH m) (a0 a1:Dt) {r:Bool} (h:qU (m+1) a0 a1=some r):FX Tryz.prog 64 [.dat 39 a0,.dat 39 a1] [] (.dat 4 (.bool r)) []:=
 fo hct Tryz.func64 rfl rfl aH ((aCi m a0 a1).trans h)
theorem aDG m (hct:CtH m) (a0:Dt) {r:Bool} (h:yS (m+1) a0=some r):FX Tryz.prog 75 [.dat 36 a0] [] (.dat 4 (.bool r)) []:=
 fo hct Tryz.func75 rfl rfl aH ((aCj m a0).trans h)
theorem aDH m (hct:CtH m) (a0:Dt) {r:Bool} (h:y8 (m+1) a0=some r):FX Tryz.prog 76 [.dat 61 a0] [] (.dat 4 (.bool r)) []:=
 fo hct Tryz.func76 rfl rfl aH ((aCk m a0).trans h)
theorem aDI m (hct:CtH m) (a0:Dt) {r:Bool} (h:yU (m+1) a0=some r):FX Tryz.prog 77 [.dat 64 a0] [] (.dat 4 (.bool r)) []:=
 fo hct Tryz.func77 rfl rfl aH ((aCl m a0).trans h)
theorem aDJ m (hct:CtH m) (a0 a1:List Dt) {r:Bool} (h:qI (m+1) a0 a1=some r):FX Tryz.prog 112 [.dat 43 (.lst a0),.dat 43 (.lst a1)] [] (.dat 4 (.bool r)) []:=
 fo hct Tryz.func112 rfl rfl aH ((aCm m a0 a1).trans h)
theorem aDK m (hct:CtH m) (a0 a1:Dt) {r:Bool} (h:qB (m+1) a0 a1=some r):FX Tryz.prog 65 [.dat 45 a0,.dat 45 a1] [] (.dat 4 (.bool r)) []:=
 fo hct Tryz.func65 rfl rfl aH ((aCn m a0 a1).trans h)
theorem aDL m (hct:CtH m) (a0:Dt) {r:Bool} (h:qO (m+1) a0=some r):FX Tryz.prog 35 [.dat 71 a0] [] (.dat 4 (.bool r)) []:=
 fo hct Tryz.func35 rfl rfl aH ((aCo m a0).trans h)
theorem aDM m (hct:CtH m) (a0 a1:List Dt) {r:Bool} (h:vG (m+1) a0 a1=some r):FX Tryz.prog 66 [.dat 43 (.lst a0),.dat 43 (.lst a1)] [] (.dat 4 (.bool r)) []:=
 fo hct Tryz.func66 rfl rfl aH ((aCp m a0 a1).trans h)
theorem aDN m (hct:CtH m) (a0 a1:List Dt) {r:Bool} (h:zN (m+1) a0 a1=some r):FX Tryz.prog 10 [.dat 22 (.lst a0),.dat 22 (.lst a1)] [] (.dat 4 (.bool r)) []:=
 fo hct Tryz.func10 rfl rfl aH ((aCu m a0 a1).trans h)
theorem aDO m (hct:CtH m) (a0 a1:Dt) {r:Bool} (h:qY (m+1) a0 a1=some r):FX Tryz.prog 31 [.dat 71 a0,.dat 71 a1] [] (.dat 4 (.bool r)) []:=
 fo hct Tryz.func31 rfl rfl aH ((aCv m a0 a1).trans h)
theorem aDP m (hct:CtH m) (a0 a1:List Dt) {r:Bool} (h:qN (m+1) a0 a1=some r):FX Tryz.prog 71 [.dat 67 (.lst a0),.dat 67 (.lst a1)] [] (.dat 4 (.bool r)) []:=
 fo hct Tryz.func71 rfl rfl aH ((aCw m a0 a1).trans h)
theorem aDQ m (hct:CtH m) (a0:Dt) (a1 a2:Int) {r:Int} (h:zT (m+1) a0 a1 a2=some r):FX Tryz.prog 58 [.dat 39 a0,.dat 3 (.int a1),.dat 3 (.int a2)] [] (.dat 3 (.int r)) []:=
 fo hct Tryz.func58 rfl rfl iB ((aCx m a0 a1 a2).trans h)
theorem aDR m (hct:CtH m) (a0:Dt) {r:List Dt} (h:zP (m+1) a0=some r):FX Tryz.prog 113 [.dat 45 a0] [] (.dat 41 (.lst r)) []:=
 fo hct Tryz.func113 rfl rfl Vb ((aCy m a0).trans h)
theorem aDS m (hct:CtH m) (a0 a1:List Dt) {r:Bool} (h:y7 (m+1) a0 a1=some r):FX Tryz.prog 114 [.dat 26 (.lst a0),.dat 26 (.lst a1)] [] (.dat 4 (.bool r)) []:=
 fo hct Tryz.func114 rfl rfl aH ((aCz m a0 a1).trans h)
theorem aDT m (hct:CtH m) (a0:ByteArray) {r:Bool} (h:zE (m+1) a0=some r):FX Tryz.prog 119 [.dat 9 (.str a0)] [] (.dat 4 (.bool r)) []:=
 fo hct Tryz.func119 rfl rfl aH ((aCA m a0).trans h)
theorem aDU m (hct:CtH m) (a0:List Dt) {r:Bool} (h:zC (m+1) a0=some r):FX Tryz.prog 105 [.dat 26 (.lst a0)] [] (.dat 4 (.bool r)) []:=
 fo hct Tryz.func105 rfl rfl aH ((aCB m a0).trans h)
theorem aDV m (hct:CtH m) (a0:Dt) {r:Int} (h:qQ (m+1) a0=some r):FX Tryz.prog 88 [.dat 69 a0] [] (.dat 23 (.int r)) []:=
 fo hct Tryz.func88 rfl rfl bD ((aCC m a0).trans h)
theorem aDW m (hct:CtH m) (a0:ByteArray) {r:Bool} (h:yV (m+1) a0=some r):FX Tryz.prog 115 [.dat 9 (.str a0)] [] (.dat 4 (.bool r)) []:=
 fo hct Tryz.func115 rfl rfl aH ((aCD m a0).trans h)
theorem aDX m (hct:CtH m) (a0:Int) {r:Bool} (h:vB (m+1) a0=some r):FX Tryz.prog 104 [.dat 3 (.int a0)] [] (.dat 4 (.bool r)) []:=
 fo hct Tryz.func104 rfl rfl aH ((aCE m a0).trans h)
theorem aDY m (hct:CtH m) (a0:Int) {r:Bool} (h:yP (m+1) a0=some r):FX Tryz.prog 102 [.dat 3 (.int a0)] [] (.dat 4 (.bool r)) []:=
 fo hct Tryz.func102 rfl rfl aH ((aCF m a0).trans h)
theorem aDZ m (hct:CtH m) (a0:Int) {r:Bool} (h:y1 (m+1) a0=some r):FX Tryz.prog 108 [.dat 3 (.int a0)] [] (.dat 4 (.bool r)) []:=
 fo hct Tryz.func108 rfl rfl aH ((aCG m a0).trans h)
theorem aD0 m (hct:CtH m) (a0:Int) {r:Bool} (h:y6 (m+1) a0=some r):FX Tryz.prog 106 [.dat 3 (.int a0)] [] (.dat 4 (.bool r)) []:=
 fo hct Tryz.func106 rfl rfl aH ((aCH m a0).trans h)
theorem aD1 m (hct:CtH m) (a0:Dt) {r:Bool} (h:yR (m+1) a0=some r):FX Tryz.prog 101 [.dat 39 a0] [] (.dat 4 (.bool r)) []:=
 fo hct Tryz.func101 rfl rfl aH ((aCI m a0).trans h)
theorem aD2 m (hct:CtH m) (a0:Dt) {r:Bool} (h:yW (m+1) a0=some r):FX Tryz.prog 103 [.dat 39 a0] [] (.dat 4 (.bool r)) []:=
 fo hct Tryz.func103 rfl rfl aH ((aEM m a0).trans h)
theorem aD3 m (hct:CtH m) (a0 a1:List Dt) {r:Bool} (h:yC (m+1) a0 a1=some r):FX Tryz.prog 148 [.dat 26 (.lst a0),.dat 26 (.lst a1)] [] (.dat 4 (.bool r)) []:=
 fo hct Tryz.func148 rfl rfl aH ((aEN m a0 a1).trans h)
theorem aD4 m (hct:CtH m) (a0:List Dt) {r:Int} (h:zG (m+1) a0=some r):FX Tryz.prog 117 [.dat 40 (.lst a0)] [] (.dat 23 (.int r)) []:=
 fo hct Tryz.func117 rfl rfl bD ((aEO m a0).trans h)
theorem aD5 m (hct:CtH m) (a0 a1:Int) {r:Int} (h:yO (m+1) a0 a1=some r):FX Tryz.prog 149 [.dat 3 (.int a0),.dat 3 (.int a1)] [] (.dat 3 (.int r)) []:=
 fo hct Tryz.func149 rfl rfl iB ((aEP m a0 a1).trans h)
theorem aD6 m (hct:CtH m) (a0 a1:ByteArray) {r:Int} (h:yA (m+1) a0 a1=some r):FX Tryz.prog 150 [.dat 9 (.str a0),.dat 9 (.str a1)] [] (.dat 3 (.int r)) []:=
 fo hct Tryz.func150 rfl rfl iB ((aEQ m a0 a1).trans h)
theorem aD7 m (hct:CtH m) (a0 a1:Dt) {r:Int} (h:qD (m+1) a0 a1=some r):FX Tryz.prog 120 [.dat 30 a0,.dat 30 a1] [] (.dat 3 (.int r)) []:=
 fo hct Tryz.func120 rfl rfl iB ((aER m a0 a1).trans h)
theorem aD8 m (hct:CtH m) (a0:Int) {r:Bool} (h:vI (m+1) a0=some r):FX Tryz.prog 143 [.dat 3 (.int a0)] [] (.dat 4 (.bool r)) []:=
 fo hct Tryz.func143 rfl rfl aH ((aES m a0).trans h)
theorem aD9 m (hct:CtH m) (a0:Dt) {r:Bool} (h:vL (m+1) a0=some r):FX Tryz.prog 142 [.dat 129 a0] [] (.dat 4 (.bool r)) []:=
 fo hct Tryz.func142 rfl rfl aH ((aET m a0).trans h)
theorem aEa m (hct:CtH m) (a0:Dt) {r:Int} (h:zB (m+1) a0=some r):FX Tryz.prog 109 [.dat 33 a0] [] (.dat 23 (.int r)) []:=
 fo hct Tryz.func109 rfl rfl bD ((aEU m a0).trans h)
theorem aEb m (hct:CtH m) (a0:Dt) {r:Int} (h:yL (m+1) a0=some r):FX Tryz.prog 87 [.dat 71 a0] [] (.dat 23 (.int r)) []:=
 fo hct Tryz.func87 rfl rfl bD ((aEV m a0).trans h)
theorem aEc m (hct:CtH m) (a0:Dt) {r:Bool} (h:vF (m+1) a0=some r):FX Tryz.prog 145 [.dat 33 a0] [] (.dat 4 (.bool r)) []:=
 fo hct Tryz.func145 rfl rfl aH ((aEW m a0).trans h)
theorem aEd m (hct:CtH m) (a0:Dt) {r:Bool} (h:y2 (m+1) a0=some r):FX Tryz.prog 144 [.dat 30 a0] [] (.dat 4 (.bool r)) []:=
 fo hct Tryz.func144 rfl rfl aH ((aEX m a0).trans h)
theorem aEe m (hct:CtH m) (a0:Dt) {r:Bool} (h:vE (m+1) a0=some r):FX Tryz.prog 146 [.dat 36 a0] [] (.dat 4 (.bool r)) []:=
 fo hct Tryz.func146 rfl rfl aH ((aEY m a0).trans h)
theorem aEf m (hct:CtH m) (a0:Dt) {r:Bool} (h:zQ (m+1) a0=some r):FX Tryz.prog 110 [.dat 39 a0] [] (.dat 4 (.bool r)) []:=
 fo hct Tryz.func110 rfl rfl aH ((aEZ m a0).trans h)
theorem aEg m (hct:CtH m) (a0:List Dt) {r:Bool} (h:zM (m+1) a0=some r):FX Tryz.prog 219 [.dat 26 (.lst a0)] [] (.dat 4 (.bool r)) []:=
 fo hct Tryz.func219 rfl rfl aH ((aE0 m a0).trans h)
theorem aEh m (hct:CtH m) (a0:Int) {r:Int} (h:yB (m+1) a0=some r):FX Tryz.prog 218 [.dat 3 (.int a0)] [] (.dat 3 (.int r)) []:=
 fo hct Tryz.func218 rfl rfl iB ((aE1 m a0).trans h)
theorem aEi m (hct:CtH m) (a0:Dt) {r:List Dt} (h:zI (m+1) a0=some r):FX Tryz.prog 215 [.dat 30 a0] [] (.dat 27 (.lst r)) []:=
 fo hct Tryz.func215 rfl rfl Va ((aE2 m a0).trans h)
theorem aEj m (hct:CtH m) (a0:Dt) (a1:Int) {r:Int} (h:qX (m+1) a0 a1=some r):FX Tryz.prog 184 [.dat 30 a0,.dat 3 (.int a1)] [] (.dat 3 (.int r)) []:=
 fo hct Tryz.func184 rfl rfl iB ((aE3 m a0 a1).trans h)
theorem aEk m (hct:CtH m) (a0:Dt) {r:Int} (h:vJ (m+1) a0=some r):FX Tryz.prog 139 [.dat 30 a0] [] (.dat 3 (.int r)) []:=
 fo hct Tryz.func139 rfl rfl iB ((aE4 m a0).trans h)
theorem aEl m (hct:CtH m) (a0:Dt) (a1:Int) {r:Int} (h:zY (m+1) a0 a1=some r):FX Tryz.prog 185 [.dat 30 a0,.dat 3 (.int a1)] [] (.dat 3 (.int r)) []:=
 fo hct Tryz.func185 rfl rfl iB ((aE5 m a0 a1).trans h)
theorem aEm m (hct:CtH m) (a0:Dt) {r:Int} (h:vK (m+1) a0=some r):FX Tryz.prog 140 [.dat 30 a0] [] (.dat 3 (.int r)) []:=
 fo hct Tryz.func140 rfl rfl iB ((aE6 m a0).trans h)
theorem aEn m (hct:CtH m) (a0:ByteArray) (a1 a2:Int) {r:Bool} (h:zX (m+1) a0 a1 a2=some r):FX Tryz.prog 216 [.dat 9 (.str a0),.dat 3 (.int a1),.dat 3 (.int a2)] [] (.dat 4 (.bool r)) []:=
 fo hct Tryz.func216 rfl rfl aH ((aE7 m a0 a1 a2).trans h)
theorem aEo m (hct:CtH m) (a0:ByteArray) {r:Bool} (h:qZ (m+1) a0=some r):FX Tryz.prog 186 [.dat 9 (.str a0)] [] (.dat 4 (.bool r)) []:=
 fo hct Tryz.func186 rfl rfl aH ((aE8 m a0).trans h)
theorem aEp m (hct:CtH m) (a0:ByteArray) {r:Bool} (h:zK (m+1) a0=some r):FX Tryz.prog 217 [.dat 9 (.str a0)] [] (.dat 4 (.bool r)) []:=
 fo hct Tryz.func217 rfl rfl aH ((aE9 m a0).trans h)
theorem aEq m (hct:CtH m) (a0:Dt) (a1:Bool) {r:Bool} (h:qE (m+1) a0 a1=some r):FX Tryz.prog 141 [.dat 30 a0,.dat 4 (.bool a1)] [] (.dat 4 (.bool r)) []:=
 fo hct Tryz.func141 rfl rfl aH ((aFa m a0 a1).trans h)
theorem aEr m (hct:CtH m) (a0:Dt) (a1:Bool) {r:Bool} (h:qG (m+1) a0 a1=some r):FX Tryz.prog 187 [.dat 30 a0,.dat 4 (.bool a1)] [] (.dat 4 (.bool r)) []:=
 fo hct Tryz.func187 rfl rfl aH ((aFb m a0 a1).trans h)
theorem aEs m (hct:CtH m) (a0:Dt) {r:Bool} (h:y3 (m+1) a0=some r):FX Tryz.prog 107 [.dat 30 a0] [] (.dat 4 (.bool r)) []:=
 fo hct Tryz.func107 rfl rfl aH ((aFc m a0).trans h)
theorem aEt m (hct:CtH m) (a0:Dt) {r:Int} (h:qL (m+1) a0=some r):FX Tryz.prog 188 [.dat 36 a0] [] (.dat 23 (.int r)) []:=
 fo hct Tryz.func188 rfl rfl bD ((aFd m a0).trans h)
theorem aEu m (hct:CtH m) (a0:Dt) (a1 a2:Int) {r:Int×Int} (h:zJ (m+1) a0 a1 a2=some r):FX Tryz.prog 147 [.dat 36 a0,.dat 3 (.int a1),.dat 3 (.int a2)] [] (.tup [.dat 3 (.int r.1),.dat 23 (.int r.2)]) []:=
 fo hct Tryz.func147 rfl rfl arR ((aFe m a0 a1 a2).trans h)
theorem aEv m (hct:CtH m) (a0:Dt) {r:Int} (h:yG (m+1) a0=some r):FX Tryz.prog 111 [.dat 36 a0] [] (.dat 23 (.int r)) []:=
 fo hct Tryz.func111 rfl rfl bD ((aFf m a0).trans h)
theorem aEw m (hct:CtH m) (a0:Dt) {r:Int} (h:qS (m+1) a0=some r):FX Tryz.prog 80 [.dat 45 a0] [] (.dat 23 (.int r)) []:=
 fo hct Tryz.func80 rfl rfl bD ((aFg m a0).trans h)
theorem aEx m (hct:CtH m) (a0:List Dt) {r:Int} (h:zH (m+1) a0=some r):FX Tryz.prog 81 [.dat 43 (.lst a0)] [] (.dat 23 (.int r)) []:=
 fo hct Tryz.func81 rfl rfl bD ((aFh m a0).trans h)
theorem aEy m (hct:CtH m) (a0:Dt) {r:Int} (h:zO (m+1) a0=some r):FX Tryz.prog 86 [.dat 71 a0] [] (.dat 23 (.int r)) []:=
 fo hct Tryz.func86 rfl rfl bD ((aFi m a0).trans h)
theorem aEz m (hct:CtH m) (a0:Dt) {r:Int} (h:z6 (m+1) a0=some r):FX Tryz.prog 89 [.dat 71 a0] [] (.dat 23 (.int r)) []:=
 fo hct Tryz.func89 rfl rfl bD ((aFj m a0).trans h)
theorem aEA m (hct:CtH m) (a0:Dt) (a1:Bool) {r:Int} (h:qF (m+1) a0 a1=some r):FX Tryz.prog 59 [.dat 39 a0,.dat 4 (.bool a1)] [] (.dat 23 (.int r)) []:=
 fo hct Tryz.func59 rfl rfl bD ((aFk m a0 a1).trans h)
theorem aEB m (hct:CtH m) (a0:Dt) {r:Int} (h:vA (m+1) a0=some r):FX Tryz.prog 27 [.dat 39 a0] [] (.dat 23 (.int r)) []:=
 fo hct Tryz.func27 rfl rfl bD ((aFl m a0).trans h)
theorem aEC m (hct:CtH m) (a0:Dt) {r:Int} (h:zZ (m+1) a0=some r):FX Tryz.prog 116 [.dat 114 a0] [] (.dat 23 (.int r)) []:=
 fo hct Tryz.func116 rfl rfl bD ((aFm m a0).trans h)
theorem aED m (hct:CtH m) (a0:Dt) {r:Int} (h:zD (m+1) a0=some r):FX Tryz.prog 82 [.dat 61 a0] [] (.dat 23 (.int r)) []:=
 fo hct Tryz.func82 rfl rfl bD ((aFo m a0).trans h)
theorem aEE m (hct:CtH m) (a0:Dt) {r:Int} (h:zF (m+1) a0=some r):FX Tryz.prog 118 [.dat 118 a0] [] (.dat 23 (.int r)) []:=
 fo hct Tryz.func118 rfl rfl bD ((aFp m a0).trans h)
theorem aEF m (hct:CtH m) (a0:Dt) {r:Int} (h:qM (m+1) a0=some r):FX Tryz.prog 83 [.dat 64 a0] [] (.dat 23 (.int r)) []:=
 fo hct Tryz.func83 rfl rfl bD ((aFq m a0).trans h)
theorem aEG m (hct:CtH m) (a0:List Dt) (a1:Bool) {r:Int} (h:qV (m+1) a0 a1=some r):FX Tryz.prog 15 [.dat 22 (.lst a0),.dat 4 (.bool a1)] [] (.dat 23 (.int r)) []:=
 fo hct Tryz.func15 rfl rfl bD ((aFv m a0 a1).trans h)
theorem aEH m (hct:CtH m) (a0:Dt) {r:Int} (h:yK (m+1) a0=some r):FX Tryz.prog 36 [.dat 71 a0] [] (.dat 23 (.int r)) []:=
 fo hct Tryz.func36 rfl rfl bD ((aFw m a0).trans h)
theorem aEI m (hct:CtH m) (a0:Dt) {r:Int} (h:zR (m+1) a0=some r):FX Tryz.prog 84 [.dat 71 a0] [] (.dat 23 (.int r)) []:=
 fo hct Tryz.func84 rfl rfl bD ((aFx m a0).trans h)
theorem aEJ m (hct:CtH m) (a0:List Dt) {r:Int} (h:qT (m+1) a0=some r):FX Tryz.prog 85 [.dat 67 (.lst a0)] [] (.dat 23 (.int r)) []:=
 fo hct Tryz.func85 rfl rfl bD ((aCP m a0).trans h)
theorem aEK m (hct:CtH m) (a0:List Dt) {r:Int} (h:y9 (m+1) a0=some r):FX Tryz.prog 5 [.dat 22 (.lst a0)] [] (.dat 23 (.int r)) []:=
 fo hct Tryz.func5 rfl rfl bD ((aCR m a0).trans h)
theorem awV m (hct:CtH m) (a0:List Dt) {r:Bool} (h:yN (m+1) a0=some r):FX Tryz.prog 4 [.dat 22 (.lst a0)] [] (.dat 4 (.bool r)) []:=
 fo hct Tryz.func4 rfl rfl aH ((aCT m a0).trans h)
theorem aAU m (hct:CtK m) (h:ct4 m args objs K=some r):FQ 4 args objs K r:=by
 unfold ct4 at h
 split at h
 ·rename_i l hl
  obtain⟨x,hx,hk⟩:=Option.bind_eq_some_iff.1 h
  obtain⟨h1,h2⟩:=vO hl
  cases m with
  |zero=>cases hx
  |succ m=>exact⟨_,hk,(awV m (hct m (Nat.lt_succ_self m)) _ hx).conv h1 h2,⟨_,Tryz.func4,rfl,by decide⟩⟩
 cases h
theorem aAV m (hct:CtK m) (h:ct5 m args objs K=some r):FQ 5 args objs K r:=by
 unfold ct5 at h
 split at h
 ·rename_i l hl
  obtain⟨x,hx,hk⟩:=Option.bind_eq_some_iff.1 h
  obtain⟨h1,h2⟩:=vO hl
  cases m with
  |zero=>cases hx
  |succ m=>exact⟨_,hk,(aEK m (hct m (Nat.lt_succ_self m)) _ hx).conv h1 h2,⟨_,Tryz.func5,rfl,by decide⟩⟩
 cases h
theorem aAW m (hct:CtK m) (h:ct6 m args objs K=some r):FQ 6 args objs K r:=by
 unfold ct6 at h
 split at h
 ·rename_i l hl
  obtain⟨x,hx,hk⟩:=Option.bind_eq_some_iff.1 h
  obtain⟨h1,h2⟩:=arj hl
  exact⟨_,hk,(Zl hx).conv h1 h2,⟨_,Tryz.func6,rfl,by decide⟩⟩
 cases h
theorem ar8 m (hct:CtK m) (h:azl m args objs K=some r):FQ 11 args objs K r:=by
 unfold azl at h
 split at h
 ·rename_i l hl
  obtain⟨x,hx,hk⟩:=Option.bind_eq_some_iff.1 h
  obtain⟨h1,h2⟩:=vO hl
  cases m with
  |zero=>cases hx
  |succ m=>exact⟨_,hk,(aDz m (hct m (Nat.lt_succ_self m)) _ hx).conv h1 h2,⟨_,Tryz.func11,rfl,by decide⟩⟩
 cases h
theorem ar9 m (hct:CtK m) (h:azm m args objs K=some r):FQ 12 args objs K r:=by
 unfold azm at h
 split at h
 ·rename_i l hl
  obtain⟨x,hx,hk⟩:=Option.bind_eq_some_iff.1 h
  obtain⟨h1,h2⟩:=vO hl
  cases m with
  |zero=>cases hx
  |succ m=>exact⟨_,hk,(aC9 m (hct m (Nat.lt_succ_self m)) _ hx).conv h1 h2,⟨_,Tryz.func12,rfl,by decide⟩⟩
 cases h
theorem asa m (hct:CtK m) (h:azn m args objs K=some r):FQ 10 args objs K r:=by
 unfold azn at h
 split at h
 ·rename_i l hl
  obtain⟨x,hx,hk⟩:=Option.bind_eq_some_iff.1 h
  obtain⟨h1,h2⟩:=ark hl
  cases m with
  |zero=>cases hx
  |succ m=>exact⟨_,hk,(aDN m (hct m (Nat.lt_succ_self m)) _ _ hx).conv h1 h2,⟨_,Tryz.func10,rfl,by decide⟩⟩
 cases h
theorem asb m (hct:CtK m) (h:azo m args objs K=some r):FQ 13 args objs K r:=by
 unfold azo at h
 split at h
 ·rename_i l hl
  obtain⟨x,hx,hk⟩:=Option.bind_eq_some_iff.1 h
  obtain⟨h1,h2⟩:=U1 hl
  cases m with
  |zero=>cases hx
  |succ m=>exact⟨_,hk,(aDp m (hct m (Nat.lt_succ_self m)) _ _ hx).conv h1 h2,⟨_,Tryz.func13,rfl,by decide⟩⟩
 cases h
theorem asc m (hct:CtK m) (h:azp m args objs K=some r):FQ 14 args objs K r:=by
 unfold azp at h
 split at h
 ·rename_i l hl
  obtain⟨x,hx,hk⟩:=Option.bind_eq_some_iff.1 h
  obtain⟨h1,h2⟩:=arn hl
  cases m with
  |zero=>cases hx
  |succ m=>exact⟨_,hk,(aDb m (hct m (Nat.lt_succ_self m)) _ _ hx).conv h1 h2,⟨_,Tryz.func14,rfl,by decide⟩⟩
 cases h
theorem ase m (hct:CtK m) (h:azq m args objs K=some r):FQ 15 args objs K r:=by
 unfold azq at h
 split at h
 ·rename_i l hl
  obtain⟨x,hx,hk⟩:=Option.bind_eq_some_iff.1 h
  obtain⟨h1,h2⟩:=aro hl
  cases m with
  |zero=>cases hx
  |succ m=>exact⟨_,hk,(aEG m (hct m (Nat.lt_succ_self m)) _ _ hx).conv h1 h2,⟨_,Tryz.func15,rfl,by decide⟩⟩
 cases h
theorem asf m (hct:CtK m) (h:azr m args objs K=some r):FQ 32 args objs K r:=by
 unfold azr at h
 split at h
 ·rename_i l hl
  obtain⟨x,hx,hk⟩:=Option.bind_eq_some_iff.1 h
  obtain⟨h1,h2⟩:=jw hl
  cases m with
  |zero=>cases hx
  |succ m=>exact⟨_,hk,(aC7 m (hct m (Nat.lt_succ_self m)) _ hx).conv h1 h2,⟨_,Tryz.func32,rfl,by decide⟩⟩
 cases h
theorem asg m (hct:CtK m) (h:azs m args objs K=some r):FQ 24 args objs K r:=by
 unfold azs at h
 split at h
 ·rename_i l hl
  obtain⟨x,hx,hk⟩:=Option.bind_eq_some_iff.1 h
  obtain⟨h1,h2⟩:=afe hl
  cases m with
  |zero=>cases hx
  |succ m=>exact⟨_,hk,(aAS m (hct m (Nat.lt_succ_self m)) _ hx).conv h1 h2,⟨_,Tryz.func24,rfl,by decide⟩⟩
 cases h
theorem ash m (hct:CtK m) (h:azt m args objs K=some r):FQ 25 args objs K r:=by
 unfold azt at h
 split at h
 ·rename_i l hl
  obtain⟨x,hx,hk⟩:=Option.bind_eq_some_iff.1 h
  obtain⟨h1,h2⟩:=fB hl
  cases m with
  |zero=>cases hx
  |succ m=>exact⟨_,hk,(aDx m (hct m (Nat.lt_succ_self m)) _ hx).conv h1 h2,⟨_,Tryz.func25,rfl,by decide⟩⟩
 cases h
theorem asi m (hct:CtK m) (h:azu m args objs K=some r):FQ 21 args objs K r:=by
 unfold azu at h
 split at h
 ·rename_i l hl
  obtain⟨x,hx,hk⟩:=Option.bind_eq_some_iff.1 h
  obtain⟨h1,h2⟩:=afg hl
  cases m with
  |zero=>cases hx
  |succ m=>exact⟨_,hk,(aAI m (hct m (Nat.lt_succ_self m)) _ hx).conv h1 h2,⟨_,Tryz.func21,rfl,by decide⟩⟩
 cases h
theorem asj m (hct:CtK m) (h:azv m args objs K=some r):FQ 22 args objs K r:=by
 unfold azv at h
 split at h
 ·rename_i l hl
  obtain⟨x,hx,hk⟩:=Option.bind_eq_some_iff.1 h
  obtain⟨h1,h2⟩:=afi hl
  cases m with
  |zero=>cases hx
  |succ m=>exact⟨_,hk,(aDd m (hct m (Nat.lt_succ_self m)) _ hx).conv h1 h2,⟨_,Tryz.func22,rfl,by decide⟩⟩
 cases h
theorem asl m (hct:CtK m) (h:azw m args objs K=some r):FQ 26 args objs K r:=by
 unfold azw at h
 split at h
 ·rename_i l hl
  obtain⟨x,hx,hk⟩:=Option.bind_eq_some_iff.1 h
  obtain⟨h1,h2⟩:=afk hl
  cases m with
  |zero=>cases hx
  |succ m=>exact⟨_,hk,(aC8 m (hct m (Nat.lt_succ_self m)) _ _ _ hx).conv h1 h2,⟨_,Tryz.func26,rfl,by decide⟩⟩
 cases h
theorem asn m (hct:CtK m) (h:azx m args objs K=some r):FQ 31 args objs K r:=by
 unfold azx at h
 split at h
 ·rename_i l hl
  obtain⟨x,hx,hk⟩:=Option.bind_eq_some_iff.1 h
  obtain⟨h1,h2⟩:=afm hl
  cases m with
  |zero=>cases hx
  |succ m=>exact⟨_,hk,(aDO m (hct m (Nat.lt_succ_self m)) _ _ hx).conv h1 h2,⟨_,Tryz.func31,rfl,by decide⟩⟩
 cases h
theorem aso m (hct:CtK m) (h:azy m args objs K=some r):FQ 33 args objs K r:=by
 unfold azy at h
 split at h
 ·rename_i l hl
  obtain⟨x,hx,hk⟩:=Option.bind_eq_some_iff.1 h
  obtain⟨h1,h2⟩:=qj hl
  cases m with
  |zero=>cases hx
  |succ m=>exact⟨_,hk,(aDo m (hct m (Nat.lt_succ_self m)) _ _ hx).conv h1 h2,⟨_,Tryz.func33,rfl,by decide⟩⟩
 cases h
theorem asq m (hct:CtK m) (h:azz m args objs K=some r):FQ 34 args objs K r:=by
 unfold azz at h
 split at h
 ·rename_i l hl
  obtain⟨x,hx,hk⟩:=Option.bind_eq_some_iff.1 h
  obtain⟨h1,h2⟩:=fB hl
  cases m with
  |zero=>cases hx
  |succ m=>exact⟨_,hk,(aDa m (hct m (Nat.lt_succ_self m)) _ hx).conv h1 h2,⟨_,Tryz.func34,rfl,by decide⟩⟩
 cases h
theorem asr m (hct:CtK m) (h:azA m args objs K=some r):FQ 36 args objs K r:=by
 unfold azA at h
 split at h
 ·rename_i l hl
  obtain⟨x,hx,hk⟩:=Option.bind_eq_some_iff.1 h
  obtain⟨h1,h2⟩:=fB hl
  cases m with
  |zero=>cases hx
  |succ m=>exact⟨_,hk,(aEH m (hct m (Nat.lt_succ_self m)) _ hx).conv h1 h2,⟨_,Tryz.func36,rfl,by decide⟩⟩
 cases h
theorem asu m (hct:CtK m) (h:azB m args objs K=some r):FQ 35 args objs K r:=by
 unfold azB at h
 split at h
 ·rename_i l hl
  obtain⟨x,hx,hk⟩:=Option.bind_eq_some_iff.1 h
  obtain⟨h1,h2⟩:=fB hl
  cases m with
  |zero=>cases hx
  |succ m=>exact⟨_,hk,(aDL m (hct m (Nat.lt_succ_self m)) _ hx).conv h1 h2,⟨_,Tryz.func35,rfl,by decide⟩⟩
 cases h
theorem asv m (hct:CtK m) (h:azC m args objs K=some r):FQ 20 args objs K r:=by
 unfold azC at h
 split at h
 ·rename_i l hl
  obtain⟨x,hx,hk⟩:=Option.bind_eq_some_iff.1 h
  obtain⟨h1,h2⟩:=kG hl
  cases m with
  |zero=>cases hx
  |succ m=>exact⟨_,hk,(aDl m (hct m (Nat.lt_succ_self m)) _ hx).conv h1 h2,⟨_,Tryz.func20,rfl,by decide⟩⟩
 cases h
theorem asw m (hct:CtK m) (h:azD m args objs K=some r):FQ 23 args objs K r:=by
 unfold azD at h
 split at h
 ·rename_i l hl
  obtain⟨x,hx,hk⟩:=Option.bind_eq_some_iff.1 h
  obtain⟨h1,h2⟩:=xw hl
  cases m with
  |zero=>cases hx
  |succ m=>exact⟨_,hk,(aDw m (hct m (Nat.lt_succ_self m)) _ hx).conv h1 h2,⟨_,Tryz.func23,rfl,by decide⟩⟩
 cases h
theorem asx m (hct:CtK m) (h:azE m args objs K=some r):FQ 50 args objs K r:=by
 unfold azE at h
 split at h
 ·rename_i l hl
  obtain⟨x,hx,hk⟩:=Option.bind_eq_some_iff.1 h
  obtain⟨h1,h2⟩:=afo hl
  cases m with
  |zero=>cases hx
  |succ m=>exact⟨_,hk,(aAM m (hct m (Nat.lt_succ_self m)) _ hx).conv h1 h2,⟨_,Tryz.func50,rfl,by decide⟩⟩
 cases h
theorem asy m (hct:CtK m) (h:azF m args objs K=some r):FQ 51 args objs K r:=by
 unfold azF at h
 split at h
 ·rename_i l hl
  obtain⟨x,hx,hk⟩:=Option.bind_eq_some_iff.1 h
  obtain⟨h1,h2⟩:=afq hl
  cases m with
  |zero=>cases hx
  |succ m=>exact⟨_,hk,(aDh m (hct m (Nat.lt_succ_self m)) _ hx).conv h1 h2,⟨_,Tryz.func51,rfl,by decide⟩⟩
 cases h
theorem asz m (hct:CtK m) (h:azG m args objs K=some r):FQ 41 args objs K r:=by
 unfold azG at h
 split at h
 ·rename_i l hl
  obtain⟨x,hx,hk⟩:=Option.bind_eq_some_iff.1 h
  obtain⟨h1,h2⟩:=xA hl
  cases m with
  |zero=>cases hx
  |succ m=>exact⟨_,hk,(aDc m (hct m (Nat.lt_succ_self m)) _ hx).conv h1 h2,⟨_,Tryz.func41,rfl,by decide⟩⟩
 cases h
theorem asA m (hct:CtK m) (h:azH m args objs K=some r):FQ 45 args objs K r:=by
 unfold azH at h
 split at h
 ·rename_i l hl
  obtain⟨x,hx,hk⟩:=Option.bind_eq_some_iff.1 h
  obtain⟨h1,h2⟩:=kH hl
  cases m with
  |zero=>cases hx
  |succ m=>exact⟨_,hk,(aDg m (hct m (Nat.lt_succ_self m)) _ hx).conv h1 h2,⟨_,Tryz.func45,rfl,by decide⟩⟩
 cases h
theorem asB m (hct:CtK m) (h:azI m args objs K=some r):FQ 52 args objs K r:=by
 unfold azI at h
 split at h
 ·rename_i l hl
  obtain⟨x,hx,hk⟩:=Option.bind_eq_some_iff.1 h
  obtain⟨h1,h2⟩:=afs hl
  cases m with
  |zero=>cases hx
  |succ m=>exact⟨_,hk,(aAN m (hct m (Nat.lt_succ_self m)) _ hx).conv h1 h2,⟨_,Tryz.func52,rfl,by decide⟩⟩
 cases h
theorem asC m (hct:CtK m) (h:azJ m args objs K=some r):FQ 53 args objs K r:=by
 unfold azJ at h
 split at h
 ·rename_i l hl
  obtain⟨x,hx,hk⟩:=Option.bind_eq_some_iff.1 h
  obtain⟨h1,h2⟩:=LX hl
  cases m with
  |zero=>cases hx
  |succ m=>exact⟨_,hk,(aDi m (hct m (Nat.lt_succ_self m)) _ hx).conv h1 h2,⟨_,Tryz.func53,rfl,by decide⟩⟩
 cases h
theorem asD m (hct:CtK m) (h:azK m args objs K=some r):FQ 54 args objs K r:=by
 unfold azK at h
 split at h
 ·rename_i l hl
  obtain⟨x,hx,hk⟩:=Option.bind_eq_some_iff.1 h
  obtain⟨h1,h2⟩:=afu hl
  cases m with
  |zero=>cases hx
  |succ m=>exact⟨_,hk,(aAO m (hct m (Nat.lt_succ_self m)) _ hx).conv h1 h2,⟨_,Tryz.func54,rfl,by decide⟩⟩
 cases h
theorem asE m (hct:CtK m) (h:azL m args objs K=some r):FQ 55 args objs K r:=by
 unfold azL at h
 split at h
 ·rename_i l hl
  obtain⟨x,hx,hk⟩:=Option.bind_eq_some_iff.1 h
  obtain⟨h1,h2⟩:=LY hl
  cases m with
  |zero=>cases hx
  |succ m=>exact⟨_,hk,(aDj m (hct m (Nat.lt_succ_self m)) _ hx).conv h1 h2,⟨_,Tryz.func55,rfl,by decide⟩⟩
 cases h
theorem asF m (hct:CtK m) (h:azM m args objs K=some r):FQ 56 args objs K r:=by
 unfold azM at h
 split at h
 ·rename_i l hl
  obtain⟨x,hx,hk⟩:=Option.bind_eq_some_iff.1 h
  obtain⟨h1,h2⟩:=afw hl
  cases m with
  |zero=>cases hx
  |succ m=>exact⟨_,hk,(aAT m (hct m (Nat.lt_succ_self m)) _ hx).conv h1 h2,⟨_,Tryz.func56,rfl,by decide⟩⟩
 cases h
theorem asG m (hct:CtK m) (h:azN m args objs K=some r):FQ 57 args objs K r:=by
 unfold azN at h
 split at h
 ·rename_i l hl
  obtain⟨x,hx,hk⟩:=Option.bind_eq_some_iff.1 h
  obtain⟨h1,h2⟩:=afy hl
  cases m with
  |zero=>cases hx
  |succ m=>exact⟨_,hk,(aDy m (hct m (Nat.lt_succ_self m)) _ hx).conv h1 h2,⟨_,Tryz.func57,rfl,by decide⟩⟩
 cases h
theorem asH m (hct:CtK m) (h:azO m args objs K=some r):FQ 43 args objs K r:=by
 unfold azO at h
 split at h
 ·rename_i l hl
  obtain⟨x,hx,hk⟩:=Option.bind_eq_some_iff.1 h
  obtain⟨h1,h2⟩:=afA hl
  cases m with
  |zero=>cases hx
  |succ m=>exact⟨_,hk,(aAJ m (hct m (Nat.lt_succ_self m)) _ hx).conv h1 h2,⟨_,Tryz.func43,rfl,by decide⟩⟩
 cases h
theorem asI m (hct:CtK m) (h:azP m args objs K=some r):FQ 42 args objs K r:=by
 unfold azP at h
 split at h
 ·rename_i l hl
  obtain⟨x,hx,hk⟩:=Option.bind_eq_some_iff.1 h
  obtain⟨h1,h2⟩:=jg hl
  cases m with
  |zero=>cases hx
  |succ m=>exact⟨_,hk,(aDe m (hct m (Nat.lt_succ_self m)) _ hx).conv h1 h2,⟨_,Tryz.func42,rfl,by decide⟩⟩
 cases h
theorem asJ m (hct:CtK m) (h:azQ m args objs K=some r):FQ 47 args objs K r:=by
 unfold azQ at h
 split at h
 ·rename_i l hl
  obtain⟨x,hx,hk⟩:=Option.bind_eq_some_iff.1 h
  obtain⟨h1,h2⟩:=afC hl
  cases m with
  |zero=>cases hx
  |succ m=>exact⟨_,hk,(aAP m (hct m (Nat.lt_succ_self m)) _ hx).conv h1 h2,⟨_,Tryz.func47,rfl,by decide⟩⟩
 cases h
theorem asK m (hct:CtK m) (h:azR m args objs K=some r):FQ 44 args objs K r:=by
 unfold azR at h
 split at h
 ·rename_i l hl
  obtain⟨x,hx,hk⟩:=Option.bind_eq_some_iff.1 h
  obtain⟨h1,h2⟩:=xC hl
  cases m with
  |zero=>cases hx
  |succ m=>exact⟨_,hk,(aDk m (hct m (Nat.lt_succ_self m)) _ hx).conv h1 h2,⟨_,Tryz.func44,rfl,by decide⟩⟩
 cases h
theorem asL m (hct:CtK m) (h:azS m args objs K=some r):FQ 61 args objs K r:=by
 unfold azS at h
 split at h
 ·rename_i l hl
  obtain⟨x,hx,hk⟩:=Option.bind_eq_some_iff.1 h
  obtain⟨h1,h2⟩:=afE hl
  cases m with
  |zero=>cases hx
  |succ m=>exact⟨_,hk,(aDB m (hct m (Nat.lt_succ_self m)) _ _ hx).conv h1 h2,⟨_,Tryz.func61,rfl,by decide⟩⟩
 cases h
theorem asM m (hct:CtK m) (h:azT m args objs K=some r):FQ 63 args objs K r:=by
 unfold azT at h
 split at h
 ·rename_i l hl
  obtain⟨x,hx,hk⟩:=Option.bind_eq_some_iff.1 h
  obtain⟨h1,h2⟩:=afG hl
  cases m with
  |zero=>cases hx
  |succ m=>exact⟨_,hk,(aDq m (hct m (Nat.lt_succ_self m)) _ _ hx).conv h1 h2,⟨_,Tryz.func63,rfl,by decide⟩⟩
 cases h
theorem asN m (hct:CtK m) (h:azU m args objs K=some r):FQ 72 args objs K r:=by
 unfold azU at h
 split at h
 ·rename_i l hl
  obtain⟨x,hx,hk⟩:=Option.bind_eq_some_iff.1 h
  obtain⟨h1,h2⟩:=afI hl
  cases m with
  |zero=>cases hx
  |succ m=>exact⟨_,hk,(aDm m (hct m (Nat.lt_succ_self m)) _ _ hx).conv h1 h2,⟨_,Tryz.func72,rfl,by decide⟩⟩
 cases h
theorem asO m (hct:CtK m) (h:azV m args objs K=some r):FQ 71 args objs K r:=by
 unfold azV at h
 split at h
 ·rename_i l hl
  obtain⟨x,hx,hk⟩:=Option.bind_eq_some_iff.1 h
  obtain⟨h1,h2⟩:=afK hl
  cases m with
  |zero=>cases hx
  |succ m=>exact⟨_,hk,(aDP m (hct m (Nat.lt_succ_self m)) _ _ hx).conv h1 h2,⟨_,Tryz.func71,rfl,by decide⟩⟩
 cases h
theorem asP m (hct:CtK m) (h:azW m args objs K=some r):FQ 68 args objs K r:=by
 unfold azW at h
 split at h
 ·rename_i l hl
  obtain⟨x,hx,hk⟩:=Option.bind_eq_some_iff.1 h
  obtain⟨h1,h2⟩:=afM hl
  cases m with
  |zero=>cases hx
  |succ m=>exact⟨_,hk,(aDC m (hct m (Nat.lt_succ_self m)) _ _ hx).conv h1 h2,⟨_,Tryz.func68,rfl,by decide⟩⟩
 cases h
theorem asQ m (hct:CtK m) (h:azX m args objs K=some r):FQ 69 args objs K r:=by
 unfold azX at h
 split at h
 ·rename_i l hl
  obtain⟨x,hx,hk⟩:=Option.bind_eq_some_iff.1 h
  obtain⟨h1,h2⟩:=afO hl
  cases m with
  |zero=>cases hx
  |succ m=>exact⟨_,hk,(aDD m (hct m (Nat.lt_succ_self m)) _ _ hx).conv h1 h2,⟨_,Tryz.func69,rfl,by decide⟩⟩
 cases h
theorem asR m (hct:CtK m) (h:azY m args objs K=some r):FQ 70 args objs K r:=by
 unfold azY at h
 split at h
 ·rename_i l hl
  obtain⟨x,hx,hk⟩:=Option.bind_eq_some_iff.1 h
  obtain⟨h1,h2⟩:=afQ hl
  cases m with
  |zero=>cases hx
  |succ m=>exact⟨_,hk,(aDE m (hct m (Nat.lt_succ_self m)) _ _ hx).conv h1 h2,⟨_,Tryz.func70,rfl,by decide⟩⟩
 cases h
theorem asS m (hct:CtK m) (h:azZ m args objs K=some r):FQ 64 args objs K r:=by
 unfold azZ at h
 split at h
 ·rename_i l hl
  obtain⟨x,hx,hk⟩:=Option.bind_eq_some_iff.1 h
  obtain⟨h1,h2⟩:=afS hl
  cases m with
  |zero=>cases hx
  |succ m=>exact⟨_,hk,(aDF m (hct m (Nat.lt_succ_self m)) _ _ hx).conv h1 h2,⟨_,Tryz.func64,rfl,by decide⟩⟩
 cases h
theorem asT m (hct:CtK m) (h:az0 m args objs K=some r):FQ 65 args objs K r:=by
 unfold az0 at h
 split at h
 ·rename_i l hl
  obtain⟨x,hx,hk⟩:=Option.bind_eq_some_iff.1 h
  obtain⟨h1,h2⟩:=afU hl
  cases m with
  |zero=>cases hx
  |succ m=>exact⟨_,hk,(aDK m (hct m (Nat.lt_succ_self m)) _ _ hx).conv h1 h2,⟨_,Tryz.func65,rfl,by decide⟩⟩
 cases h
theorem asU m (hct:CtK m) (h:az1 m args objs K=some r):FQ 66 args objs K r:=by
 unfold az1 at h
 split at h
 ·rename_i l hl
  obtain⟨x,hx,hk⟩:=Option.bind_eq_some_iff.1 h
  obtain⟨h1,h2⟩:=L6 hl
  cases m with
  |zero=>cases hx
  |succ m=>exact⟨_,hk,(aDM m (hct m (Nat.lt_succ_self m)) _ _ hx).conv h1 h2,⟨_,Tryz.func66,rfl,by decide⟩⟩
 cases h
theorem asV m (hct:CtK m) (h:az2 m args objs K=some r):FQ 67 args objs K r:=by
 unfold az2 at h
 split at h
 ·rename_i l hl
  obtain⟨x,hx,hk⟩:=Option.bind_eq_some_iff.1 h
  obtain⟨h1,h2⟩:=U1 hl
  cases m with
  |zero=>cases hx
  |succ m=>exact⟨_,hk,(aDr m (hct m (Nat.lt_succ_self m)) _ _ hx).conv h1 h2,⟨_,Tryz.func67,rfl,by decide⟩⟩
 cases h
theorem asW m (hct:CtK m) (h:az3 m args objs K=some r):FQ 73 args objs K r:=by
 unfold az3 at h
 split at h
 ·rename_i l hl
  obtain⟨x,hx,hk⟩:=Option.bind_eq_some_iff.1 h
  obtain⟨h1,h2⟩:=qj hl
  cases m with
  |zero=>cases hx
  |succ m=>exact⟨_,hk,(aDn m (hct m (Nat.lt_succ_self m)) _ _ hx).conv h1 h2,⟨_,Tryz.func73,rfl,by decide⟩⟩
 cases h
theorem asX m (hct:CtK m) (h:az4 m args objs K=some r):FQ 27 args objs K r:=by
 unfold az4 at h
 split at h
 ·rename_i l hl
  obtain⟨x,hx,hk⟩:=Option.bind_eq_some_iff.1 h
  obtain⟨h1,h2⟩:=kG hl
  cases m with
  |zero=>cases hx
  |succ m=>exact⟨_,hk,(aEB m (hct m (Nat.lt_succ_self m)) _ hx).conv h1 h2,⟨_,Tryz.func27,rfl,by decide⟩⟩
 cases h
theorem asY m (hct:CtK m) (h:az5 m args objs K=some r):FQ 80 args objs K r:=by
 unfold az5 at h
 split at h
 ·rename_i l hl
  obtain⟨x,hx,hk⟩:=Option.bind_eq_some_iff.1 h
  obtain⟨h1,h2⟩:=xw hl
  cases m with
  |zero=>cases hx
  |succ m=>exact⟨_,hk,(aEw m (hct m (Nat.lt_succ_self m)) _ hx).conv h1 h2,⟨_,Tryz.func80,rfl,by decide⟩⟩
 cases h
theorem asZ m (hct:CtK m) (h:az6 m args objs K=some r):FQ 81 args objs K r:=by
 unfold az6 at h
 split at h
 ·rename_i l hl
  obtain⟨x,hx,hk⟩:=Option.bind_eq_some_iff.1 h
  obtain⟨h1,h2⟩:=afW hl
  cases m with
  |zero=>cases hx
  |succ m=>exact⟨_,hk,(aEx m (hct m (Nat.lt_succ_self m)) _ hx).conv h1 h2,⟨_,Tryz.func81,rfl,by decide⟩⟩
 cases h
theorem as0 m (hct:CtK m) (h:az7 m args objs K=some r):FQ 82 args objs K r:=by
 unfold az7 at h
 split at h
 ·rename_i l hl
  obtain⟨x,hx,hk⟩:=Option.bind_eq_some_iff.1 h
  obtain⟨h1,h2⟩:=L8 hl
  cases m with
  |zero=>cases hx
  |succ m=>exact⟨_,hk,(aED m (hct m (Nat.lt_succ_self m)) _ hx).conv h1 h2,⟨_,Tryz.func82,rfl,by decide⟩⟩
 cases h
theorem as3 m (hct:CtK m) (h:az8 m args objs K=some r):FQ 83 args objs K r:=by
 unfold az8 at h
 split at h
 ·rename_i l hl
  obtain⟨x,hx,hk⟩:=Option.bind_eq_some_iff.1 h
  obtain⟨h1,h2⟩:=L9 hl
  cases m with
  |zero=>cases hx
  |succ m=>exact⟨_,hk,(aEF m (hct m (Nat.lt_succ_self m)) _ hx).conv h1 h2,⟨_,Tryz.func83,rfl,by decide⟩⟩
 cases h
theorem as4 m (hct:CtK m) (h:az9 m args objs K=some r):FQ 84 args objs K r:=by
 unfold az9 at h
 split at h
 ·rename_i l hl
  obtain⟨x,hx,hk⟩:=Option.bind_eq_some_iff.1 h
  obtain⟨h1,h2⟩:=fB hl
  cases m with
  |zero=>cases hx
  |succ m=>exact⟨_,hk,(aEI m (hct m (Nat.lt_succ_self m)) _ hx).conv h1 h2,⟨_,Tryz.func84,rfl,by decide⟩⟩
 cases h
theorem as5 m (hct:CtK m) (h:aAa m args objs K=some r):FQ 85 args objs K r:=by
 unfold aAa at h
 split at h
 ·rename_i l hl
  obtain⟨x,hx,hk⟩:=Option.bind_eq_some_iff.1 h
  obtain⟨h1,h2⟩:=afY hl
  cases m with
  |zero=>cases hx
  |succ m=>exact⟨_,hk,(aEJ m (hct m (Nat.lt_succ_self m)) _ hx).conv h1 h2,⟨_,Tryz.func85,rfl,by decide⟩⟩
 cases h
theorem as6 m (hct:CtK m) (h:aAb m args objs K=some r):FQ 86 args objs K r:=by
 unfold aAb at h
 split at h
 ·rename_i l hl
  obtain⟨x,hx,hk⟩:=Option.bind_eq_some_iff.1 h
  obtain⟨h1,h2⟩:=fB hl
  cases m with
  |zero=>cases hx
  |succ m=>exact⟨_,hk,(aEy m (hct m (Nat.lt_succ_self m)) _ hx).conv h1 h2,⟨_,Tryz.func86,rfl,by decide⟩⟩
 cases h
theorem as7 m (hct:CtK m) (h:aAc m args objs K=some r):FQ 87 args objs K r:=by
 unfold aAc at h
 split at h
 ·rename_i l hl
  obtain⟨x,hx,hk⟩:=Option.bind_eq_some_iff.1 h
  obtain⟨h1,h2⟩:=fB hl
  cases m with
  |zero=>cases hx
  |succ m=>exact⟨_,hk,(aEb m (hct m (Nat.lt_succ_self m)) _ hx).conv h1 h2,⟨_,Tryz.func87,rfl,by decide⟩⟩
 cases h
theorem as8 m (hct:CtK m) (h:aAd m args objs K=some r):FQ 88 args objs K r:=by
 unfold aAd at h
 split at h
 ·rename_i l hl
  obtain⟨x,hx,hk⟩:=Option.bind_eq_some_iff.1 h
  obtain⟨h1,h2⟩:=Ma hl
  cases m with
  |zero=>cases hx
  |succ m=>exact⟨_,hk,(aDV m (hct m (Nat.lt_succ_self m)) _ hx).conv h1 h2,⟨_,Tryz.func88,rfl,by decide⟩⟩
 cases h
theorem as9 m (hct:CtK m) (h:aAe m args objs K=some r):FQ 89 args objs K r:=by
 unfold aAe at h
 split at h
 ·rename_i l hl
  obtain⟨x,hx,hk⟩:=Option.bind_eq_some_iff.1 h
  obtain⟨h1,h2⟩:=fB hl
  cases m with
  |zero=>cases hx
  |succ m=>exact⟨_,hk,(aEz m (hct m (Nat.lt_succ_self m)) _ hx).conv h1 h2,⟨_,Tryz.func89,rfl,by decide⟩⟩
 cases h
theorem ata m (hct:CtK m) (h:aAf m args objs K=some r):FQ 74 args objs K r:=by
 unfold aAf at h
 split at h
 ·rename_i l hl
  obtain⟨x,hx,hk⟩:=Option.bind_eq_some_iff.1 h
  obtain⟨h1,h2⟩:=af0 hl
  cases m with
  |zero=>cases hx
  |succ m=>exact⟨_,hk,(aDs m (hct m (Nat.lt_succ_self m)) _ _ hx).conv h1 h2,⟨_,Tryz.func74,rfl,by decide⟩⟩
 cases h
theorem atb m (hct:CtK m) (h:aAg m args objs K=some r):FQ 75 args objs K r:=by
 unfold aAg at h
 split at h
 ·rename_i l hl
  obtain⟨x,hx,hk⟩:=Option.bind_eq_some_iff.1 h
  obtain⟨h1,h2⟩:=kH hl
  cases m with
  |zero=>cases hx
  |succ m=>exact⟨_,hk,(aDG m (hct m (Nat.lt_succ_self m)) _ hx).conv h1 h2,⟨_,Tryz.func75,rfl,by decide⟩⟩
 cases h
theorem atc m (hct:CtK m) (h:aAh m args objs K=some r):FQ 79 args objs K r:=by
 unfold aAh at h
 split at h
 ·rename_i l hl
  obtain⟨x,hx,hk⟩:=Option.bind_eq_some_iff.1 h
  obtain⟨h1,h2⟩:=Ma hl
  cases m with
  |zero=>cases hx
  |succ m=>exact⟨_,hk,(aDt m (hct m (Nat.lt_succ_self m)) _ hx).conv h1 h2,⟨_,Tryz.func79,rfl,by decide⟩⟩
 cases h
theorem atd m (hct:CtK m) (h:aAi m args objs K=some r):FQ 76 args objs K r:=by
 unfold aAi at h
 split at h
 ·rename_i l hl
  obtain⟨x,hx,hk⟩:=Option.bind_eq_some_iff.1 h
  obtain⟨h1,h2⟩:=L8 hl
  cases m with
  |zero=>cases hx
  |succ m=>exact⟨_,hk,(aDH m (hct m (Nat.lt_succ_self m)) _ hx).conv h1 h2,⟨_,Tryz.func76,rfl,by decide⟩⟩
 cases h
theorem ate m (hct:CtK m) (h:aAj m args objs K=some r):FQ 77 args objs K r:=by
 unfold aAj at h
 split at h
 ·rename_i l hl
  obtain⟨x,hx,hk⟩:=Option.bind_eq_some_iff.1 h
  obtain⟨h1,h2⟩:=L9 hl
  cases m with
  |zero=>cases hx
  |succ m=>exact⟨_,hk,(aDI m (hct m (Nat.lt_succ_self m)) _ hx).conv h1 h2,⟨_,Tryz.func77,rfl,by decide⟩⟩
 cases h
theorem atf m (hct:CtK m) (h:aAk m args objs K=some r):FQ 78 args objs K r:=by
 unfold aAk at h
 split at h
 ·rename_i l hl
  obtain⟨x,hx,hk⟩:=Option.bind_eq_some_iff.1 h
  obtain⟨h1,h2⟩:=af3 hl
  cases m with
  |zero=>cases hx
  |succ m=>exact⟨_,hk,(aDu m (hct m (Nat.lt_succ_self m)) _ hx).conv h1 h2,⟨_,Tryz.func78,rfl,by decide⟩⟩
 cases h
theorem atg m (hct:CtK m) (h:aAl m args objs K=some r):FQ 46 args objs K r:=by
 unfold aAl at h
 split at h
 ·rename_i l hl
  obtain⟨x,hx,hk⟩:=Option.bind_eq_some_iff.1 h
  obtain⟨h1,h2⟩:=af5 hl
  cases m with
  |zero=>cases hx
  |succ m=>exact⟨_,hk,(aAQ m (hct m (Nat.lt_succ_self m)) _ hx).conv h1 h2,⟨_,Tryz.func46,rfl,by decide⟩⟩
 cases h
theorem ath m (hct:CtK m) (h:aAm m args objs K=some r):FQ 48 args objs K r:=by
 unfold aAm at h
 split at h
 ·rename_i l hl
  obtain⟨x,hx,hk⟩:=Option.bind_eq_some_iff.1 h
  obtain⟨h1,h2⟩:=af7 hl
  cases m with
  |zero=>cases hx
  |succ m=>exact⟨_,hk,(aAR m (hct m (Nat.lt_succ_self m)) _ hx).conv h1 h2,⟨_,Tryz.func48,rfl,by decide⟩⟩
 cases h
theorem ati m (hct:CtK m) (h:aAn m args objs K=some r):FQ 49 args objs K r:=by
 unfold aAn at h
 split at h
 ·rename_i l hl
  obtain⟨x,hx,hk⟩:=Option.bind_eq_some_iff.1 h
  obtain⟨h1,h2⟩:=af9 hl
  cases m with
  |zero=>cases hx
  |succ m=>exact⟨_,hk,(aDv m (hct m (Nat.lt_succ_self m)) _ hx).conv h1 h2,⟨_,Tryz.func49,rfl,by decide⟩⟩
 cases h
theorem akq m (hct:CtK m) (h:agt m args objs K=some r):FQ 100 args objs K r:=by
 unfold agt at h
 split at h
 ·rename_i l hl
  obtain⟨x,hx,hk⟩:=Option.bind_eq_some_iff.1 h
  obtain⟨h1,h2⟩:=agb hl
  cases m with
  |zero=>cases hx
  |succ m=>exact⟨_,hk,(aAL m (hct m (Nat.lt_succ_self m)) _ hx).conv h1 h2,⟨_,Tryz.func100,rfl,by decide⟩⟩
 cases h
theorem atj m (hct:CtK m) (h:aAo m args objs K=some r):FQ 98 args objs K r:=by
 unfold aAo at h
 split at h
 ·rename_i l hl
  obtain⟨x,hx,hk⟩:=Option.bind_eq_some_iff.1 h
  obtain⟨h1,h2⟩:=agd hl
  cases m with
  |zero=>cases hx
  |succ m=>exact⟨_,hk,(aAK m (hct m (Nat.lt_succ_self m)) _ hx).conv h1 h2,⟨_,Tryz.func98,rfl,by decide⟩⟩
 cases h
theorem atl m (hct:CtK m) (h:aAp m args objs K=some r):FQ 99 args objs K r:=by
 unfold aAp at h
 split at h
 ·rename_i l hl
  obtain⟨x,hx,hk⟩:=Option.bind_eq_some_iff.1 h
  obtain⟨h1,h2⟩:=agh hl
  cases m with
  |zero=>cases hx
  |succ m=>exact⟨_,hk,(aDf m (hct m (Nat.lt_succ_self m)) _ hx).conv h1 h2,⟨_,Tryz.func99,rfl,by decide⟩⟩
 cases h
theorem atm m (hct:CtK m) (h:aAq m args objs K=some r):FQ 60 args objs K r:=by
 unfold aAq at h
 split at h
 ·rename_i l hl
  obtain⟨x,hx,hk⟩:=Option.bind_eq_some_iff.1 h
  obtain⟨h1,h2⟩:=Mc hl
  cases m with
  |zero=>cases hx
  |succ m=>exact⟨_,hk,(aDA m (hct m (Nat.lt_succ_self m)) _ _ hx).conv h1 h2,⟨_,Tryz.func60,rfl,by decide⟩⟩
 cases h
theorem akr m (hct:CtK m) (h:agu m args objs K=some r):FQ 112 args objs K r:=by
 unfold agu at h
 split at h
 ·rename_i l hl
  obtain⟨x,hx,hk⟩:=Option.bind_eq_some_iff.1 h
  obtain⟨h1,h2⟩:=L6 hl
  cases m with
  |zero=>cases hx
  |succ m=>exact⟨_,hk,(aDJ m (hct m (Nat.lt_succ_self m)) _ _ hx).conv h1 h2,⟨_,Tryz.func112,rfl,by decide⟩⟩
 cases h
theorem atn m (hct:CtK m) (h:aAr m args objs K=some r):FQ 58 args objs K r:=by
 unfold aAr at h
 split at h
 ·rename_i l hl
  obtain⟨x,hx,hk⟩:=Option.bind_eq_some_iff.1 h
  obtain⟨h1,h2⟩:=agj hl
  cases m with
  |zero=>cases hx
  |succ m=>exact⟨_,hk,(aDQ m (hct m (Nat.lt_succ_self m)) _ _ _ hx).conv h1 h2,⟨_,Tryz.func58,rfl,by decide⟩⟩
 cases h
theorem ato m (hct:CtK m) (h:aAs m args objs K=some r):FQ 59 args objs K r:=by
 unfold aAs at h
 split at h
 ·rename_i l hl
  obtain⟨x,hx,hk⟩:=Option.bind_eq_some_iff.1 h
  obtain⟨h1,h2⟩:=agl hl
  cases m with
  |zero=>cases hx
  |succ m=>exact⟨_,hk,(aEA m (hct m (Nat.lt_succ_self m)) _ _ hx).conv h1 h2,⟨_,Tryz.func59,rfl,by decide⟩⟩
 cases h
theorem aks m (hct:CtK m) (h:agv m args objs K=some r):FQ 113 args objs K r:=by
 unfold agv at h
 split at h
 ·rename_i l hl
  obtain⟨x,hx,hk⟩:=Option.bind_eq_some_iff.1 h
  obtain⟨h1,h2⟩:=xw hl
  cases m with
  |zero=>cases hx
  |succ m=>exact⟨_,hk,(aDR m (hct m (Nat.lt_succ_self m)) _ hx).conv h1 h2,⟨_,Tryz.func113,rfl,by decide⟩⟩
 cases h
theorem akt m (hct:CtK m) (h:agw m args objs K=some r):FQ 105 args objs K r:=by
 unfold agw at h
 split at h
 ·rename_i l hl
  obtain⟨x,hx,hk⟩:=Option.bind_eq_some_iff.1 h
  obtain⟨h1,h2⟩:=xA hl
  cases m with
  |zero=>cases hx
  |succ m=>exact⟨_,hk,(aDU m (hct m (Nat.lt_succ_self m)) _ hx).conv h1 h2,⟨_,Tryz.func105,rfl,by decide⟩⟩
 cases h
theorem aku m (hct:CtK m) (h:agx m args objs K=some r):FQ 114 args objs K r:=by
 unfold agx at h
 split at h
 ·rename_i l hl
  obtain⟨x,hx,hk⟩:=Option.bind_eq_some_iff.1 h
  obtain⟨h1,h2⟩:=qj hl
  cases m with
  |zero=>cases hx
  |succ m=>exact⟨_,hk,(aDS m (hct m (Nat.lt_succ_self m)) _ _ hx).conv h1 h2,⟨_,Tryz.func114,rfl,by decide⟩⟩
 cases h
theorem akv m (hct:CtK m) (h:agy m args objs K=some r):FQ 111 args objs K r:=by
 unfold agy at h
 split at h
 ·rename_i l hl
  obtain⟨x,hx,hk⟩:=Option.bind_eq_some_iff.1 h
  obtain⟨h1,h2⟩:=kH hl
  cases m with
  |zero=>cases hx
  |succ m=>exact⟨_,hk,(aEv m (hct m (Nat.lt_succ_self m)) _ hx).conv h1 h2,⟨_,Tryz.func111,rfl,by decide⟩⟩
 cases h
theorem akw m (hct:CtK m) (h:agz m args objs K=some r):FQ 115 args objs K r:=by
 unfold agz at h
 split at h
 ·rename_i l hl
  obtain⟨x,hx,hk⟩:=Option.bind_eq_some_iff.1 h
  obtain⟨h1,h2⟩:=ql hl
  cases m with
  |zero=>cases hx
  |succ m=>exact⟨_,hk,(aDW m (hct m (Nat.lt_succ_self m)) _ hx).conv h1 h2,⟨_,Tryz.func115,rfl,by decide⟩⟩
 cases h
theorem akx m (hct:CtK m) (h:agA m args objs K=some r):FQ 116 args objs K r:=by
 unfold agA at h
 split at h
 ·rename_i l hl
  obtain⟨x,hx,hk⟩:=Option.bind_eq_some_iff.1 h
  obtain⟨h1,h2⟩:=LX hl
  cases m with
  |zero=>cases hx
  |succ m=>exact⟨_,hk,(aEC m (hct m (Nat.lt_succ_self m)) _ hx).conv h1 h2,⟨_,Tryz.func116,rfl,by decide⟩⟩
 cases h
theorem aky m (hct:CtK m) (h:agB m args objs K=some r):FQ 117 args objs K r:=by
 unfold agB at h
 split at h
 ·rename_i l hl
  obtain⟨x,hx,hk⟩:=Option.bind_eq_some_iff.1 h
  obtain⟨h1,h2⟩:=agn hl
  cases m with
  |zero=>cases hx
  |succ m=>exact⟨_,hk,(aD4 m (hct m (Nat.lt_succ_self m)) _ hx).conv h1 h2,⟨_,Tryz.func117,rfl,by decide⟩⟩
 cases h
theorem akz m (hct:CtK m) (h:agC m args objs K=some r):FQ 118 args objs K r:=by
 unfold agC at h
 split at h
 ·rename_i l hl
  obtain⟨x,hx,hk⟩:=Option.bind_eq_some_iff.1 h
  obtain⟨h1,h2⟩:=LY hl
  cases m with
  |zero=>cases hx
  |succ m=>exact⟨_,hk,(aEE m (hct m (Nat.lt_succ_self m)) _ hx).conv h1 h2,⟨_,Tryz.func118,rfl,by decide⟩⟩
 cases h
theorem akA m (hct:CtK m) (h:agD m args objs K=some r):FQ 119 args objs K r:=by
 unfold agD at h
 split at h
 ·rename_i l hl
  obtain⟨x,hx,hk⟩:=Option.bind_eq_some_iff.1 h
  obtain⟨h1,h2⟩:=ql hl
  cases m with
  |zero=>cases hx
  |succ m=>exact⟨_,hk,(aDT m (hct m (Nat.lt_succ_self m)) _ hx).conv h1 h2,⟨_,Tryz.func119,rfl,by decide⟩⟩
 cases h
theorem akB m (hct:CtK m) (h:agE m args objs K=some r):FQ 107 args objs K r:=by
 unfold agE at h
 split at h
 ·rename_i l hl
  obtain⟨x,hx,hk⟩:=Option.bind_eq_some_iff.1 h
  obtain⟨h1,h2⟩:=jg hl
  cases m with
  |zero=>cases hx
  |succ m=>exact⟨_,hk,(aEs m (hct m (Nat.lt_succ_self m)) _ hx).conv h1 h2,⟨_,Tryz.func107,rfl,by decide⟩⟩
 cases h
theorem akC m (hct:CtK m) (h:agF m args objs K=some r):FQ 120 args objs K r:=by
 unfold agF at h
 split at h
 ·rename_i l hl
  obtain⟨x,hx,hk⟩:=Option.bind_eq_some_iff.1 h
  obtain⟨h1,h2⟩:=Mc hl
  cases m with
  |zero=>cases hx
  |succ m=>exact⟨_,hk,(aD7 m (hct m (Nat.lt_succ_self m)) _ _ hx).conv h1 h2,⟨_,Tryz.func120,rfl,by decide⟩⟩
 cases h
theorem akD m (hct:CtK m) (h:agG m args objs K=some r):FQ 109 args objs K r:=by
 unfold agG at h
 split at h
 ·rename_i l hl
  obtain⟨x,hx,hk⟩:=Option.bind_eq_some_iff.1 h
  obtain⟨h1,h2⟩:=xC hl
  cases m with
  |zero=>cases hx
  |succ m=>exact⟨_,hk,(aEa m (hct m (Nat.lt_succ_self m)) _ hx).conv h1 h2,⟨_,Tryz.func109,rfl,by decide⟩⟩
 cases h
theorem akE m (hct:CtK m) (h:agH m args objs K=some r):FQ 104 args objs K r:=by
 unfold agH at h
 split at h
 ·rename_i l hl
  obtain⟨x,hx,hk⟩:=Option.bind_eq_some_iff.1 h
  obtain⟨h1,h2⟩:=jw hl
  cases m with
  |zero=>cases hx
  |succ m=>exact⟨_,hk,(aDX m (hct m (Nat.lt_succ_self m)) _ hx).conv h1 h2,⟨_,Tryz.func104,rfl,by decide⟩⟩
 cases h
theorem akF m (hct:CtK m) (h:agI m args objs K=some r):FQ 106 args objs K r:=by
 unfold agI at h
 split at h
 ·rename_i l hl
  obtain⟨x,hx,hk⟩:=Option.bind_eq_some_iff.1 h
  obtain⟨h1,h2⟩:=jw hl
  cases m with
  |zero=>cases hx
  |succ m=>exact⟨_,hk,(aD0 m (hct m (Nat.lt_succ_self m)) _ hx).conv h1 h2,⟨_,Tryz.func106,rfl,by decide⟩⟩
 cases h
theorem akG m (hct:CtK m) (h:agJ m args objs K=some r):FQ 102 args objs K r:=by
 unfold agJ at h
 split at h
 ·rename_i l hl
  obtain⟨x,hx,hk⟩:=Option.bind_eq_some_iff.1 h
  obtain⟨h1,h2⟩:=jw hl
  cases m with
  |zero=>cases hx
  |succ m=>exact⟨_,hk,(aDY m (hct m (Nat.lt_succ_self m)) _ hx).conv h1 h2,⟨_,Tryz.func102,rfl,by decide⟩⟩
 cases h
theorem akH m (hct:CtK m) (h:agK m args objs K=some r):FQ 110 args objs K r:=by
 unfold agK at h
 split at h
 ·rename_i l hl
  obtain⟨x,hx,hk⟩:=Option.bind_eq_some_iff.1 h
  obtain⟨h1,h2⟩:=kG hl
  cases m with
  |zero=>cases hx
  |succ m=>exact⟨_,hk,(aEf m (hct m (Nat.lt_succ_self m)) _ hx).conv h1 h2,⟨_,Tryz.func110,rfl,by decide⟩⟩
 cases h
theorem akI m (hct:CtK m) (h:agL m args objs K=some r):FQ 108 args objs K r:=by
 unfold agL at h
 split at h
 ·rename_i l hl
  obtain⟨x,hx,hk⟩:=Option.bind_eq_some_iff.1 h
  obtain⟨h1,h2⟩:=jw hl
  cases m with
  |zero=>cases hx
  |succ m=>exact⟨_,hk,(aDZ m (hct m (Nat.lt_succ_self m)) _ hx).conv h1 h2,⟨_,Tryz.func108,rfl,by decide⟩⟩
 cases h
theorem akJ m (hct:CtK m) (h:agM m args objs K=some r):FQ 101 args objs K r:=by
 unfold agM at h
 split at h
 ·rename_i l hl
  obtain⟨x,hx,hk⟩:=Option.bind_eq_some_iff.1 h
  obtain⟨h1,h2⟩:=kG hl
  cases m with
  |zero=>cases hx
  |succ m=>exact⟨_,hk,(aD1 m (hct m (Nat.lt_succ_self m)) _ hx).conv h1 h2,⟨_,Tryz.func101,rfl,by decide⟩⟩
 cases h
theorem akK m (hct:CtK m) (h:agN m args objs K=some r):FQ 103 args objs K r:=by
 unfold agN at h
 split at h
 ·rename_i l hl
  obtain⟨x,hx,hk⟩:=Option.bind_eq_some_iff.1 h
  obtain⟨h1,h2⟩:=kG hl
  cases m with
  |zero=>cases hx
  |succ m=>exact⟨_,hk,(aD2 m (hct m (Nat.lt_succ_self m)) _ hx).conv h1 h2,⟨_,Tryz.func103,rfl,by decide⟩⟩
 cases h
theorem akL m (hct:CtK m) (h:agO m args objs K=some r):FQ 147 args objs K r:=by
 unfold agO at h
 split at h
 ·rename_i l hl
  obtain⟨x,hx,hk⟩:=Option.bind_eq_some_iff.1 h
  obtain⟨h1,h2⟩:=agq hl
  cases m with
  |zero=>cases hx
  |succ m=>exact⟨_,hk,(aEu m (hct m (Nat.lt_succ_self m)) _ _ _ hx).conv h1 h2,⟨_,Tryz.func147,rfl,by decide⟩⟩
 cases h
theorem akM m (hct:CtK m) (h:agP m args objs K=some r):FQ 148 args objs K r:=by
 unfold agP at h
 split at h
 ·rename_i l hl
  obtain⟨x,hx,hk⟩:=Option.bind_eq_some_iff.1 h
  obtain⟨h1,h2⟩:=qj hl
  cases m with
  |zero=>cases hx
  |succ m=>exact⟨_,hk,(aD3 m (hct m (Nat.lt_succ_self m)) _ _ hx).conv h1 h2,⟨_,Tryz.func148,rfl,by decide⟩⟩
 cases h
theorem akN m (hct:CtK m) (h:agQ m args objs K=some r):FQ 139 args objs K r:=by
 unfold agQ at h
 split at h
 ·rename_i l hl
  obtain⟨x,hx,hk⟩:=Option.bind_eq_some_iff.1 h
  obtain⟨h1,h2⟩:=jg hl
  cases m with
  |zero=>cases hx
  |succ m=>exact⟨_,hk,(aEk m (hct m (Nat.lt_succ_self m)) _ hx).conv h1 h2,⟨_,Tryz.func139,rfl,by decide⟩⟩
 cases h
theorem akO m (hct:CtK m) (h:agR m args objs K=some r):FQ 140 args objs K r:=by
 unfold agR at h
 split at h
 ·rename_i l hl
  obtain⟨x,hx,hk⟩:=Option.bind_eq_some_iff.1 h
  obtain⟨h1,h2⟩:=jg hl
  cases m with
  |zero=>cases hx
  |succ m=>exact⟨_,hk,(aEm m (hct m (Nat.lt_succ_self m)) _ hx).conv h1 h2,⟨_,Tryz.func140,rfl,by decide⟩⟩
 cases h
theorem akP m (hct:CtK m) (h:agS m args objs K=some r):FQ 141 args objs K r:=by
 unfold agS at h
 split at h
 ·rename_i l hl
  obtain⟨x,hx,hk⟩:=Option.bind_eq_some_iff.1 h
  obtain⟨h1,h2⟩:=Md hl
  cases m with
  |zero=>cases hx
  |succ m=>exact⟨_,hk,(aEq m (hct m (Nat.lt_succ_self m)) _ _ hx).conv h1 h2,⟨_,Tryz.func141,rfl,by decide⟩⟩
 cases h
theorem akQ m (hct:CtK m) (h:agT m args objs K=some r):FQ 149 args objs K r:=by
 unfold agT at h
 split at h
 ·rename_i l hl
  obtain⟨x,hx,hk⟩:=Option.bind_eq_some_iff.1 h
  obtain⟨h1,h2⟩:=ags hl
  cases m with
  |zero=>cases hx
  |succ m=>exact⟨_,hk,(aD5 m (hct m (Nat.lt_succ_self m)) _ _ hx).conv h1 h2,⟨_,Tryz.func149,rfl,by decide⟩⟩
 cases h
theorem akR m (hct:CtK m) (h:agU m args objs K=some r):FQ 150 args objs K r:=by
 unfold agU at h
 split at h
 ·rename_i l hl
  obtain⟨x,hx,hk⟩:=Option.bind_eq_some_iff.1 h
  obtain⟨h1,h2⟩:=YW hl
  cases m with
  |zero=>cases hx
  |succ m=>exact⟨_,hk,(aD6 m (hct m (Nat.lt_succ_self m)) _ _ hx).conv h1 h2,⟨_,Tryz.func150,rfl,by decide⟩⟩
 cases h
theorem akS m (hct:CtK m) (h:agV m args objs K=some r):FQ 142 args objs K r:=by
 unfold agV at h
 split at h
 ·rename_i l hl
  obtain⟨x,hx,hk⟩:=Option.bind_eq_some_iff.1 h
  obtain⟨h1,h2⟩:=YX hl
  cases m with
  |zero=>cases hx
  |succ m=>exact⟨_,hk,(aD9 m (hct m (Nat.lt_succ_self m)) _ hx).conv h1 h2,⟨_,Tryz.func142,rfl,by decide⟩⟩
 cases h
theorem akT m (hct:CtK m) (h:agW m args objs K=some r):FQ 143 args objs K r:=by
 unfold agW at h
 split at h
 ·rename_i l hl
  obtain⟨x,hx,hk⟩:=Option.bind_eq_some_iff.1 h
  obtain⟨h1,h2⟩:=jw hl
  cases m with
  |zero=>cases hx
  |succ m=>exact⟨_,hk,(aD8 m (hct m (Nat.lt_succ_self m)) _ hx).conv h1 h2,⟨_,Tryz.func143,rfl,by decide⟩⟩
 cases h
theorem akU m (hct:CtK m) (h:agX m args objs K=some r):FQ 146 args objs K r:=by
 unfold agX at h
 split at h
 ·rename_i l hl
  obtain⟨x,hx,hk⟩:=Option.bind_eq_some_iff.1 h
  obtain⟨h1,h2⟩:=kH hl
  cases m with
  |zero=>cases hx
  |succ m=>exact⟨_,hk,(aEe m (hct m (Nat.lt_succ_self m)) _ hx).conv h1 h2,⟨_,Tryz.func146,rfl,by decide⟩⟩
 cases h
theorem akV m (hct:CtK m) (h:agY m args objs K=some r):FQ 145 args objs K r:=by
 unfold agY at h
 split at h
 ·rename_i l hl
  obtain⟨x,hx,hk⟩:=Option.bind_eq_some_iff.1 h
  obtain⟨h1,h2⟩:=xC hl
  cases m with
  |zero=>cases hx
  |succ m=>exact⟨_,hk,(aEc m (hct m (Nat.lt_succ_self m)) _ hx).conv h1 h2,⟨_,Tryz.func145,rfl,by decide⟩⟩
 cases h
theorem akW m (hct:CtK m) (h:agZ m args objs K=some r):FQ 144 args objs K r:=by
 unfold agZ at h
 split at h
 ·rename_i l hl
  obtain⟨x,hx,hk⟩:=Option.bind_eq_some_iff.1 h
  obtain⟨h1,h2⟩:=jg hl
  cases m with
  |zero=>cases hx
  |succ m=>exact⟨_,hk,(aEd m (hct m (Nat.lt_succ_self m)) _ hx).conv h1 h2,⟨_,Tryz.func144,rfl,by decide⟩⟩
 cases h
theorem akX m (hct:CtK m) (h:ag0 m args objs K=some r):FQ 188 args objs K r:=by
 unfold ag0 at h
 split at h
 ·rename_i l hl
  obtain⟨x,hx,hk⟩:=Option.bind_eq_some_iff.1 h
  obtain⟨h1,h2⟩:=kH hl
  cases m with
  |zero=>cases hx
  |succ m=>exact⟨_,hk,(aEt m (hct m (Nat.lt_succ_self m)) _ hx).conv h1 h2,⟨_,Tryz.func188,rfl,by decide⟩⟩
 cases h
theorem akY m (hct:CtK m) (h:ag1 m args objs K=some r):FQ 184 args objs K r:=by
 unfold ag1 at h
 split at h
 ·rename_i l hl
  obtain⟨x,hx,hk⟩:=Option.bind_eq_some_iff.1 h
  obtain⟨h1,h2⟩:=E9 hl
  cases m with
  |zero=>cases hx
  |succ m=>exact⟨_,hk,(aEj m (hct m (Nat.lt_succ_self m)) _ _ hx).conv h1 h2,⟨_,Tryz.func184,rfl,by decide⟩⟩
 cases h
theorem akZ m (hct:CtK m) (h:ag2 m args objs K=some r):FQ 185 args objs K r:=by
 unfold ag2 at h
 split at h
 ·rename_i l hl
  obtain⟨x,hx,hk⟩:=Option.bind_eq_some_iff.1 h
  obtain⟨h1,h2⟩:=E9 hl
  cases m with
  |zero=>cases hx
  |succ m=>exact⟨_,hk,(aEl m (hct m (Nat.lt_succ_self m)) _ _ hx).conv h1 h2,⟨_,Tryz.func185,rfl,by decide⟩⟩
 cases h
theorem ak0 m (hct:CtK m) (h:ag3 m args objs K=some r):FQ 186 args objs K r:=by
 unfold ag3 at h
 split at h
 ·rename_i l hl
  obtain⟨x,hx,hk⟩:=Option.bind_eq_some_iff.1 h
  obtain⟨h1,h2⟩:=ql hl
  cases m with
  |zero=>cases hx
  |succ m=>exact⟨_,hk,(aEo m (hct m (Nat.lt_succ_self m)) _ hx).conv h1 h2,⟨_,Tryz.func186,rfl,by decide⟩⟩
 cases h
theorem ak1 m (hct:CtK m) (h:ag4 m args objs K=some r):FQ 187 args objs K r:=by
 unfold ag4 at h
 split at h
 ·rename_i l hl
  obtain⟨x,hx,hk⟩:=Option.bind_eq_some_iff.1 h
  obtain⟨h1,h2⟩:=Md hl
  cases m with
  |zero=>cases hx
  |succ m=>exact⟨_,hk,(aEr m (hct m (Nat.lt_succ_self m)) _ _ hx).conv h1 h2,⟨_,Tryz.func187,rfl,by decide⟩⟩
 cases h
theorem ak2 m (hct:CtK m) (h:ag5 m args objs K=some r):FQ 219 args objs K r:=by
 unfold ag5 at h
 split at h
 ·rename_i l hl
  obtain⟨x,hx,hk⟩:=Option.bind_eq_some_iff.1 h
  obtain⟨h1,h2⟩:=xA hl
  cases m with
  |zero=>cases hx
  |succ m=>exact⟨_,hk,(aEg m (hct m (Nat.lt_succ_self m)) _ hx).conv h1 h2,⟨_,Tryz.func219,rfl,by decide⟩⟩
 cases h
theorem ak3 m (hct:CtK m) (h:ag6 m args objs K=some r):FQ 218 args objs K r:=by
 unfold ag6 at h
 split at h
 ·rename_i l hl
  obtain⟨x,hx,hk⟩:=Option.bind_eq_some_iff.1 h
  obtain⟨h1,h2⟩:=jw hl
  cases m with
  |zero=>cases hx
  |succ m=>exact⟨_,hk,(aEh m (hct m (Nat.lt_succ_self m)) _ hx).conv h1 h2,⟨_,Tryz.func218,rfl,by decide⟩⟩
 cases h
theorem ak4 m (hct:CtK m) (h:ag7 m args objs K=some r):FQ 215 args objs K r:=by
 unfold ag7 at h
 split at h
 ·rename_i l hl
  obtain⟨x,hx,hk⟩:=Option.bind_eq_some_iff.1 h
  obtain⟨h1,h2⟩:=jg hl
  cases m with
  |zero=>cases hx
  |succ m=>exact⟨_,hk,(aEi m (hct m (Nat.lt_succ_self m)) _ hx).conv h1 h2,⟨_,Tryz.func215,rfl,by decide⟩⟩
 cases h
theorem ak5 m (hct:CtK m) (h:ag8 m args objs K=some r):FQ 216 args objs K r:=by
 unfold ag8 at h
 split at h
 ·rename_i l hl
  obtain⟨x,hx,hk⟩:=Option.bind_eq_some_iff.1 h
  obtain⟨h1,h2⟩:=YZ hl
  cases m with
  |zero=>cases hx
  |succ m=>exact⟨_,hk,(aEn m (hct m (Nat.lt_succ_self m)) _ _ _ hx).conv h1 h2,⟨_,Tryz.func216,rfl,by decide⟩⟩
 cases h
theorem ak6 m (hct:CtK m) (h:ag9 m args objs K=some r):FQ 217 args objs K r:=by
 unfold ag9 at h
 split at h
 ·rename_i l hl
  obtain⟨x,hx,hk⟩:=Option.bind_eq_some_iff.1 h
  obtain⟨h1,h2⟩:=ql hl
  cases m with
  |zero=>cases hx
  |succ m=>exact⟨_,hk,(aEp m (hct m (Nat.lt_succ_self m)) _ hx).conv h1 h2,⟨_,Tryz.func217,rfl,by decide⟩⟩
 cases h
end
set_option maxHeartbeats 4000000 in
theorem aEL:∀(m:Nat) (R:Type),CallOK (R:=R) Tryz.prog (ct m):=by
 intro m
 induction m using Nat.strongRecOn with
 |_ m ih=>
  intro R f args objs K r h
  unfold ct at h
  rcases ak h with⟨hb,h1⟩| ⟨_,h⟩
  ·cases beq_eq hb;exact aAU m ih h1
  rcases ak h with⟨hb,h1⟩| ⟨_,h⟩
  ·cases beq_eq hb;exact aAV m ih h1
  rcases ak h with⟨hb,h1⟩| ⟨_,h⟩
  ·cases beq_eq hb;exact aAW m ih h1
  rcases ak h with⟨hb,h1⟩| ⟨_,h⟩
  ·cases beq_eq hb;exact ar8 m ih h1
  rcases ak h with⟨hb,h1⟩| ⟨_,h⟩
  ·cases beq_eq hb;exact ar9 m ih h1
  rcases ak h with⟨hb,h1⟩| ⟨_,h⟩
  ·cases beq_eq hb;exact asa m ih h1
  rcases ak h with⟨hb,h1⟩| ⟨_,h⟩
  ·cases beq_eq hb;exact asb m ih h1
  rcases ak h with⟨hb,h1⟩| ⟨_,h⟩
  ·cases beq_eq hb;exact asc m ih h1
  rcases ak h with⟨hb,h1⟩| ⟨_,h⟩
  ·cases beq_eq hb;exact ase m ih h1
  rcases ak h with⟨hb,h1⟩| ⟨_,h⟩
  ·cases beq_eq hb;exact asf m ih h1
  rcases ak h with⟨hb,h1⟩| ⟨_,h⟩
  ·cases beq_eq hb;exact asg m ih h1
  rcases ak h with⟨hb,h1⟩| ⟨_,h⟩
  ·cases beq_eq hb;exact ash m ih h1
  rcases ak h with⟨hb,h1⟩| ⟨_,h⟩
  ·cases beq_eq hb;exact asi m ih h1
  rcases ak h with⟨hb,h1⟩| ⟨_,h⟩
  ·cases beq_eq hb;exact asj m ih h1
  rcases ak h with⟨hb,h1⟩| ⟨_,h⟩
  ·cases beq_eq hb;exact asl m ih h1
  rcases ak h with⟨hb,h1⟩| ⟨_,h⟩
  ·cases beq_eq hb;exact asn m ih h1
  rcases ak h with⟨hb,h1⟩| ⟨_,h⟩
  ·cases beq_eq hb;exact aso m ih h1
  rcases ak h with⟨hb,h1⟩| ⟨_,h⟩
  ·cases beq_eq hb;exact asq m ih h1
  rcases ak h with⟨hb,h1⟩| ⟨_,h⟩
  ·cases beq_eq hb;exact asr m ih h1
  rcases ak h with⟨hb,h1⟩| ⟨_,h⟩
  ·cases beq_eq hb;exact asu m ih h1
  rcases ak h with⟨hb,h1⟩| ⟨_,h⟩
  ·cases beq_eq hb;exact asv m ih h1
  rcases ak h with⟨hb,h1⟩| ⟨_,h⟩
  ·cases beq_eq hb;exact asw m ih h1
  rcases ak h with⟨hb,h1⟩| ⟨_,h⟩
  ·cases beq_eq hb;exact asx m ih h1
  rcases ak h with⟨hb,h1⟩| ⟨_,h⟩
  ·cases beq_eq hb;exact asy m ih h1
  rcases ak h with⟨hb,h1⟩| ⟨_,h⟩
  ·cases beq_eq hb;exact asz m ih h1
  rcases ak h with⟨hb,h1⟩| ⟨_,h⟩
  ·cases beq_eq hb;exact asA m ih h1
  rcases ak h with⟨hb,h1⟩| ⟨_,h⟩
  ·cases beq_eq hb;exact asB m ih h1
  rcases ak h with⟨hb,h1⟩| ⟨_,h⟩
  ·cases beq_eq hb;exact asC m ih h1
  rcases ak h with⟨hb,h1⟩| ⟨_,h⟩
  ·cases beq_eq hb;exact asD m ih h1
  rcases ak h with⟨hb,h1⟩| ⟨_,h⟩
  ·cases beq_eq hb;exact asE m ih h1
  rcases ak h with⟨hb,h1⟩| ⟨_,h⟩
  ·cases beq_eq hb;exact asF m ih h1
  rcases ak h with⟨hb,h1⟩| ⟨_,h⟩
  ·cases beq_eq hb;exact asG m ih h1
  rcases ak h with⟨hb,h1⟩| ⟨_,h⟩
  ·cases beq_eq hb;exact asH m ih h1
  rcases ak h with⟨hb,h1⟩| ⟨_,h⟩
  ·cases beq_eq hb;exact asI m ih h1
  rcases ak h with⟨hb,h1⟩| ⟨_,h⟩
  ·cases beq_eq hb;exact asJ m ih h1
  rcases ak h with⟨hb,h1⟩| ⟨_,h⟩
  ·cases beq_eq hb;exact asK m ih h1
  rcases ak h with⟨hb,h1⟩| ⟨_,h⟩
  ·cases beq_eq hb;exact asL m ih h1
  rcases ak h with⟨hb,h1⟩| ⟨_,h⟩
  ·cases beq_eq hb;exact asM m ih h1
  rcases ak h with⟨hb,h1⟩| ⟨_,h⟩
  ·cases beq_eq hb;exact asN m ih h1
  rcases ak h with⟨hb,h1⟩| ⟨_,h⟩
  ·cases beq_eq hb;exact asO m ih h1
  rcases ak h with⟨hb,h1⟩| ⟨_,h⟩
  ·cases beq_eq hb;exact asP m ih h1
  rcases ak h with⟨hb,h1⟩| ⟨_,h⟩
  ·cases beq_eq hb;exact asQ m ih h1
  rcases ak h with⟨hb,h1⟩| ⟨_,h⟩
  ·cases beq_eq hb;exact asR m ih h1
  rcases ak h with⟨hb,h1⟩| ⟨_,h⟩
  ·cases beq_eq hb;exact asS m ih h1
  rcases ak h with⟨hb,h1⟩| ⟨_,h⟩
  ·cases beq_eq hb;exact asT m ih h1
  rcases ak h with⟨hb,h1⟩| ⟨_,h⟩
  ·cases beq_eq hb;exact asU m ih h1
  rcases ak h with⟨hb,h1⟩| ⟨_,h⟩
  ·cases beq_eq hb;exact asV m ih h1
  rcases ak h with⟨hb,h1⟩| ⟨_,h⟩
  ·cases beq_eq hb;exact asW m ih h1
  rcases ak h with⟨hb,h1⟩| ⟨_,h⟩
  ·cases beq_eq hb;exact asX m ih h1
  rcases ak h with⟨hb,h1⟩| ⟨_,h⟩
  ·cases beq_eq hb;exact asY m ih h1
  rcases ak h with⟨hb,h1⟩| ⟨_,h⟩
  ·cases beq_eq hb;exact asZ m ih h1
  rcases ak h with⟨hb,h1⟩| ⟨_,h⟩
  ·cases beq_eq hb;exact as0 m ih h1
  rcases ak h with⟨hb,h1⟩| ⟨_,h⟩
  ·cases beq_eq hb;exact as3 m ih h1
  rcases ak h with⟨hb,h1⟩| ⟨_,h⟩
  ·cases beq_eq hb;exact as4 m ih h1
  rcases ak h with⟨hb,h1⟩| ⟨_,h⟩
  ·cases beq_eq hb;exact as5 m ih h1
  rcases ak h with⟨hb,h1⟩| ⟨_,h⟩
  ·cases beq_eq hb;exact as6 m ih h1
  rcases ak h with⟨hb,h1⟩| ⟨_,h⟩
  ·cases beq_eq hb;exact as7 m ih h1
  rcases ak h with⟨hb,h1⟩| ⟨_,h⟩
  ·cases beq_eq hb;exact as8 m ih h1
  rcases ak h with⟨hb,h1⟩| ⟨_,h⟩
  ·cases beq_eq hb;exact as9 m ih h1
  rcases ak h with⟨hb,h1⟩| ⟨_,h⟩
  ·cases beq_eq hb;exact ata m ih h1
  rcases ak h with⟨hb,h1⟩| ⟨_,h⟩
  ·cases beq_eq hb;exact atb m ih h1
  rcases ak h with⟨hb,h1⟩| ⟨_,h⟩
  ·cases beq_eq hb;exact atc m ih h1
  rcases ak h with⟨hb,h1⟩| ⟨_,h⟩
  ·cases beq_eq hb;exact atd m ih h1
  rcases ak h with⟨hb,h1⟩| ⟨_,h⟩
  ·cases beq_eq hb;exact ate m ih h1
  rcases ak h with⟨hb,h1⟩| ⟨_,h⟩
  ·cases beq_eq hb;exact atf m ih h1
  rcases ak h with⟨hb,h1⟩| ⟨_,h⟩
  ·cases beq_eq hb;exact atg m ih h1
  rcases ak h with⟨hb,h1⟩| ⟨_,h⟩
  ·cases beq_eq hb;exact ath m ih h1
  rcases ak h with⟨hb,h1⟩| ⟨_,h⟩
  ·cases beq_eq hb;exact ati m ih h1
  rcases ak h with⟨hb,h1⟩| ⟨_,h⟩
  ·cases beq_eq hb;exact akq m ih h1
  rcases ak h with⟨hb,h1⟩| ⟨_,h⟩
  ·cases beq_eq hb;exact atj m ih h1
  rcases ak h with⟨hb,h1⟩| ⟨_,h⟩
  ·cases beq_eq hb;exact atl m ih h1
  rcases ak h with⟨hb,h1⟩| ⟨_,h⟩
  ·cases beq_eq hb;exact atm m ih h1
  rcases ak h with⟨hb,h1⟩| ⟨_,h⟩
  ·cases beq_eq hb;exact akr m ih h1
  rcases ak h with⟨hb,h1⟩| ⟨_,h⟩
  ·cases beq_eq hb;exact atn m ih h1
  rcases ak h with⟨hb,h1⟩| ⟨_,h⟩
  ·cases beq_eq hb;exact ato m ih h1
  rcases ak h with⟨hb,h1⟩| ⟨_,h⟩
  ·cases beq_eq hb;exact aks m ih h1
  rcases ak h with⟨hb,h1⟩| ⟨_,h⟩
  ·cases beq_eq hb;exact akt m ih h1
  rcases ak h with⟨hb,h1⟩| ⟨_,h⟩
  ·cases beq_eq hb;exact aku m ih h1
  rcases ak h with⟨hb,h1⟩| ⟨_,h⟩
  ·cases beq_eq hb;exact akv m ih h1
  rcases ak h with⟨hb,h1⟩| ⟨_,h⟩
  ·cases beq_eq hb;exact akw m ih h1
  rcases ak h with⟨hb,h1⟩| ⟨_,h⟩
  ·cases beq_eq hb;exact akx m ih h1
  rcases ak h with⟨hb,h1⟩| ⟨_,h⟩
  ·cases beq_eq hb;exact aky m ih h1
  rcases ak h with⟨hb,h1⟩| ⟨_,h⟩
  ·cases beq_eq hb;exact akz m ih h1
  rcases ak h with⟨hb,h1⟩| ⟨_,h⟩
  ·cases beq_eq hb;exact akA m ih h1
  rcases ak h with⟨hb,h1⟩| ⟨_,h⟩
  ·cases beq_eq hb;exact akB m ih h1
  rcases ak h with⟨hb,h1⟩| ⟨_,h⟩
  ·cases beq_eq hb;exact akC m ih h1
  rcases ak h with⟨hb,h1⟩| ⟨_,h⟩
  ·cases beq_eq hb;exact akD m ih h1
  rcases ak h with⟨hb,h1⟩| ⟨_,h⟩
  ·cases beq_eq hb;exact akE m ih h1
  rcases ak h with⟨hb,h1⟩| ⟨_,h⟩
  ·cases beq_eq hb;exact akF m ih h1
  rcases ak h with⟨hb,h1⟩| ⟨_,h⟩
  ·cases beq_eq hb;exact akG m ih h1
  rcases ak h with⟨hb,h1⟩| ⟨_,h⟩
  ·cases beq_eq hb;exact akH m ih h1
  rcases ak h with⟨hb,h1⟩| ⟨_,h⟩
  ·cases beq_eq hb;exact akI m ih h1
  rcases ak h with⟨hb,h1⟩| ⟨_,h⟩
  ·cases beq_eq hb;exact akJ m ih h1
  rcases ak h with⟨hb,h1⟩| ⟨_,h⟩
  ·cases beq_eq hb;exact akK m ih h1
  rcases ak h with⟨hb,h1⟩| ⟨_,h⟩
  ·cases beq_eq hb;exact akL m ih h1
  rcases ak h with⟨hb,h1⟩| ⟨_,h⟩
  ·cases beq_eq hb;exact akM m ih h1
  rcases ak h with⟨hb,h1⟩| ⟨_,h⟩
  ·cases beq_eq hb;exact akN m ih h1
  rcases ak h with⟨hb,h1⟩| ⟨_,h⟩
  ·cases beq_eq hb;exact akO m ih h1
  rcases ak h with⟨hb,h1⟩| ⟨_,h⟩
  ·cases beq_eq hb;exact akP m ih h1
  rcases ak h with⟨hb,h1⟩| ⟨_,h⟩
  ·cases beq_eq hb;exact akQ m ih h1
  rcases ak h with⟨hb,h1⟩| ⟨_,h⟩
  ·cases beq_eq hb;exact akR m ih h1
  rcases ak h with⟨hb,h1⟩| ⟨_,h⟩
  ·cases beq_eq hb;exact akS m ih h1
  rcases ak h with⟨hb,h1⟩| ⟨_,h⟩
  ·cases beq_eq hb;exact akT m ih h1
  rcases ak h with⟨hb,h1⟩| ⟨_,h⟩
  ·cases beq_eq hb;exact akU m ih h1
  rcases ak h with⟨hb,h1⟩| ⟨_,h⟩
  ·cases beq_eq hb;exact akV m ih h1
  rcases ak h with⟨hb,h1⟩| ⟨_,h⟩
  ·cases beq_eq hb;exact akW m ih h1
  rcases ak h with⟨hb,h1⟩| ⟨_,h⟩
  ·cases beq_eq hb;exact akX m ih h1
  rcases ak h with⟨hb,h1⟩| ⟨_,h⟩
  ·cases beq_eq hb;exact akY m ih h1
  rcases ak h with⟨hb,h1⟩| ⟨_,h⟩
  ·cases beq_eq hb;exact akZ m ih h1
  rcases ak h with⟨hb,h1⟩| ⟨_,h⟩
  ·cases beq_eq hb;exact ak0 m ih h1
  rcases ak h with⟨hb,h1⟩| ⟨_,h⟩
  ·cases beq_eq hb;exact ak1 m ih h1
  rcases ak h with⟨hb,h1⟩| ⟨_,h⟩
  ·cases beq_eq hb;exact ak2 m ih h1
  rcases ak h with⟨hb,h1⟩| ⟨_,h⟩
  ·cases beq_eq hb;exact ak3 m ih h1
  rcases ak h with⟨hb,h1⟩| ⟨_,h⟩
  ·cases beq_eq hb;exact ak4 m ih h1
  rcases ak h with⟨hb,h1⟩| ⟨_,h⟩
  ·cases beq_eq hb;exact ak5 m ih h1
  rcases ak h with⟨hb,h1⟩| ⟨_,h⟩
  ·cases beq_eq hb;exact ak6 m ih h1
  cases h
end Go.Proofs.YtjnkagkoolbodaaGreatDoor
