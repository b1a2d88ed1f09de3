/- Generated: what the Go functions compute, over plain data.
Generated:the functions as contracts for their callers.
Generated:each function's run in the abstract machine is its shallow function.
Generated:the contracts.
expr.ofTexts:the contract,put together out of the walk (joining) and the generated part (all else). -/
import Derived.Test.YtjibjkdalajaiaaGreatDoorA4
import Derived.Test.YtjibjkdalajaiaaGreatDoorOA
import Derived.Test.YtjibjkdalajaiaaGreatDoorProg
import Derived.KernelRfl
import Derived.Test.YtjibjkdalajaiaaGreatDoorAmEnv
set_option linter.all false
noncomputable section
namespace Go.Proofs.YtjibjkdalajaiaaGreatDoor.P1
open Go.Am Dt
def nC:Dt:=
 agg [int 2,int 0,str (ByteArray.mk (List.toArray [])),lst [],lst []]
def aj:Dt:=
 agg [int 0,int 0,str (ByteArray.mk (List.toArray [])),lst [],lst []]
def cB:Nat->Option Dt
 |0=>none
 |m+1=>some nC
def qh:Nat->ByteArray->Option Dt
 |0,_=>none
 |m+1,a=>some (agg [int 4,int 0,str a,lst [],lst []])
def bM:Nat->Int->Option Dt
 |0,_=>none
 |m+1,a=>some (agg [int 3,int a,str (ByteArray.mk (List.toArray [])),lst [],lst []])
def BH(m:Nat):Nat->List Dt->Int->Int->Dt->Dt->Option Dt
 |0,_,_,_,_,_=>none
 |f+1,b,c,a,g,h=>cond (a<c) ((idx b a).bind fun d=>cond (I d 0 !=4) ((cB m).bind fun e=>some e) none) none
def expr_ofTexts_j9(m:Nat)(b:ByteArray)(g e f:Dt):Option Dt:=
 (cutS b (cond ((b.size:Int)<I e 1) (b.size:Int) (I e 1)) (b.size:Int)).bind fun a=>(cutS a 0 (cond ((a.size:Int)<I f 1) (a.size:Int) (I f 1))).bind fun c=>(qh m c).bind fun d=>some d
def nY(m:Nat)(b:ByteArray)(c:Bool)(d e f:Dt):Option Dt:=
 cond c ((cB m).bind fun a=>some a) (expr_ofTexts_j9 m b d e f)
def expr_ofTexts_j7(m:Nat)(e:List Dt)(c:ByteArray)(d:Dt):Option Dt:=
 (idx e 1).bind fun a=>(idx e 2).bind fun b=>cond (I a 0 !=3) (nY m c true d a b) (cond (I b 0 !=3) (nY m c true d a b) (cond (I a 1<0) (nY m c true d a b) (nY m c (decide (I b 1<0)) d a b)))
def expr_ofTexts_j5(m:Nat)(b:Int)(c:List Dt)(d:Dt):Option Dt:=
 (idx c 0).bind fun e=>cond (I e 0 !=4) ((cB m).bind fun f=>some f) ((idx c 0).bind fun a=>cond (b==22) ((rA (S a 2) 65 97).bind fun g=>(qh m g).bind fun h=>some h) (cond (b==23) ((rA (S a 2) 97 65).bind fun i=>(qh m i).bind fun j=>some j) (cond (b==24) ((bM m ((S a 2).size:Int)).bind fun k=>some k) (expr_ofTexts_j7 m c (S a 2) d))))
def expr_ofTexts:Nat->Int->List Dt->Option Dt
 |0,_,_=>none
 |m+1,b,a=>cond (b==21) (BH m (Nat.succ m) a (a.length:Int) 0 aj (agg [lst [],lst []])) (expr_ofTexts_j5 m b a aj)
end Go.Proofs.YtjibjkdalajaiaaGreatDoor.P1
noncomputable section
namespace Go.Proofs.YtjibjkdalajaiaaGreatDoor.P1
open Go.Am
def ads(args:List AV)(objs:List Ob):Option (Int×List Dt):=match args,objs with
 | [.dat T0 a,.dat T1 b],[]=>bif (Nat.beq T0 3&&Nat.beq T1 23)then some (a.toInt,b.toLst)else none
 |_,_=>none
theorem Xk{args:List AV}{objs:List Ob}{l:Int×List Dt}(h:ads args objs=some l):CnA Tryz.prog args [.dat 3 (.int l.1),.dat 23 (.lst l.2)]∧CnOL Tryz.prog objs []:=by
 unfold ads at h;split at h
 ·obtain⟨hc,a⟩:=aJ h;cases a;have e0:=beq_eq (aG hc);have hc:=aB hc;have e1:=beq_eq hc;subst e0 e1;exact⟨(.cons (.of (.dat (.int Tryz.underlying3)) rfl rfl) (.cons (.of (.dat (.lst Tryz.underlying23)) rfl rfl) .nil)),.nil⟩
 ·cases h
def LZ(args:List AV)(objs:List Ob):Option Unit:=match args,objs with
 | [],[]=>bif true then some ()else none
 |_,_=>none
theorem DY{args:List AV}{objs:List Ob}{l:Unit}(h:LZ args objs=some l):CnA Tryz.prog args []∧CnOL Tryz.prog objs []:=by
 unfold LZ at h;split at h
 ·obtain⟨hc,a⟩:=aJ h;cases a;exact⟨.nil,.nil⟩
 ·cases h
def adt(args:List AV)(objs:List Ob):Option (ByteArray×Int×Int):=match args,objs with
 | [.dat T0 a,.dat T1 b,.dat T2 c],[]=>bif (Nat.beq T0 9&&(Nat.beq T1 5&&Nat.beq T2 5))then some (a.toStr,b.toInt,c.toInt)else none
 |_,_=>none
theorem Xl{args:List AV}{objs:List Ob}{l:ByteArray×Int×Int}(h:adt args objs=some l):CnA Tryz.prog args [.dat 9 (.str l.1),.dat 5 (.int l.2.1),.dat 5 (.int l.2.2)]∧CnOL Tryz.prog objs []:=by
 unfold adt at h;split at h
 ·obtain⟨hc,a⟩:=aJ h;cases a;have e0:=beq_eq (aG hc);have hc:=aB hc;have e1:=beq_eq (aG hc);have hc:=aB hc;have e2:=beq_eq hc;subst e0 e1 e2;exact⟨(.cons (.of (.dat (.str Tryz.underlying9)) rfl rfl) (.cons (.of (.dat (.int Tryz.underlying5)) rfl rfl) (.cons (.of (.dat (.int Tryz.underlying5)) rfl rfl) .nil))),.nil⟩
 ·cases h
def aty(args:List AV)(objs:List Ob):Option ByteArray:=match args,objs with
 | [.dat T0 a],[]=>bif Nat.beq T0 9 then some a.toStr else none
 |_,_=>none
theorem apo{args:List AV}{objs:List Ob}{l:ByteArray}(h:aty args objs=some l):CnA Tryz.prog args [.dat 9 (.str l)]∧CnOL Tryz.prog objs []:=by
 unfold aty at h;split at h
 ·obtain⟨hc,a⟩:=aJ h;cases a;have e0:=beq_eq hc;subst e0;exact⟨(.cons (.of (.dat (.str Tryz.underlying9)) rfl rfl) .nil),.nil⟩
 ·cases h
def adu(args:List AV)(objs:List Ob):Option Int:=match args,objs with
 | [.dat T0 a],[]=>bif Nat.beq T0 3 then some a.toInt else none
 |_,_=>none
theorem Xm{args:List AV}{objs:List Ob}{l:Int}(h:adu args objs=some l):CnA Tryz.prog args [.dat 3 (.int l)]∧CnOL Tryz.prog objs []:=by
 unfold adu at h;split at h
 ·obtain⟨hc,a⟩:=aJ h;cases a;have e0:=beq_eq hc;subst e0;exact⟨(.cons (.of (.dat (.int Tryz.underlying3)) rfl rfl) .nil),.nil⟩
 ·cases h
def aqk{R:Type}(m:Nat)(args:List AV)(objs:List Ob)(K:Res->Option R):Option R:=ada args objs K
def aql{R:Type}(m:Nat)(args:List AV)(objs:List Ob)(K:Res->Option R):Option R:=ada args objs K
def amP{R:Type}(m:Nat)(args:List AV)(objs:List Ob)(K:Res->Option R):Option R:=match ads args objs with
 |some l=>(expr_ofTexts m l.1 l.2).bind fun r=>K ((.dat 26 r),[])
 |none=>none
def atz{R:Type}(m:Nat)(args:List AV)(objs:List Ob)(K:Res->Option R):Option R:=match LZ args objs with
 |some l=>(cB m).bind fun r=>K ((.dat 26 r),[])
 |none=>none
def amQ{R:Type}(m:Nat)(args:List AV)(objs:List Ob)(K:Res->Option R):Option R:=match adt args objs with
 |some l=>(rA l.1 l.2.1 l.2.2).bind fun r=>K ((.dat 9 (.str r)),[])
 |none=>none
def amR{R:Type}(m:Nat)(args:List AV)(objs:List Ob)(K:Res->Option R):Option R:=match aty args objs with
 |some l=>(qh m l).bind fun r=>K ((.dat 26 r),[])
 |none=>none
def amS{R:Type}(m:Nat)(args:List AV)(objs:List Ob)(K:Res->Option R):Option R:=match adu args objs with
 |some l=>(bM m l).bind fun r=>K ((.dat 26 r),[])
 |none=>none
def d1(q:Res):Option Dt:=match q with
 |(.dat T0 a,[])=>bif Nat.beq T0 26 then some a else none
 |_=>none
theorem XK{b:Res}{r:Dt}(h:d1 b=some r):Sim Tryz.prog b ((.dat 26 r),[]):=by
 unfold d1 at h;split at h
 ·obtain⟨hc,a⟩:=aJ h;cases a;have e0:=beq_eq hc;subst e0;exact Sim.of (.of .same rfl rfl) .nil
 ·cases h
def ct{R:Type}(m:Nat)(f:FuncId)(args:List AV)(objs:List Ob)(K:Res->Option R):Option R:=
 bif Nat.beq f 114 then amP m args objs K else
 bif Nat.beq f 87 then atz m args objs K else
 bif Nat.beq f 142 then amQ m args objs K else
 bif Nat.beq f 140 then amR m args objs K else
 bif Nat.beq f 116 then amS m args objs K else
 bif Nat.beq f 139 then aqk m args objs K else
 bif Nat.beq f 141 then aql m args objs K else
 none
section
variable{R:Type}{P:Program}{E:Env}{call:FuncId->List AV->List Ob->(Res->Option R)->Option R}{m n M:Nat}{f:FuncId}{fn:Func}{dec:Res->Option R}{p ms:List Nat}{σ:St}{g:(Nat->Nat->Nat->St->Option R->Option R)->Option R}{r:Option R}
theorem tq(e:g jn=r)(h:∀J,evAt P E call J m f n fn dec p ms σ=g J:=by intro J;kernel_rfl):evAt P E call jn m f n fn dec p ms σ=r:=(h jn).trans e
theorem tl(e:g jn=r)(h:∀J,loopAt P E call J m f n fn dec p ms M σ=g J:=by intro J;kernel_rfl):loopAt P E call jn m f n fn dec p ms M σ=r:=(h jn).trans e
end
end Go.Proofs.YtjibjkdalajaiaaGreatDoor.P1
noncomputable section
namespace Go.Proofs.YtjibjkdalajaiaaGreatDoor.P1
open Go.Am Dt
set_option maxRecDepth 100000
def e1(J:Nat->Nat->Nat->St->Option Dt->Option Dt)(m:Nat):=evAt Tryz.prog env (ct m) J (m+1) 87 2 Tryz.f87 d1
theorem AX m:e1 jn m [] [] ⟨[],[],0⟩=cB (m+1):=
 tq (g:=fun J=>some nC) (by rfl)
def e3(J:Nat->Nat->Nat->St->Option Dt->Option Dt)(m:Nat):=evAt Tryz.prog env (ct m) J (m+1) 140 5 Tryz.f140 d1
theorem XL m a:e3 jn m [] [] ⟨[.dat 9 (.str a)],[],0⟩=qh (m+1) a:=
 tq (g:=fun J=>some (agg [int 4,int 0,str a,lst [],lst []])) (by rfl)
def e4(J:Nat->Nat->Nat->St->Option Dt->Option Dt)(m:Nat):=evAt Tryz.prog env (ct m) J (m+1) 116 5 Tryz.f116 d1
theorem vg m a:e4 jn m [] [] ⟨[.dat 3 (.int a)],[],0⟩=bM (m+1) a:=
 tq (g:=fun J=>some (agg [int 3,int a,str (ByteArray.mk (List.toArray [])),lst [],lst []])) (by rfl)
def aoP:List Nat:=[1,0,1,0,1,0,1]
def Z9:List Nat:=aoP++[0]
def Qp:List Nat:=[1,1,1,1,1,1,0,1]
def e0(J:Nat->Nat->Nat->St->Option Dt->Option Dt)(m:Nat):=evAt Tryz.prog env (ct m) J (m+1) 114 95 Tryz.f114 d1
def l0(J:Nat->Nat->Nat->St->Option Dt->Option Dt)(m:Nat):=loopAt Tryz.prog env (ct m) J (m+1) 114 95 Tryz.f114 d1
def awK(a:List Dt)(b c:Int)(d e:Dt):St:=⟨tsOf [(4,.ptr 0 [] 0),(5,.ptr 1 [] 0),(13,.dat 23 (.lst a)),(14,.dat 3 (.int b)),(15,.dat 3 (.int c))],[.box 26 (.dat 26 d),.box 155 (.dat 155 e)],0⟩
def amT(a:ByteArray)(b:Bool)(c d e:Dt):St:=⟨tsOf [(4,.ptr 0 [] 0),(8,.dat 9 (.str a)),(9,.ptr 1 [] 0),(10,.ptr 2 [] 0),(78,.dat 4 (.bool b))],[.box 26 (.dat 26 c),.box 26 (.dat 26 d),.box 26 (.dat 26 e)],0⟩
theorem Gf m:∀d b c a e f,l0 jn m Z9 [] d (awK b c a e f)=BH m d b c a e f
 |0,_,_,_,_,_=>rfl
 |d+1,b,c,a,e,f=>
  tl (g:=fun J=>cond (a<c) ((idx b a).bind fun h=>cond (I h 0 !=4) ((cB m).bind fun i=>some i) none) none) (by rfl)
theorem Gg m b e j c d:e0 jn m Qp [] (amT b e j c d)=nY m b e j c d:=
 tq (g:=fun J=>cond e ((cB m).bind fun f=>some f) ((cutS b (cond ((b.size:Int)<I c 1) (b.size:Int) (I c 1)) (b.size:Int)).bind fun a=>(cutS a 0 (cond ((a.size:Int)<I d 1) (a.size:Int) (I d 1))).bind fun h=>(qh m h).bind fun i=>some i)) (by rfl)
theorem MS m e c:e0 jn m [] [] ⟨[.dat 3 (.int e),.dat 23 (.lst c)],[],0⟩=expr_ofTexts (m+1) e c:=
 tq (g:=fun J=>cond (e==21) (jj J 1 4 (Nat.succ m) (awK c (c.length:Int) 0 aj (agg [lst [],lst []])) (l0 J m Z9 [] (Nat.succ m))) ((idx c 0).bind fun f=>cond (I f 0 !=4) ((cB m).bind fun h=>some h) ((idx c 0).bind fun d=>cond (e==22) ((rA (S d 2) 65 97).bind fun i=>(qh m i).bind fun j=>some j) (cond (e==23) ((rA (S d 2) 97 65).bind fun k=>(qh m k).bind fun l=>some l) (cond (e==24) ((bM m ((S d 2).size:Int)).bind fun n=>some n) ((idx c 1).bind fun a=>(idx c 2).bind fun b=>cond (I a 0 !=3) (jj J 0 23 0 (amT (S d 2) true aj a b) (e0 J m Qp [])) (cond (I b 0 !=3) (jj J 0 23 0 (amT (S d 2) true aj a b) (e0 J m Qp [])) (cond (I a 1<0) (jj J 0 23 0 (amT (S d 2) true aj a b) (e0 J m Qp [])) (jj J 0 23 0 (amT (S d 2) (decide (I b 1<0)) aj a b) (e0 J m Qp [])))))))))) (by simp only[aM,Gf m,Gg m];rfl)
end Go.Proofs.YtjibjkdalajaiaaGreatDoor.P1
namespace Go.Proofs.YtjibjkdalajaiaaGreatDoor.P1
open Go.Am
set_option maxRecDepth 100000
theorem mixed:Tryz.prog.follows .mixedOrders=true:=by kernel_rfl
abbrev CtH(m:Nat):Prop:=∀R,CallOK (R:=R) Tryz.prog (ct m)
abbrev CtK(m:Nat):Prop:=∀k,k<m->CtH k
abbrev FQ{R:Type}(f:Nat)(args:List AV)(objs:List Ob)(K:Res->Option R)(r:R):Prop:=∃q:Res,K q=some r∧FX Tryz.prog f args objs q.1 q.2∧HasBody Tryz.prog f
theorem fo{R:Type}{m f:Nat}{fn:Func}{c:Code}{args:List AV}{objs:List Ob}{res:AV}{ro:List Ob}{dec:Res->Option R}{r:R}(hct:CtH m)(hf:Tryz.prog.funcs[f]? =some fn)(hc:fn.body=some c)(hl:Nat.ble args.length fn.ntmps=true)(hd:∀{b:Res},dec b=some r->Sim Tryz.prog b (res,ro))(h:ev Tryz.prog env (ct m) jn (m+1) f fn.ntmps c ⟨args,objs,objs.length⟩ (fun e σ=>(Rf Tryz.prog env f fn e σ).bind dec)=some r):FX Tryz.prog f args objs res ro:=
 FX_of (q:=(res,ro)) (E:=env) (m:=m+1) (dec:=dec) jn_ok (hct _) mixed hf hc (aL hl) (fun _ hb=>hd hb) h
section
variable{R:Type}{args:List AV}{objs:List Ob}{K:Res->Option R}{r:R}
theorem Bb m(hct:CtH m){r:Dt}(h:cB (m+1)=some r):FX Tryz.prog 87 [] [] (.dat 26 r) []:=
 fo hct Tryz.func87 rfl rfl XK ((AX m).trans h)
theorem XM m(hct:CtH m)(a:ByteArray){r:Dt}(h:qh (m+1) a=some r):FX Tryz.prog 140 [.dat 9 (.str a)] [] (.dat 26 r) []:=
 fo hct Tryz.func140 rfl rfl XK ((XL m a).trans h)
theorem vw m(hct:CtH m)(a:Int){r:Dt}(h:bM (m+1) a=some r):FX Tryz.prog 116 [.dat 3 (.int a)] [] (.dat 26 r) []:=
 fo hct Tryz.func116 rfl rfl XK ((vg m a).trans h)
theorem expr_ofTexts_fx m(hct:CtH m)(a:Int)(b:List Dt){r:Dt}(h:expr_ofTexts (m+1) a b=some r):FX Tryz.prog 114 [.dat 3 (.int a),.dat 23 (.lst b)] [] (.dat 26 r) []:=
 fo hct Tryz.func114 rfl rfl XK ((MS m a b).trans h)
theorem amU(m:Nat)(hct:∀k,k<m->∀R,CallOK (R:=R) Tryz.prog (ct k)){R:Type}{args:List AV}{objs:List Ob}{K:Res->Option R}{r:R}(h:aqk m args objs K=some r):∃q:Res,K q=some r∧FX Tryz.prog 139 args objs q.1 q.2∧HasBody Tryz.prog 139:=Uu h
theorem amV(m:Nat)(hct:∀k,k<m->∀R,CallOK (R:=R) Tryz.prog (ct k)){R:Type}{args:List AV}{objs:List Ob}{K:Res->Option R}{r:R}(h:aql m args objs K=some r):∃q:Res,K q=some r∧FX Tryz.prog 141 args objs q.1 q.2∧HasBody Tryz.prog 141:=Uu h
theorem amW m(hct:CtK m)(h:amP m args objs K=some r):FQ 114 args objs K r:=by
 unfold amP at h;split at h
 ·rename_i l hl;obtain⟨x,hx,hk⟩:=ak.1 h;obtain⟨a,b⟩:=Xk hl;cases m with
  |zero=>cases hx
  |succ m=>exact⟨_,hk,(expr_ofTexts_fx m (hct m (Nat.lt_succ_self m)) _ _ hx).conv a b,⟨_,Tryz.func114,rfl,by decide⟩⟩
 cases h
theorem apq m(hct:CtK m)(h:atz m args objs K=some r):FQ 87 args objs K r:=by
 unfold atz at h;split at h
 ·rename_i l hl;obtain⟨x,hx,hk⟩:=ak.1 h;obtain⟨a,b⟩:=DY hl;cases m with
  |zero=>cases hx
  |succ m=>exact⟨_,hk,(Bb m (hct m (Nat.lt_succ_self m)) hx).conv a b,⟨_,Tryz.func87,rfl,by decide⟩⟩
 cases h
theorem amX m(hct:CtK m)(h:amQ m args objs K=some r):FQ 142 args objs K r:=by
 unfold amQ at h;split at h
 ·rename_i l hl;obtain⟨x,hx,hk⟩:=ak.1 h;obtain⟨a,b⟩:=Xl hl;exact⟨_,hk,(Pk hx).conv a b,⟨_,Tryz.func142,rfl,by decide⟩⟩
 cases h
theorem amY m(hct:CtK m)(h:amR m args objs K=some r):FQ 140 args objs K r:=by
 unfold amR at h;split at h
 ·rename_i l hl;obtain⟨x,hx,hk⟩:=ak.1 h;obtain⟨a,b⟩:=apo hl;cases m with
  |zero=>cases hx
  |succ m=>exact⟨_,hk,(XM m (hct m (Nat.lt_succ_self m)) _ hx).conv a b,⟨_,Tryz.func140,rfl,by decide⟩⟩
 cases h
theorem amZ m(hct:CtK m)(h:amS m args objs K=some r):FQ 116 args objs K r:=by
 unfold amS at h;split at h
 ·rename_i l hl;obtain⟨x,hx,hk⟩:=ak.1 h;obtain⟨a,b⟩:=Xm hl;cases m with
  |zero=>cases hx
  |succ m=>exact⟨_,hk,(vw m (hct m (Nat.lt_succ_self m)) _ hx).conv a b,⟨_,Tryz.func116,rfl,by decide⟩⟩
 cases h
end
set_option maxHeartbeats 4000000 in
theorem ct_ok:∀(m:Nat)(R:Type),CallOK (R:=R) Tryz.prog (ct m):=by
 intro m;induction m using Nat.strongRecOn with
 |_ m ih=>
  intro R f args objs K r h;unfold ct at h;rcases bQ h with⟨hb,a⟩| ⟨_,h⟩;·cases beq_eq hb;exact amW m ih a
  rcases bQ h with⟨hb,a⟩| ⟨_,h⟩;·cases beq_eq hb;exact apq m ih a
  rcases bQ h with⟨hb,a⟩| ⟨_,h⟩;·cases beq_eq hb;exact amX m ih a
  rcases bQ h with⟨hb,a⟩| ⟨_,h⟩;·cases beq_eq hb;exact amY m ih a
  rcases bQ h with⟨hb,a⟩| ⟨_,h⟩;·cases beq_eq hb;exact amZ m ih a
  rcases bQ h with⟨hb,a⟩| ⟨_,h⟩;·cases beq_eq hb;exact amU m ih a
  rcases bQ h with⟨hb,a⟩| ⟨_,h⟩;·cases beq_eq hb;exact amV m ih a
  cases h
end Go.Proofs.YtjibjkdalajaiaaGreatDoor.P1
namespace Go.Am
section
variable{P:Program}{V F L D I S:TypeId}{fv ff:Array Field}(hT:VTy P V F L D I S fv ff){w:World}{ok:Nat->Prop}
include hT
theorem VTy.nil_l:RD P ok w L (.lst []) [.slice none 0 0]:= .lst ⟨0,0,none⟩ (fun _=>[]) hT.l rfl (ay _) (by unfold maxLen;omega) (fun h=>absurd h (by omega)) (fun i hi=>absurd hi (by omega)) (fun i d h=>by simp at h)
theorem VTy.nil_d:RD P ok w D (.lst []) [.slice none 0 0]:= .lst ⟨0,0,none⟩ (fun _=>[]) hT.d rfl (ay _) (by unfold maxLen;omega) (fun h=>absurd h (by omega)) (fun i hi=>absurd hi (by omega)) (fun i d h=>by simp at h)
theorem VTy.mk_v{k n:Int}{s:ByteArray}(hk:IntKind.i64.min<=k∧k<=IntKind.i64.max)(hn:IntKind.i64.min<=n∧n<=IntKind.i64.max)(hs:s.size<=maxLen):
  RD P ok w V (.agg [.int k,.int n,.str s,.lst [],.lst []]) [.int .i64 k,.int .i64 n,.string s,.slice none 0 0,.slice none 0 0]:=by
 refine .agg hT.v (by rw[hT.size_v];rfl) (by rw[hT.cv];rfl) (by simp[Value.oneCell']) (fun i f d hf hd=>?_);rcases i with _|_|_|_|_|i
 ·obtain⟨f',h1,h2,h3⟩:=hT.fld_v 0 I 0 rfl;rw[hf]at h1;cases h1;cases hd;rw[h2,h3,hT.ci]
  exact .int hT.i hk.1 hk.2
 ·obtain⟨f',h1,h2,h3⟩:=hT.fld_v 1 I 1 rfl;rw[hf]at h1;cases h1;cases hd;rw[h2,h3,hT.ci]
  exact .int hT.i hn.1 hn.2
 ·obtain⟨f',h1,h2,h3⟩:=hT.fld_v 2 S 2 rfl;rw[hf]at h1;cases h1;cases hd;rw[h2,h3,hT.cs]
  exact .str hT.s hs
 ·obtain⟨f',h1,h2,h3⟩:=hT.fld_v 3 L 3 rfl;rw[hf]at h1;cases h1;cases hd;rw[h2,h3,hT.cl]
  exact hT.nil_l
 ·obtain⟨f',h1,h2,h3⟩:=hT.fld_v 4 D 4 rfl;rw[hf]at h1;cases h1;cases hd;rw[h2,h3,hT.cd]
  exact hT.nil_d
 ·cases hd
end
end Go.Am
namespace Go.Proofs.YtjibjkdalajaiaaGreatDoor
open Go.Am
noncomputable def dU(op:Int)(l:List Dt):Option Dt:=
 bif op==21 then
  bif Nat.ble (catB l).length 137438953472 then some (bif l.all (fun d=>Dt.I d 0==4)then Ai ⟨(catB l).toArray⟩else ave)else none
 else P1.expr_ofTexts 100 op l
theorem aaU{l:List Dt}(h:(catB l).length<=137438953472):FX Tryz.prog 114 [.dat 3 (.int 21),.dat 23 (.lst l)] [] (.dat 26 (bif l.all (fun d=>Dt.I d 0==4)then Ai ⟨(catB l).toArray⟩else ave)) []:=by
 refine Nb fun ok w β vs hok hvs htab=>?_;obtain⟨z1,z2,rfl,h1,h2⟩:=asl hvs;obtain⟨_,rfl,_⟩:=RV.int Tryz.underlying3 h1;obtain⟨fv,ff,hT⟩:=tV;obtain⟨_,hrd,_⟩:=RV.lst hT.l h2;refine(Zz l ok w z2 hrd hok h).mono ?_;rintro e w' ⟨rfl,hb⟩;have hag:dQ Tryz.prog 26=true:=by kernel_rfl
 have i0:IntKind.i64.min<=0∧(0:Int)<=IntKind.i64.max:=by simp[IntKind.min,IntKind.max,IntKind.signed,IntKind.bits]
 have i2:IntKind.i64.min<=2∧(2:Int)<=IntKind.i64.max:=by simp[IntKind.min,IntKind.max,IntKind.signed,IntKind.bits]
 have i4:IntKind.i64.min<=4∧(4:Int)<=IntKind.i64.max:=by simp[IntKind.min,IntKind.max,IntKind.signed,IntKind.bits]
 refine⟨_,rfl,hb,(RV.dat_agg hag).2 ?_⟩;cases l.all (fun d=>Dt.I d 0==4)with
 |true=>exact⟨_,rfl,hT.mk_v i4 i0 (by show (List.toArray _).size<=_;rw[List.size_toArray];unfold maxLen;omega)⟩
 |false=>exact⟨_,rfl,hT.mk_v i2 i0 (by show (#[]:Array UInt8).size<=_;simp)⟩
theorem K8{op:Int}{l:List Dt}{r:Dt}(h:dU op l=some r):FX Tryz.prog 114 [.dat 3 (.int op),.dat 23 (.lst l)] [] (.dat 26 r) []:=by
 unfold dU at h;cases h0:op==21 with
 |true=>
  rw[h0,cond_true]at h;have e0:op=21:=by simpa using h0
  subst e0;cases h1:Nat.ble (catB l).length 137438953472 with
  |true=>
   rw[h1,cond_true]at h;cases h;exact aaU (aL h1)
  |false=>rw[h1]at h;cases h
 |false=>
  rw[h0,cond_false]at h;exact P1.expr_ofTexts_fx 99 (P1.ct_ok 99) op l h
