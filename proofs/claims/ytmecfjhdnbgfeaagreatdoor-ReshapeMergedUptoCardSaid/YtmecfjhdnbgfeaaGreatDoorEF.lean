/- Generated: each function's run in the abstract machine is its shallow function.
Generated:the contracts. -/
import Derived.Test.YtmecfjhdnbgfeaaGreatDoorEQ
import Derived.Test.YtmecfjhdnbgfeaaGreatDoorAmEnv
import Derived.KernelRfl
set_option linter.all false
namespace Go.Proofs.YtmecfjhdnbgfeaaGreatDoor
open Nat (succ)
open IntKind (wrap)
open Go.Am Dt
set_option maxRecDepth 100000
def IG:List Nat:=[1,0,1,0,0,1]
def alu:List Nat:=IG++[1]
def Y0:List Nat:=IG++[0,0,1,1]
def Y1:List Nat:=Y0++[1]
def vF:List Nat:=IG++[0,0,1,0,1]
def II:List Nat:=Y1++[0]
def Y2:List Nat:=II++[0,1]
def alv:List Nat:=Y2++[1]
noncomputable def e72(J:Nat->Nat->Nat->St->Option Bool->Option Bool)(m:Nat)(p ms:List Nat)(σ:St):=evAt Tryz.prog env (ct m) J (m+1) 95 58 Tryz.f95 d8 p ms σ
noncomputable def l72(J:Nat->Nat->Nat->St->Option Bool->Option Bool)(m:Nat)(p ms:List Nat)(M:Nat)(σ:St):=loopAt Tryz.prog env (ct m) J (m+1) 95 58 Tryz.f95 d8 p ms M σ
noncomputable def mO(a:Bool)(b c:Int)(d e:Dt):St:=⟨tsOf [(1,(.dat 4 (.bool a))),(2,(.ptr 0 [] 0)),(5,(.dat 3 (.int b))),(6,(.ptr 1 [] 0)),(7,(.dat 3 (.int c)))],[(.box 26 (.dat 26 d)),(.box 48 (.dat 48 e))],0⟩
noncomputable def mP(a:Bool)(b:Int)(c:Dt):St:=⟨tsOf [(1,(.dat 4 (.bool a))),(2,(.ptr 0 [] 0)),(5,(.dat 3 (.int b)))],[(.box 26 (.dat 26 c))],0⟩
noncomputable def alx(a:Bool)(b:Int)(c d:Dt):St:=⟨tsOf [(1,(.dat 4 (.bool a))),(2,(.ptr 0 [] 0)),(5,(.dat 3 (.int b))),(6,(.ptr 1 [] 0))],[(.box 26 (.dat 26 c)),(.box 48 (.dat 48 d))],0⟩
noncomputable def vG(a:Bool)(b:Int)(c:Bool)(d e:Dt):St:=⟨tsOf [(1,(.dat 4 (.bool a))),(2,(.ptr 0 [] 0)),(5,(.dat 3 (.int b))),(6,(.ptr 1 [] 0)),(43,(.dat 4 (.bool c)))],[(.box 26 (.dat 26 d)),(.box 48 (.dat 48 e))],0⟩
noncomputable def Y3:St:=⟨tsOf [],[],0⟩
abbrev vH(m e:Nat)(a:Bool->Int->Dt->Option Bool):Prop:=∀b c d,l72 jn m [1,0,1,0] [] e (mP b c d)=a b c d
abbrev aly(m g h:Nat)(a:Bool->Int->Int->Dt->Dt->Option Bool):Prop:=∀b c d e f,l72 jn m II [g] h (mO b c d e f)=a b c d e f
theorem Y4 m c a(l:vH m c a) d b(k:aly m c d b) e f h i j:e72 jn m alv [c,d] (mO e f h i j)=Cw m (qE m) a b e f h i j:=
 tre (g:=fun J=>jj J 1 8 d (mO e f (wrap .i64 (h+1)) i j) (l72 J m II [c] d)) (fun J=>by kernel_rfl) (by simp only[ay,k];rfl)
theorem Y5 m c a(k:vH m c a) d b(l:aly m c d b) i j e f h:e72 jn m Y2 [c,d] (mO i j e f h)=Cx m (qE m) a b i j e f h:=
 tre (g:=fun J=>(idx (L f 4) e).bind fun n=>cond ((S n 0).toList==(S h 0).toList) (some false) (jj J 0 9 0 (mO i j e f h) (e72 J m alv [c,d]))) (fun J=>by kernel_rfl) (by simp only[ay,Y4 m c a k d b l];rfl)
theorem Y6 m b a(f:vH m b a) c d e:e72 jn m alu [b] (mP c d e)=Cy m (qE m) a c d e:=
 tre (g:=fun J=>jj J 1 2 b (mP c (wrap .i64 (d+1)) e) (l72 J m [1,0,1,0] [] b)) (fun J=>by kernel_rfl) (by simp only[ay,f];rfl)
theorem IJ m b a(j:vH m b a):∀c e d f h i,l72 jn m II [b] c (mO e d f h i)=xS m (qE m) a c e d f h i
 |0,_,_,_,_,_=>rfl
 |c+1,e,d,f,h,i=>
  trl (g:=fun J=>cond (f<d) (jj J 0 10 0 (mO e d f h i) (e72 J m Y2 [b,c])) (jj J 0 3 0 (mP e d h) (e72 J m alu [b]))) (fun J=>by kernel_rfl) (by simp only[ay,Y5 m b a j c (xS m (qE m) a c) (IJ m b a j c),Y6 m b a j];rfl)
theorem Y7 m b a(i:vH m b a) c d e f h:e72 jn m Y1 [b] (mO c d e f h)=Cz m (qE m) a c d e f h:=
 tre (g:=fun J=>jj J 1 8 (succ m) (mO c d e f h) (l72 J m II [b] (succ m))) (fun J=>by kernel_rfl) (by simp only[ay,IJ m b a i];rfl)
theorem Y8 m b a(h:vH m b a) c d e f:e72 jn m Y0 [b] (alx c d e f)=CB m (qE m) a c d e f:=
 tre (g:=fun J=>jj J 0 8 0 (mO c d 0 e f) (e72 J m Y1 [b])) (fun J=>by kernel_rfl) (by simp only[ay,Y7 m b a h];rfl)
theorem Y9 m b a(i:vH m b a) c d e f h:e72 jn m vF [b] (vG c d e f h)=j5 m (qE m) a c d e f h:=
 tre (g:=fun J=>cond e (some false) (jj J 0 7 0 (alx c d f h) (e72 J m Y0 [b]))) (fun J=>by kernel_rfl) (by simp only[ay,Y8 m b a i];rfl)
theorem Za m d c(h:vH m d c) a e f:e72 jn m IG [d] (mP a e f)=CG m (qE m) c a e f:=
 tre (g:=fun J=>(idx (L f 4) e).bind fun b=>cond a ((qS m (S b 0)).bind fun i=>cond (!i) (jj J 0 6 0 (vG a e true f b) (e72 J m vF [d])) (bif !a then(qU m (S b 0)).bind fun j=>cond (!j) (jj J 0 6 0 (vG a e true f b) (e72 J m vF [d])) ((qE m (fld b 1) a).bind fun k=>jj J 0 6 0 (vG a e (!k) f b) (e72 J m vF [d]))else(qE m (fld b 1) a).bind fun l=>jj J 0 6 0 (vG a e (!l) f b) (e72 J m vF [d]))) (bif !a then(qU m (S b 0)).bind fun n=>cond (!n) (jj J 0 6 0 (vG a e true f b) (e72 J m vF [d])) ((qE m (fld b 1) a).bind fun o=>jj J 0 6 0 (vG a e (!o) f b) (e72 J m vF [d]))else(qE m (fld b 1) a).bind fun p=>jj J 0 6 0 (vG a e (!p) f b) (e72 J m vF [d]))) (fun J=>by kernel_rfl) (by simp only[ay,Y9 m d c h];rfl)
theorem SH m:e72 jn m [1,1] [] Y3=sQ m (qE m):=
 tre (g:=fun J=>some true) (fun J=>by kernel_rfl) (by rfl)
theorem IK m:∀a d b c,l72 jn m [1,0,1,0] [] a (mP d b c)=uZ m (qE m) a d b c
 |0,_,_,_=>rfl
 |a+1,d,b,c=>
  trl (g:=fun J=>cond (b<((L c 4).length:Int)) (jj J 0 4 0 (mP d b c) (e72 J m IG [a])) (jj J 0 12 0 Y3 (e72 J m [1,1] []))) (fun J=>by kernel_rfl) (by simp only[ay,Za m a (uZ m (qE m) a) (IK m a),SH m];rfl)
theorem Zb m a b c:e72 jn m [1,0,1] [] (mP a b c)=xU m (qE m) a b c:=
 tre (g:=fun J=>jj J 1 2 (succ m) (mP a b c) (l72 J m [1,0,1,0] [] (succ m))) (fun J=>by kernel_rfl) (by simp only[ay,IK m];rfl)
theorem arS m a b:e72 jn m [] [] ⟨[(.dat 26 a),(.dat 4 (.bool b))],[],0⟩=qI (m+1) a b:=
 tre (g:=fun J=>jj J 0 2 0 (mP b 0 a) (e72 J m [1,0,1] [])) (fun J=>by kernel_rfl) (by simp only[ay,Zb m];rfl)
noncomputable def e35(J:Nat->Nat->Nat->St->Option Bool->Option Bool)(m:Nat)(p ms:List Nat)(σ:St):=evAt Tryz.prog env (ct m) J (m+1) 18 15 Tryz.f18 d8 p ms σ
theorem arT m a:e35 jn m [] [] ⟨[(.dat 26 a)],[],0⟩=zV (m+1) a:=
 tre (g:=fun J=>(yA m a).bind fun b=>cond (b<=16) ((yE m a).bind fun c=>cond (c<=1024) ((qE m a true).bind fun d=>some d) (some false)) (some false)) (fun J=>by kernel_rfl) (by rfl)
def ai3:List Nat:=[1,1,1,0,1]
noncomputable def e5(J:Nat->Nat->Nat->St->Option (Dt×Bool)->Option (Dt×Bool))(m:Nat)(p ms:List Nat)(σ:St):=evAt Tryz.prog env (ct m) J (m+1) 30 43 Tryz.f30 d48 p ms σ
noncomputable def arU(a b:Dt):St:=⟨tsOf [(2,(.ptr 0 [] 0)),(4,(.ptr 1 [] 0))],[(.box 26 (.dat 26 a)),(.box 26 (.dat 26 b))],0⟩
noncomputable def ai4(a:Bool)(b c:Dt):St:=⟨tsOf [(2,(.ptr 0 [] 0)),(4,(.ptr 1 [] 0)),(40,(.dat 4 (.bool a)))],[(.box 26 (.dat 26 b)),(.box 26 (.dat 26 c))],0⟩
noncomputable def arV(a b:Dt):St:=⟨tsOf [(1,(.ptr 0 [] 0)),(2,(.ptr 1 [] 0))],[(.box 26 (.dat 26 a)),(.box 26 (.dat 26 b))],0⟩
noncomputable def ai5(a:Bool)(b c:Dt):St:=⟨tsOf [(1,(.ptr 0 [] 0)),(2,(.ptr 1 [] 0)),(21,(.dat 4 (.bool a)))],[(.box 26 (.dat 26 b)),(.box 26 (.dat 26 c))],0⟩
theorem Zc m b a:e5 jn m [1,1,1,1] [] (arU b a)=XK m b a:=
 tre (g:=fun J=>some (a,true)) (fun J=>by kernel_rfl) (by rfl)
theorem Zd m a b c:e5 jn m ai3 [] (ai4 a b c)=CJ m a b c:=
 tre (g:=fun J=>cond a (some (bg,false)) (jj J 0 6 0 (arU b c) (e5 J m [1,1,1,1] []))) (fun J=>by kernel_rfl) (by simp only[ay,Zc m];rfl)
theorem Ze m c b:e5 jn m [1,1] [] (arV c b)=OQ m c b:=
 tre (g:=fun J=>(idx (L c 4) 0).bind fun a=>cond (I (fld a 1) 0==6) (jj J 0 5 0 (ai4 true b (fld a 1)) (e5 J m ai3 [])) (cond (I (fld a 1) 0==1) (jj J 0 5 0 (ai4 true b (fld a 1)) (e5 J m ai3 [])) (jj J 0 5 0 (ai4 (I (fld a 1) 0==11) b (fld a 1)) (e5 J m ai3 [])))) (fun J=>by kernel_rfl) (by simp only[ay,Zd m];rfl)
theorem Zf m a b c:e5 jn m [1,0,1] [] (ai5 a b c)=xV m a b c:=
 tre (g:=fun J=>cond a (some (bg,false)) (jj J 0 3 0 (arV b c) (e5 J m [1,1] []))) (fun J=>by kernel_rfl) (by simp only[ay,Ze m];rfl)
theorem arW m a:e5 jn m [] [] ⟨[(.dat 26 a)],[],0⟩=zN (m+1) a:=
 tre (g:=fun J=>(zV m a).bind fun b=>cond (!b) (jj J 0 2 0 (ai5 true a bg) (e5 J m [1,0,1] [])) (bif ((L a 4).length:Int)==0 then jj J 0 2 0 (ai5 true a bg) (e5 J m [1,0,1] [])else(idx (L a 4) 0).bind fun c=>jj J 0 2 0 (ai5 (!(S c 0).toList==[95,105,100]) a bg) (e5 J m [1,0,1] []))) (fun J=>by kernel_rfl) (by simp only[ay,Zf m];rfl)
noncomputable def e42(J:Nat->Nat->Nat->St->Option Bool->Option Bool)(m:Nat)(p ms:List Nat)(σ:St):=evAt Tryz.prog env (ct m) J (m+1) 33 11 Tryz.f33 d8 p ms σ
theorem arX m a:e42 jn m [] [] ⟨[(.dat 26 a)],[],0⟩=zZ (m+1) a:=
 tre (g:=fun J=>cond (I a 0 !=5) (some true) ((zV m a).bind fun b=>some (!b))) (fun J=>by kernel_rfl) (by rfl)
def Zg:List Nat:=[1,0,1,0,0,1,1]
def alz:List Nat:=Zg++[1]
noncomputable def e41(J:Nat->Nat->Nat->St->Option Int->Option Int)(m:Nat)(p ms:List Nat)(σ:St):=evAt Tryz.prog env (ct m) J (m+1) 53 19 Tryz.f53 d36 p ms σ
noncomputable def l41(J:Nat->Nat->Nat->St->Option Int->Option Int)(m:Nat)(p ms:List Nat)(M:Nat)(σ:St):=loopAt Tryz.prog env (ct m) J (m+1) 53 19 Tryz.f53 d36 p ms M σ
noncomputable def mQ(a:List Dt)(b c:Int):St:=⟨tsOf [(0,(.dat 23 (.lst a))),(1,(.fn 33 [])),(7,(.dat 3 (.int b))),(8,(.dat 3 (.int c)))],[],0⟩
noncomputable def alA:St:=⟨tsOf [],[],0⟩
abbrev alB(m e:Nat)(a:List Dt->Int->Int->Option Int):Prop:=∀b c d,l41 jn m [1,0,1,0] [] e (mQ b c d)=a b c d
theorem SI m b a(f:alB m b a) c d e:e41 jn m alz [b] (mQ c d e)=MG m a c d e:=
 tre (g:=fun J=>jj J 1 2 b (mQ c d (wrap .i64 (e+1))) (l41 J m [1,0,1,0] [] b)) (fun J=>by kernel_rfl) (by simp only[ay,f];rfl)
theorem SN m c a(f:alB m c a) d e b:e41 jn m Zg [c] (mQ d e b)=MH m a d e b:=
 tre (g:=fun J=>(idx d b).bind fun h=>(zZ m h).bind fun i=>cond i (some b) (jj J 0 6 0 (mQ d e b) (e41 J m alz [c]))) (fun J=>by kernel_rfl) (by simp only[ay,SI m c a f];rfl)
theorem SQ m:e41 jn m [1,1] [] alA=XL m:=
 tre (g:=fun J=>some (-1)) (fun J=>by kernel_rfl) (by rfl)
theorem Du m:∀a d b c,l41 jn m [1,0,1,0] [] a (mQ d b c)=sS m a d b c
 |0,_,_,_=>rfl
 |a+1,d,b,c=>
  trl (g:=fun J=>cond (c<b) (jj J 0 3 0 (mQ d b c) (e41 J m Zg [a])) (jj J 0 7 0 alA (e41 J m [1,1] []))) (fun J=>by kernel_rfl) (by simp only[ay,SN m a (sS m a) (Du m a),SQ m];rfl)
theorem SV m a b c:e41 jn m [1,0,1] [] (mQ a b c)=XM m a b c:=
 tre (g:=fun J=>jj J 1 2 (succ m) (mQ a b c) (l41 J m [1,0,1,0] [] (succ m))) (fun J=>by kernel_rfl) (by simp only[ay,Du m];rfl)
theorem apd m a:e41 jn m [] [] ⟨[(.dat 23 (.lst a)),(.fn 33 [])],[],0⟩=i41 (m+1) a:=
 tre (g:=fun J=>jj J 0 2 0 (mQ a (a.length:Int) 0) (e41 J m [1,0,1] [])) (fun J=>by kernel_rfl) (by simp only[ay,SV m];rfl)
noncomputable def e40(J:Nat->Nat->Nat->St->Option Bool->Option Bool)(m:Nat)(p ms:List Nat)(σ:St):=evAt Tryz.prog env (ct m) J (m+1) 16 9 Tryz.f16 d8 p ms σ
theorem ape m a:e40 jn m [] [] ⟨[(.dat 23 (.lst a)),(.fn 33 [])],[],0⟩=i40 (m+1) a:=
 tre (g:=fun J=>(i41 m a).bind fun b=>some (decide (0<=b))) (fun J=>by kernel_rfl) (by rfl)
noncomputable def e12(J:Nat->Nat->Nat->St->Option Bool->Option Bool)(m:Nat)(p ms:List Nat)(σ:St):=evAt Tryz.prog env (ct m) J (m+1) 8 11 Tryz.f8 d8 p ms σ
theorem arY m a:e12 jn m [] [] ⟨[(.dat 23 (.lst a))],[],0⟩=z6 (m+1) a:=
 tre (g:=fun J=>bif (a.length:Int)<=30 then(i40 m a).bind fun b=>some (!b)else some false) (fun J=>by kernel_rfl) (by rfl)
def Py:List Nat:=[1,1,0,1,0]
def Pz:List Nat:=[1,1,0,1,0,0,1,1]
def alC:List Nat:=Pz++[1]
def PD:List Nat:=Pz++[0,0,1,1]
noncomputable def e88(J:Nat->Nat->Nat->St->Option Bool->Option Bool)(m:Nat)(p ms:List Nat)(σ:St):=evAt Tryz.prog env (ct m) J (m+1) 238 39 Tryz.f238 d8 p ms σ
noncomputable def l88(J:Nat->Nat->Nat->St->Option Bool->Option Bool)(m:Nat)(p ms:List Nat)(M:Nat)(σ:St):=loopAt Tryz.prog env (ct m) J (m+1) 238 39 Tryz.f238 d8 p ms M σ
noncomputable def mR(a:ByteArray)(b c:Int):St:=⟨tsOf [(0,(.dat 9 (.str a))),(18,(.dat 3 (.int b))),(19,(.dat 3 (.int c)))],[],0⟩
noncomputable def PE(a:ByteArray)(b c:Int)(d:Bool):St:=⟨tsOf [(0,(.dat 9 (.str a))),(18,(.dat 3 (.int b))),(19,(.dat 3 (.int c))),(37,(.dat 4 (.bool d)))],[],0⟩
noncomputable def alD:St:=⟨tsOf [],[],0⟩
noncomputable def alE(a:ByteArray):St:=⟨tsOf [(0,(.dat 9 (.str a)))],[],0⟩
noncomputable def PG(a:ByteArray)(b:Bool):St:=⟨tsOf [(0,(.dat 9 (.str a))),(16,(.dat 4 (.bool b)))],[],0⟩
abbrev Zh(m e:Nat)(a:ByteArray->Int->Int->Option Bool):Prop:=∀b c d,l88 jn m Py [] e (mR b c d)=a b c d
theorem Zi m b a(f:Zh m b a) c d e:e88 jn m alC [b] (mR c d e)=xW m a c d e:=
 tre (g:=fun J=>jj J 1 4 b (mR c d (wrap .i64 (e+1))) (l88 J m Py [] b)) (fun J=>by kernel_rfl) (by simp only[ay,f];rfl)
theorem Zj m b a(h:Zh m b a) c d e f:e88 jn m PD [b] (PE c d e f)=pV m a c d e f:=
 tre (g:=fun J=>cond f (some false) (jj J 0 8 0 (mR c d e) (e88 J m alC [b]))) (fun J=>by kernel_rfl) (by simp only[ay,Zi m b a h];rfl)
theorem Zk m d a(f:Zh m d a) b e c:e88 jn m Pz [d] (mR b e c)=xX m a b e c:=
 tre (g:=fun J=>(idxS b c).bind fun h=>cond (h<33) (jj J 0 7 0 (PE b e c true) (e88 J m PD [d])) ((idxS b c).bind fun i=>cond (126<i) (jj J 0 7 0 (PE b e c true) (e88 J m PD [d])) ((idxS b c).bind fun j=>jj J 0 7 0 (PE b e c (j==46)) (e88 J m PD [d])))) (fun J=>by kernel_rfl) (by simp only[ay,Zj m d a f];rfl)
theorem Zl m:e88 jn m [1,1,1] [] alD=xY m:=
 tre (g:=fun J=>some true) (fun J=>by kernel_rfl) (by rfl)
theorem IL m:∀a d b c,l88 jn m Py [] a (mR d b c)=xZ m a d b c
 |0,_,_,_=>rfl
 |a+1,d,b,c=>
  trl (g:=fun J=>cond (c<b) (jj J 0 5 0 (mR d b c) (e88 J m Pz [a])) (jj J 0 9 0 alD (e88 J m [1,1,1] []))) (fun J=>by kernel_rfl) (by simp only[ay,Zk m a (xZ m a) (IL m a),Zl m];rfl)
theorem Zm m a b c:e88 jn m [1,1,0,1] [] (mR a b c)=yc m a b c:=
 tre (g:=fun J=>jj J 1 4 (succ m) (mR a b c) (l88 J m Py [] (succ m))) (fun J=>by kernel_rfl) (by simp only[ay,IL m];rfl)
theorem Zn m a:e88 jn m [1,1] [] (alE a)=yg m a:=
 tre (g:=fun J=>jj J 0 4 0 (mR a (a.size:Int) 0) (e88 J m [1,1,0,1] [])) (fun J=>by kernel_rfl) (by simp only[ay,Zm m];rfl)
theorem Zo m a b:e88 jn m [1,0,1] [] (PG a b)=pW m a b:=
 tre (g:=fun J=>cond b (some false) (jj J 0 3 0 (alE a) (e88 J m [1,1] []))) (fun J=>by kernel_rfl) (by simp only[ay,Zn m];rfl)
theorem arZ m a:e88 jn m [] [] ⟨[(.dat 9 (.str a))],[],0⟩=qM (m+1) a:=
 tre (g:=fun J=>cond ((a.size:Int)<1) (jj J 0 2 0 (PG a true) (e88 J m [1,0,1] [])) (bif 32<(a.size:Int)then jj J 0 2 0 (PG a true) (e88 J m [1,0,1] [])else(idxS a 0).bind fun b=>jj J 0 2 0 (PG a (b==36)) (e88 J m [1,0,1] []))) (fun J=>by kernel_rfl) (by simp only[ay,Zo m];rfl)
def alF:List Nat:=[1,1,1,1,1]
def Dv:List Nat:=[1,1,1,0,1]
def alG:List Nat:=[1,1,1,1,1,1]
def Dw:List Nat:=[1,1,1,1,0,1]
def Ak:List Nat:=[1,1,1,1,1,0,1,0,1]
def alH:List Nat:=Ak++[1,1,1,1,1,1,1,1,1,1,1,1,0,1]
def Zp:List Nat:=Ak++[1,1,1,1,1,1,1,1,1,1,1,1,0,0,1]
def IQ:List Nat:=Zp++[0]
def Zq:List Nat:=IQ++[0,1,1]
def alI:List Nat:=Zq++[1]
noncomputable def e65(J:Nat->Nat->Nat->St->Option Bool->Option Bool)(m:Nat)(p ms:List Nat)(σ:St):=evAt Tryz.prog env (ct m) J (m+1) 171 132 Tryz.f171 d8 p ms σ
noncomputable def l65(J:Nat->Nat->Nat->St->Option Bool->Option Bool)(m:Nat)(p ms:List Nat)(M:Nat)(σ:St):=loopAt Tryz.prog env (ct m) J (m+1) 171 132 Tryz.f171 d8 p ms M σ
noncomputable def jd(a:List Dt)(b c:Int):St:=⟨tsOf [(117,(.dat 23 (.lst a))),(118,(.dat 3 (.int b))),(119,(.dat 3 (.int c)))],[],0⟩
noncomputable def FQ:St:=⟨tsOf [],[],0⟩
noncomputable def IU(a:Int)(b:Bool)(c:Dt):St:=⟨tsOf [(1,(.ptr 0 [] 0)),(70,(.dat 3 (.int a))),(71,(.dat 4 (.bool b)))],[(.box 26 (.dat 26 c))],0⟩
noncomputable def PI(a:Dt):St:=⟨tsOf [(1,(.ptr 0 [] 0))],[(.box 26 (.dat 26 a))],0⟩
noncomputable def Dx(a:Bool)(b:Dt):St:=⟨tsOf [(1,(.ptr 0 [] 0)),(68,(.dat 4 (.bool a)))],[(.box 26 (.dat 26 b))],0⟩
noncomputable def Dy(a:Bool)(b:Dt):St:=⟨tsOf [(1,(.ptr 0 [] 0)),(48,(.dat 4 (.bool a)))],[(.box 26 (.dat 26 b))],0⟩
noncomputable def PK(a b:Bool)(c:Dt):St:=⟨tsOf [(1,(.ptr 0 [] 0)),(3,(.dat 4 (.bool a))),(4,(.dat 4 (.bool b)))],[(.box 26 (.dat 26 c))],0⟩
noncomputable def PL(a:Bool)(b:Dt):St:=⟨tsOf [(1,(.ptr 0 [] 0)),(3,(.dat 4 (.bool a)))],[(.box 26 (.dat 26 b))],0⟩
abbrev alJ(m e:Nat)(a:List Dt->Int->Int->Option Bool):Prop:=∀b c d,l65 jn m IQ [] e (jd b c d)=a b c d
theorem SX m b a(f:alJ m b a) c d e:e65 jn m alI [b] (jd c d e)=ES m (qD m) (qK m) a c d e:=
 tre (g:=fun J=>jj J 1 25 b (jd c d (wrap .i64 (e+1))) (l65 J m IQ [] b)) (fun J=>by kernel_rfl) (by simp only[ay,f];rfl)
theorem Zr m b a(f:alJ m b a) c e d:e65 jn m Zq [b] (jd c e d)=OT m (qD m) (qK m) a c e d:=
 tre (g:=fun J=>(idx c d).bind fun h=>(qD m h).bind fun i=>cond (!i) (some false) (jj J 0 29 0 (jd c e d) (e65 J m alI [b]))) (fun J=>by kernel_rfl) (by simp only[ay,SX m b a f];rfl)
theorem SY m:e65 jn m alH [] FQ=ET m (qD m) (qK m):=
 tre (g:=fun J=>some true) (fun J=>by kernel_rfl) (by rfl)
theorem IV m:∀a d b c,l65 jn m IQ [] a (jd d b c)=yh m (qD m) (qK m) a d b c
 |0,_,_,_=>rfl
 |a+1,d,b,c=>
  trl (g:=fun J=>cond (c<b) (jj J 0 26 0 (jd d b c) (e65 J m Zq [a])) (jj J 0 30 0 FQ (e65 J m alH []))) (fun J=>by kernel_rfl) (by simp only[ay,Zr m a (yh m (qD m) (qK m) a) (IV m a),SY m];rfl)
theorem Zt m a b c:e65 jn m Zp [] (jd a b c)=GY m (qD m) (qK m) a b c:=
 tre (g:=fun J=>jj J 1 25 (succ m) (jd a b c) (l65 J m IQ [] (succ m))) (fun J=>by kernel_rfl) (by simp only[ay,IV m];rfl)
theorem S9 m:e65 jn m alG [] FQ=yj m (qD m) (qK m):=
 tre (g:=fun J=>some false) (fun J=>by kernel_rfl) (by rfl)
theorem Zu m b c a:e65 jn m Ak [] (IU b c a)=mJ m (qD m) (qK m) b c a:=
 tre (g:=fun J=>cond c (some true) (cond (b==9) (cond (I a 1==0) (some true) (some (I a 1==1))) (cond (b==10) (some (decide (0<=I a 1))) (cond (b==4) (cond (((S a 2).size:Int)<=4096) ((utf8_ValidString (S a 2)).bind fun d=>some d) (some false)) (cond (b==7) (some (decide (((S a 2).size:Int)<=4096))) (cond (b==8) (some (((S a 2).size:Int)==12)) (cond (b==6) (jj J 0 25 0 (jd (L a 3) ((L a 3).length:Int) 0) (e65 J m Zp [])) (cond (b==5) ((qK m (L a 4)).bind fun e=>some e) (jj J 0 33 0 FQ (e65 J m alG [])))))))))) (fun J=>by kernel_rfl) (by simp only[ay,Zt m,S9 m];rfl)
theorem Zv m a:e65 jn m alF [] (PI a)=yt m (qD m) (qK m) a:=
 tre (g:=fun J=>cond (I a 0==1) (jj J 0 12 0 (IU (I a 0) (I a 0==1) a) (e65 J m Ak [])) (cond (I a 0==2) (jj J 0 12 0 (IU (I a 0) (I a 0==2) a) (e65 J m Ak [])) (cond (I a 0==11) (jj J 0 12 0 (IU (I a 0) (I a 0==11) a) (e65 J m Ak [])) (jj J 0 12 0 (IU (I a 0) (I a 0==3) a) (e65 J m Ak []))))) (fun J=>by kernel_rfl) (by simp only[ay,Zu m];rfl)
theorem Zw m a b:e65 jn m Dw [] (Dx a b)=pX m (qD m) (qK m) a b:=
 tre (g:=fun J=>cond a (some false) (jj J 0 7 0 (PI b) (e65 J m alF []))) (fun J=>by kernel_rfl) (by simp only[ay,Zv m];rfl)
theorem Zx m a:e65 jn m [1,1,1,1] [] (PI a)=yu m (qD m) (qK m) a:=
 tre (g:=fun J=>cond (I a 0 !=6) (cond (0<((L a 3).length:Int)) (jj J 0 6 0 (Dx true a) (e65 J m Dw [])) (cond (I a 0 !=5) (jj J 0 6 0 (Dx (decide (0<((L a 4).length:Int))) a) (e65 J m Dw [])) (jj J 0 6 0 (Dx false a) (e65 J m Dw [])))) (cond (I a 0 !=5) (jj J 0 6 0 (Dx (decide (0<((L a 4).length:Int))) a) (e65 J m Dw [])) (jj J 0 6 0 (Dx false a) (e65 J m Dw [])))) (fun J=>by kernel_rfl) (by simp only[ay,Zw m];rfl)
theorem Zy m a b:e65 jn m Dv [] (Dy a b)=pY m (qD m) (qK m) a b:=
 tre (g:=fun J=>cond a (some false) (jj J 0 5 0 (PI b) (e65 J m [1,1,1,1] []))) (fun J=>by kernel_rfl) (by simp only[ay,Zx m];rfl)
theorem Zz m c b a:e65 jn m [1,1,1] [] (PK c b a)=p8 m (qD m) (qK m) c b a:=
 tre (g:=fun J=>cond (!c) (cond (I a 1 !=0) (jj J 0 4 0 (Dy true a) (e65 J m Dv [])) (cond (!b) (jj J 0 4 0 (Dy (!(S a 2).toList==[]) a) (e65 J m Dv [])) (jj J 0 4 0 (Dy false a) (e65 J m Dv [])))) (cond (!b) (jj J 0 4 0 (Dy (!(S a 2).toList==[]) a) (e65 J m Dv [])) (jj J 0 4 0 (Dy false a) (e65 J m Dv [])))) (fun J=>by kernel_rfl) (by simp only[ay,Zy m];rfl)
theorem ZA m b a:e65 jn m [1,1] [] (PL b a)=p9 m (qD m) (qK m) b a:=
 tre (g:=fun J=>cond (I a 0==4) (jj J 0 3 0 (PK b true a) (e65 J m [1,1,1] [])) (cond (I a 0==7) (jj J 0 3 0 (PK b true a) (e65 J m [1,1,1] [])) (jj J 0 3 0 (PK b (I a 0==8) a) (e65 J m [1,1,1] [])))) (fun J=>by kernel_rfl) (by simp only[ay,Zz m];rfl)
theorem ar0 m a:e65 jn m [] [] ⟨[(.dat 26 a)],[],0⟩=qD (m+1) a:=
 tre (g:=fun J=>cond (I a 0==3) (jj J 0 2 0 (PL true a) (e65 J m [1,1] [])) (cond (I a 0==9) (jj J 0 2 0 (PL true a) (e65 J m [1,1] [])) (jj J 0 2 0 (PL (I a 0==10) a) (e65 J m [1,1] [])))) (fun J=>by kernel_rfl) (by simp only[ay,ZA m];rfl)
def PN:List Nat:=[1,1,0,1,0]
def IW:List Nat:=[1,1,0,1,0,0,1,1]
def alK:List Nat:=IW++[1]
def alL:List Nat:=IW++[0,0,1,1]
def PO:List Nat:=IW++[0,0,1,0,1]
noncomputable def e77(J:Nat->Nat->Nat->St->Option Bool->Option Bool)(m:Nat)(p ms:List Nat)(σ:St):=evAt Tryz.prog env (ct m) J (m+1) 221 33 Tryz.f221 d8 p ms σ
noncomputable def l77(J:Nat->Nat->Nat->St->Option Bool->Option Bool)(m:Nat)(p ms:List Nat)(M:Nat)(σ:St):=loopAt Tryz.prog env (ct m) J (m+1) 221 33 Tryz.f221 d8 p ms M σ
noncomputable def mU(a:List Dt)(b c:Int)(d:List Dt):St:=⟨tsOf [(3,(.row 0)),(7,(.dat 24 (.lst a))),(8,(.dat 3 (.int b))),(9,(.dat 3 (.int c)))],[(.map 223 d)],0⟩
noncomputable def alM(a:List Dt)(b c:Int)(d:List Dt)(e:Dt):St:=⟨tsOf [(3,(.row 0)),(5,(.ptr 1 [] 0)),(7,(.dat 24 (.lst a))),(8,(.dat 3 (.int b))),(9,(.dat 3 (.int c)))],[(.map 223 d),(.box 48 (.dat 48 e))],0⟩
noncomputable def PS(a:List Dt)(b c:Int)(d:Bool)(e:List Dt)(f:Dt):St:=⟨tsOf [(3,(.row 0)),(5,(.ptr 1 [] 0)),(7,(.dat 24 (.lst a))),(8,(.dat 3 (.int b))),(9,(.dat 3 (.int c))),(28,(.dat 4 (.bool d)))],[(.map 223 e),(.box 48 (.dat 48 f))],0⟩
noncomputable def alN:St:=⟨tsOf [],[],0⟩
abbrev PU(m f:Nat)(a:List Dt->Int->Int->List Dt->Option Bool):Prop:=∀b c d e,l77 jn m PN [] f (mU b c d e)=a b c d e
theorem ZB m b a(h:PU m b a) c d e f:e77 jn m alK [b] (mU c d e f)=GZ m (qD m) a c d e f:=
 tre (g:=fun J=>jj J 1 3 b (mU c d (wrap .i64 (e+1)) f) (l77 J m PN [] b)) (fun J=>by kernel_rfl) (by simp only[ay,h];rfl)
theorem ZC m b a(i:PU m b a) c d e f h:e77 jn m alL [b] (alM c d e f h)=G5 m (qD m) a c d e f h:=
 tre (g:=fun J=>jj J 0 8 0 (mU c d e (mput f (S h 0) (bool true))) (e77 J m alK [b])) (fun J=>by kernel_rfl) (by simp only[ay,ZB m b a i];rfl)
theorem ZE m b a(j:PU m b a) c d e f h i:e77 jn m PO [b] (PS c d e f h i)=yw m (qD m) a c d e f h i:=
 tre (g:=fun J=>cond f (some false) (jj J 0 7 0 (alM c d e h i) (e77 J m alL [b]))) (fun J=>by kernel_rfl) (by simp only[ay,ZC m b a j];rfl)
theorem ZF m b a(i:PU m b a) c h d e:e77 jn m IW [b] (mU c h d e)=G6 m (qD m) a c h d e:=
 tre (g:=fun J=>(idx c d).bind fun f=>(qM m (S f 0)).bind fun j=>cond (!j) (jj J 0 6 0 (PS c h d true e f) (e77 J m PO [b])) (bif Dt.toBool (mgetD e (S f 0) (bool false))then jj J 0 6 0 (PS c h d true e f) (e77 J m PO [b])else(qD m (fld f 1)).bind fun k=>jj J 0 6 0 (PS c h d (!k) e f) (e77 J m PO [b]))) (fun J=>by kernel_rfl) (by simp only[ay,ZE m b a i];rfl)
theorem ZG m:e77 jn m [1,1,1] [] alN=G7 m (qD m):=
 tre (g:=fun J=>some true) (fun J=>by kernel_rfl) (by rfl)
theorem IX m:∀a d b c e,l77 jn m PN [] a (mU d b c e)=CK m (qD m) a d b c e
 |0,_,_,_,_=>rfl
 |a+1,d,b,c,e=>
  trl (g:=fun J=>cond (c<b) (jj J 0 4 0 (mU d b c e) (e77 J m IW [a])) (jj J 0 9 0 alN (e77 J m [1,1,1] []))) (fun J=>by kernel_rfl) (by simp only[ay,ZF m a (CK m (qD m) a) (IX m a),ZG m];rfl)
theorem ZH m a b c d:e77 jn m [1,1,0,1] [] (mU a b c d)=G8 m (qD m) a b c d:=
 tre (g:=fun J=>jj J 1 3 (succ m) (mU a b c d) (l77 J m PN [] (succ m))) (fun J=>by kernel_rfl) (by simp only[ay,IX m];rfl)
theorem ar1 m a:e77 jn m [] [] ⟨[(.dat 24 (.lst a))],[],0⟩=qK (m+1) a:=
 tre (g:=fun J=>jj J 0 3 0 (mU a (a.length:Int) 0 []) (e77 J m [1,1,0,1] [])) (fun J=>by kernel_rfl) (by simp only[ay,ZH m];rfl)
noncomputable def e49(J:Nat->Nat->Nat->St->Option Bool->Option Bool)(m:Nat)(p ms:List Nat)(σ:St):=evAt Tryz.prog env (ct m) J (m+1) 122 15 Tryz.f122 d8 p ms σ
theorem ar3 m a:e49 jn m [] [] ⟨[(.dat 26 a)],[],0⟩=zW (m+1) a:=
 tre (g:=fun J=>(yC m a).bind fun b=>cond (b<=1024) ((yD m a).bind fun c=>cond (c<=16) ((qD m a).bind fun d=>some d) (some false)) (some false)) (fun J=>by kernel_rfl) (by rfl)
noncomputable def e47(J:Nat->Nat->Nat->St->Option (ByteArray×Int)->Option (ByteArray×Int))(m:Nat)(p ms:List Nat)(σ:St):=evAt Tryz.prog env (ct m) J (m+1) 137 10 Tryz.f137 d47 p ms σ
noncomputable def alO(a:Dt):St:=⟨tsOf [(1,(.ptr 0 [] 0))],[(.box 26 (.dat 26 a))],0⟩
theorem ZI m a:e47 jn m [1,1] [] (alO a)=XP m a:=
 tre (g:=fun J=>(i59 m a []).bind fun b=>(cond (Nat.ble b.length 137438953472) (Option.some (strOfNums (List.map toInt b))) Option.none).bind fun c=>some (c,0)) (fun J=>by kernel_rfl) (by rfl)
theorem ar4 m a:e47 jn m [] [] ⟨[(.dat 26 a)],[],0⟩=zP (m+1) a:=
 tre (g:=fun J=>(zW m a).bind fun b=>cond (!b) (some (ByteArray.mk (List.toArray []),8)) (jj J 0 3 0 (alO a) (e47 J m [1,1] []))) (fun J=>by kernel_rfl) (by simp only[ay,ZI m];rfl)
def PV:List Nat:=[1,1,0,1,0]
def PW:List Nat:=[1,1,0,1,0,0,1,1]
def alP:List Nat:=PW++[1]
def ZJ:List Nat:=PW++[0,0,1,1,1]
noncomputable def e21(J:Nat->Nat->Nat->St->Option ByteArray->Option ByteArray)(m:Nat)(p ms:List Nat)(σ:St):=evAt Tryz.prog env (ct m) J (m+1) 100 26 Tryz.f100 d21 p ms σ
noncomputable def l21(J:Nat->Nat->Nat->St->Option ByteArray->Option ByteArray)(m:Nat)(p ms:List Nat)(M:Nat)(σ:St):=loopAt Tryz.prog env (ct m) J (m+1) 100 26 Tryz.f100 d21 p ms M σ
noncomputable def mV(a:ByteArray)(b:List Dt)(c d:Int):St:=⟨tsOf [(3,(.dat 9 (.str a))),(8,(.dat 23 (.lst b))),(9,(.dat 3 (.int c))),(10,(.dat 3 (.int d)))],[],0⟩
noncomputable def ZK(a b:ByteArray)(c:List Dt)(d e:Int):St:=⟨tsOf [(3,(.dat 9 (.str a))),(6,(.dat 9 (.str b))),(8,(.dat 23 (.lst c))),(9,(.dat 3 (.int d))),(10,(.dat 3 (.int e)))],[],0⟩
noncomputable def alQ(a:ByteArray):St:=⟨tsOf [(3,(.dat 9 (.str a)))],[],0⟩
abbrev ZL(m f:Nat)(a:ByteArray->List Dt->Int->Int->Option ByteArray):Prop:=∀b c d e,l21 jn m PV [] f (mV b c d e)=a b c d e
theorem ZM m b a(h:ZL m b a) c d e f:e21 jn m alP [b] (mV c d e f)=ala m a c d e f:=
 tre (g:=fun J=>jj J 1 3 b (mV c d e (wrap .i64 (f+1))) (l21 J m PV [] b)) (fun J=>by kernel_rfl) (by simp only[ay,h];rfl)
theorem ZN m b a(i:ZL m b a) c d e f h:e21 jn m ZJ [b] (ZK c d e f h)=G9 m a c d e f h:=
 tre (g:=fun J=>cond (Nat.ble (c.size+d.size) 1152921504606846976) (jj J 0 9 0 (mV (c++d) e f h) (e21 J m alP [b])) none) (fun J=>by kernel_rfl) (by simp only[ay,ZM m b a i];rfl)
theorem ZO m b a(i:ZL m b a) e c f d:e21 jn m PW [b] (mV e c f d)=OU m a e c f d:=
 tre (g:=fun J=>(idx c d).bind fun j=>(zP m j).bind fun h=>cond (h.2 !=0) (jj J 0 8 0 (ZK e (ByteArray.mk (List.toArray [63])) c f d) (e21 J m ZJ [b])) (jj J 0 8 0 (ZK e h.1 c f d) (e21 J m ZJ [b]))) (fun J=>by kernel_rfl) (by simp only[ay,ZN m b a i];rfl)
theorem ZP m a:e21 jn m [1,1,1] [] (alQ a)=alb m a:=
 tre (g:=fun J=>some a) (fun J=>by kernel_rfl) (by rfl)
theorem IY m:∀a b e c d,l21 jn m PV [] a (mV b e c d)=yx m a b e c d
 |0,_,_,_,_=>rfl
 |a+1,b,e,c,d=>
  trl (g:=fun J=>cond (d<c) (jj J 0 4 0 (mV b e c d) (e21 J m PW [a])) (jj J 0 10 0 (alQ b) (e21 J m [1,1,1] []))) (fun J=>by kernel_rfl) (by simp only[ay,ZO m a (yx m a) (IY m a),ZP m];rfl)
theorem ZQ m a b c d:e21 jn m [1,1,0,1] [] (mV a b c d)=alc m a b c d:=
 tre (g:=fun J=>jj J 1 3 (succ m) (mV a b c d) (l21 J m PV [] (succ m))) (fun J=>by kernel_rfl) (by simp only[ay,IY m];rfl)
theorem ar5 m a:e21 jn m [] [] ⟨[(.dat 23 (.lst a))],[],0⟩=qY (m+1) a:=
 tre (g:=fun J=>jj J 0 3 0 (mV (ByteArray.mk (List.toArray [])) a (a.length:Int) 0) (e21 J m [1,1,0,1] [])) (fun J=>by kernel_rfl) (by simp only[ay,ZQ m];rfl)
def PX:List Nat:=[1,1,0,1,0]
def ZR:List Nat:=[1,1,0,1,0,0,1,1]
def ZT:List Nat:=ZR++[1]
noncomputable def e19(J:Nat->Nat->Nat->St->Option ByteArray->Option ByteArray)(m:Nat)(p ms:List Nat)(σ:St):=evAt Tryz.prog env (ct m) J (m+1) 99 45 Tryz.f99 d21 p ms σ
noncomputable def l19(J:Nat->Nat->Nat->St->Option ByteArray->Option ByteArray)(m:Nat)(p ms:List Nat)(M:Nat)(σ:St):=loopAt Tryz.prog env (ct m) J (m+1) 99 45 Tryz.f99 d21 p ms M σ
noncomputable def kX(a:List Dt)(b c:Int)(d:Dt)(e:List Dt):St:=⟨tsOf [(3,(.ptr 0 [] 0)),(5,(.row 1)),(19,(.dat 49 (.lst a))),(20,(.dat 3 (.int b))),(21,(.dat 3 (.int c)))],[(.box 26 (.dat 26 d)),(.row 23 e)],0⟩
noncomputable def alR(a:List Dt):St:=⟨tsOf [(5,(.row 0))],[(.row 23 a)],0⟩
abbrev alS(m g:Nat)(a:List Dt->Int->Int->Dt->List Dt->Option ByteArray):Prop:=∀b c d e f,l19 jn m PX [] g (kX b c d e f)=a b c d e f
theorem Ta m b a(i:alS m b a) c d e f h:e19 jn m ZT [b] (kX c d e f h)=EU m a c d e f h:=
 tre (g:=fun J=>jj J 1 3 b (kX c d (wrap .i64 (e+1)) f h) (l19 J m PX [] b)) (fun J=>by kernel_rfl) (by simp only[ay,i];rfl)
theorem Tc m e b(j:alS m e b) f i a h c:e19 jn m ZR [e] (kX f i a h c)=EW m b f i a h c:=
 tre (g:=fun J=>(idx f a).bind fun k=>(zJ m h (toLst k)).bind fun d=>(inL c a).bind fun n=>(c[a.toNat]?).bind fun o=>(inL (List.set c a.toNat d) a).bind fun p=>((List.set c a.toNat d)[a.toNat]?).bind fun l=>cond (I l 0==0) ((inL (List.set c a.toNat d) a).bind fun q=>((List.set c a.toNat d)[a.toNat]?).bind fun r=>jj J 0 8 0 (kX f i a h (List.set (List.set c a.toNat d) a.toNat Om)) (e19 J m ZT [e])) (jj J 0 8 0 (kX f i a h (List.set c a.toNat d)) (e19 J m ZT [e]))) (fun J=>by kernel_rfl) (by simp only[ay,Ta m e b j];rfl)
theorem Td m a:e19 jn m [1,1,1] [] (alR a)=XQ m a:=
 tre (g:=fun J=>(qY m a).bind fun b=>some b) (fun J=>by kernel_rfl) (by rfl)
theorem Dz m:∀a e b c f d,l19 jn m PX [] a (kX e b c f d)=iX m a e b c f d
 |0,_,_,_,_,_=>rfl
 |a+1,e,b,c,f,d=>
  trl (g:=fun J=>cond (c<b) (jj J 0 4 0 (kX e b c f d) (e19 J m ZR [a])) (jj J 0 9 0 (alR d) (e19 J m [1,1,1] []))) (fun J=>by kernel_rfl) (by simp only[ay,Tc m a (iX m a) (Dz m a),Td m];rfl)
theorem Tf m a b c d e:e19 jn m [1,1,0,1] [] (kX a b c d e)=XR m a b c d e:=
 tre (g:=fun J=>jj J 1 3 (succ m) (kX a b c d e) (l19 J m PX [] (succ m))) (fun J=>by kernel_rfl) (by simp only[ay,Dz m];rfl)
theorem apf m a b:e19 jn m [] [] ⟨[(.rptr 114 a),(.dat 26 b)],[],0⟩=i19 (m+1) a b:=
 tre (g:=fun J=>(mkL ((L (fld a 0) 1).length:Int) ((L (fld a 0) 1).length:Int) bg).bind fun c=>jj J 0 3 0 (kX (L (fld a 0) 1) ((L (fld a 0) 1).length:Int) 0 b c) (e19 J m [1,1,0,1] [])) (fun J=>by kernel_rfl) (by simp only[ay,Tf m];rfl)
noncomputable def e18(J:Nat->Nat->Nat->St->Option (Dt×List Dt×List Dt×List Dt×List Dt)->Option (Dt×List Dt×List Dt×List Dt×List Dt))(m:Nat)(p ms:List Nat)(σ:St):=evAt Tryz.prog env (ct m) J (m+1) 68 49 Tryz.f68 d26 p ms σ
theorem apg m b c a d f e:e18 jn m [] [] ⟨[(.ptr 0 [] 0),(.dat 26 b)],[(.box 114 (.agg 114 [(.dat 51 c),(.row 1),(.row 2),(.row 3),(.row 4)])),(.row 112 a),(.map 110 d),(.map 111 f),(.row 54 e)],5⟩=i18 (m+1) b c a d f e:=
 tre (g:=fun J=>(i19 m (agg [c,lst a,lst [],lst [],lst e]) b).bind fun h=>(app a [agg [b,str h]]).bind fun i=>cond (mhas d h) none ((zL m b).bind fun j=>(qY m [j]).bind fun k=>some (c,mput d h (lst [int (a.length:Int)]),mput f k (int (a.length:Int)),i,e))) (fun J=>by kernel_rfl) (by rfl)
noncomputable def e29(J:Nat->Nat->Nat->St->Option (Dt×List Dt×List Dt×List Dt×List Dt)->Option (Dt×List Dt×List Dt×List Dt×List Dt))(m:Nat)(p ms:List Nat)(σ:St):=evAt Tryz.prog env (ct m) J (m+1) 142 58 Tryz.f142 d26 p ms σ
noncomputable def PY(a:ByteArray)(b:Dt)(c d e f:List Dt)(g:Int)(h:Dt):St:=⟨tsOf [(0,(.ptr 0 [] 0)),(4,(.ptr 7 [] 0)),(5,(.ptr 8 [] 0)),(7,(.dat 9 (.str a)))],[(.box 114 (.agg 114 [(.dat 51 b),(.row 5),(.row 2),(.row 3),(.row 6)])),.gone,(.map 110 c),(.map 111 d),.gone,(.row 112 e),(.row 54 f),(.box 3 (.dat 3 (.int g))),(.box 26 (.dat 26 h))],5⟩
theorem Tg m c d e f a h b i:e29 jn m [1,1,1] [] (PY c d e f a h b i)=yG m c d e f a h b i:=
 tre (g:=fun J=>(inL a b).bind fun j=>(a[b.toNat]?).bind fun k=>some (d,e,f,List.set a b.toNat (agg [i,str c]),h)) (fun J=>by kernel_rfl) (by rfl)
theorem aph m d f h b a j i:e29 jn m [] [] ⟨[(.ptr 0 [] 0),(.dat 3 (.int d)),(.dat 26 f)],[(.box 114 (.agg 114 [(.dat 51 h),(.row 1),(.row 2),(.row 3),(.row 4)])),(.row 112 b),(.map 110 a),(.map 111 j),(.row 54 i)],5⟩=i29 (m+1) d f h b a j i:=
 tre (g:=fun J=>(inL b d).bind fun n=>(b[d.toNat]?).bind fun e=>(i19 m (agg [h,lst b,lst [],lst [],lst i]) f).bind fun c=>cond (!(S e 1).toList==c.toList) (bif mhas a (S e 1)then(i30 m (toLst (mgetD a (S e 1) (lst []))) d).bind fun k=>cond (mhas (mput a (S e 1) (lst k.1)) c) none (jj J 0 5 0 (PY c h (mput (mput a (S e 1) (lst k.1)) c (lst [int k.2])) j b i k.2 f) (e29 J m [1,1,1] []))else(i33 m [] d).bind fun l=>cond (mhas (mput a (S e 1) (lst l.1)) c) none (jj J 0 5 0 (PY c h (mput (mput a (S e 1) (lst l.1)) c (lst [int l.2])) j b i l.2 f) (e29 J m [1,1,1] []))) (jj J 0 5 0 (PY c h a j b i d f) (e29 J m [1,1,1] []))) (fun J=>by kernel_rfl) (by simp only[ay,Tg m];rfl)
noncomputable def e50(J:Nat->Nat->Nat->St->Option (Int×Int)->Option (Int×Int))(m:Nat)(p ms:List Nat)(σ:St):=evAt Tryz.prog env (ct m) J (m+1) 193 9 Tryz.f193 d50 p ms σ
noncomputable def alT(a:Dt):St:=⟨tsOf [(1,(.ptr 0 [] 0))],[(.box 26 (.dat 26 a))],0⟩
theorem ZU m a:e50 jn m [1,1] [] (alT a)=XT m a:=
 tre (g:=fun J=>(qH m a).bind fun b=>some (b,0)) (fun J=>by kernel_rfl) (by rfl)
theorem ar6 m a:e50 jn m [] [] ⟨[(.dat 26 a)],[],0⟩=zR (m+1) a:=
 tre (g:=fun J=>(zW m a).bind fun b=>cond (!b) (some (0,8)) (jj J 0 3 0 (alT a) (e50 J m [1,1] []))) (fun J=>by kernel_rfl) (by simp only[ay,ZU m];rfl)
def alU:List Nat:=[1,1,1,1,1]
def alV:List Nat:=[1,1,1,1,1,1]
def PZ:List Nat:=[1,1,0,1,0,1]
noncomputable def e25(J:Nat->Nat->Nat->St->Option Int->Option Int)(m:Nat)(p ms:List Nat)(σ:St):=evAt Tryz.prog env (ct m) J (m+1) 139 47 Tryz.f139 d25 p ms σ
noncomputable def alW:St:=⟨tsOf [],[],0⟩
noncomputable def alX(a:Int):St:=⟨tsOf [(3,(.dat 3 (.int a)))],[],0⟩
noncomputable def P5(a:Dt):St:=⟨tsOf [(1,(.ptr 0 [] 0))],[(.box 26 (.dat 26 a))],0⟩
noncomputable def P6(a:Bool)(b:Dt):St:=⟨tsOf [(1,(.ptr 0 [] 0)),(33,(.dat 4 (.bool a)))],[(.box 26 (.dat 26 b))],0⟩
noncomputable def IZ(a:Bool)(b:Dt):St:=⟨tsOf [(1,(.ptr 0 [] 0)),(26,(.dat 4 (.bool a)))],[(.box 26 (.dat 26 b))],0⟩
theorem ZV m:e25 jn m alV [] alW=ald m:=
 tre (g:=fun J=>some 0) (fun J=>by kernel_rfl) (by rfl)
theorem ZW m a:e25 jn m alU [] (alX a)=OV m a:=
 tre (g:=fun J=>cond (16384<a) (some 2) (jj J 0 13 0 alW (e25 J m alV []))) (fun J=>by kernel_rfl) (by simp only[ay,ZV m];rfl)
theorem ZX m a:e25 jn m [1,1,1] [] (P5 a)=XU m a:=
 tre (g:=fun J=>(zR m a).bind fun b=>cond (b.2 !=0) (some b.2) (jj J 0 11 0 (alX b.1) (e25 J m alU []))) (fun J=>by kernel_rfl) (by simp only[ay,ZW m];rfl)
theorem ZY m a b:e25 jn m PZ [] (P6 a b)=CO m a b:=
 tre (g:=fun J=>cond a (some 8) (jj J 0 8 0 (P5 b) (e25 J m [1,1,1] []))) (fun J=>by kernel_rfl) (by simp only[ay,ZX m];rfl)
theorem Z0 m a:e25 jn m [1,1] [] (P5 a)=XV m a:=
 tre (g:=fun J=>(idx (L a 4) 0).bind fun b=>cond (I (fld b 1) 0==6) (jj J 0 7 0 (P6 (I (fld b 1) 0==6) a) (e25 J m PZ [])) (cond (I (fld b 1) 0==1) (jj J 0 7 0 (P6 (I (fld b 1) 0==1) a) (e25 J m PZ [])) (jj J 0 7 0 (P6 (I (fld b 1) 0==11) a) (e25 J m PZ [])))) (fun J=>by kernel_rfl) (by simp only[ay,ZY m];rfl)
theorem Z4 m a b:e25 jn m [1,0,1] [] (IZ a b)=yH m a b:=
 tre (g:=fun J=>cond a (some 8) (jj J 0 3 0 (P5 b) (e25 J m [1,1] []))) (fun J=>by kernel_rfl) (by simp only[ay,Z0 m];rfl)
theorem ar7 m a:e25 jn m [] [] ⟨[(.dat 26 a)],[],0⟩=qT (m+1) a:=
 tre (g:=fun J=>(zW m a).bind fun b=>cond (!b) (jj J 0 2 0 (IZ true a) (e25 J m [1,0,1] [])) (cond (I a 0 !=5) (jj J 0 2 0 (IZ true a) (e25 J m [1,0,1] [])) (bif ((L a 4).length:Int)==0 then jj J 0 2 0 (IZ true a) (e25 J m [1,0,1] [])else(idx (L a 4) 0).bind fun c=>jj J 0 2 0 (IZ (!(S c 0).toList==[95,105,100]) a) (e25 J m [1,0,1] [])))) (fun J=>by kernel_rfl) (by simp only[ay,Z4 m];rfl)
def Z5:List Nat:=[1,0,1,0,1,1,1,0,1]
def alY:List Nat:=Z5++[1]
noncomputable def e24(J:Nat->Nat->Nat->St->Option (Int×Dt×List Dt×List Dt×List Dt×List Dt)->Option (Int×Dt×List Dt×List Dt×List Dt×List Dt))(m:Nat)(p ms:List Nat)(σ:St):=evAt Tryz.prog env (ct m) J (m+1) 102 43 Tryz.f102 d24 p ms σ
noncomputable def Z6(a:Dt)(b c d e:List Dt):St:=⟨tsOf [(0,(.ptr 0 [] 0))],[(.box 114 (.agg 114 [(.dat 51 a),(.row 5),(.row 2),(.row 3),(.row 6)])),.gone,(.map 110 b),(.map 111 c),.gone,(.row 112 d),(.row 54 e)],5⟩
noncomputable def P7(a:Dt)(b c d e:List Dt)(f:Dt):St:=⟨tsOf [(0,(.ptr 0 [] 0)),(3,(.ptr 7 [] 0))],[(.box 114 (.agg 114 [(.dat 51 a),(.row 5),(.row 2),(.row 3),(.row 6)])),.gone,(.map 110 b),(.map 111 c),.gone,(.row 112 d),(.row 54 e),(.box 26 (.dat 26 f))],5⟩
theorem DC m a b c d e:e24 jn m [1,1] [] (Z6 a b c d e)=MI m a b c d e:=
 tre (g:=fun J=>some (0,a,b,c,d,e)) (fun J=>by kernel_rfl) (by rfl)
theorem Ti m d e f h i c:e24 jn m alY [] (P7 d e f h i c)=MJ m d e f h i c:=
 tre (g:=fun J=>(i26 m c bg d h e f i).bind fun a=>(qB m c).bind fun j=>(i18 m j a.1 a.2.2.2.1 a.2.1 a.2.2.1 a.2.2.2.2).bind fun b=>jj J 0 13 0 (Z6 b.1 b.2.1 b.2.2.1 b.2.2.2.1 b.2.2.2.2) (e24 J m [1,1] [])) (fun J=>by kernel_rfl) (by simp only[ay,DC m];rfl)
theorem Tj m b c a d e f:e24 jn m Z5 [] (P7 b c a d e f)=EX m b c a d e f:=
 tre (g:=fun J=>(zL m f).bind fun h=>(qY m [h]).bind fun i=>cond (mhas a i) (some (16,b,c,a,d,e)) (jj J 0 11 0 (P7 b c a d e f) (e24 J m alY []))) (fun J=>by kernel_rfl) (by simp only[ay,Ti m];rfl)
theorem apj m f a b c d e:e24 jn m [] [] ⟨[(.ptr 0 [] 0),(.dat 26 f)],[(.box 114 (.agg 114 [(.dat 51 a),(.row 1),(.row 2),(.row 3),(.row 4)])),(.row 112 b),(.map 110 c),(.map 111 d),(.row 54 e)],5⟩=i24 (m+1) f a b c d e:=
 tre (g:=fun J=>cond (I a 3==4) (some (15,a,c,d,b,e)) (cond (I a 3==5) ((qT m f).bind fun h=>cond (h !=0) (some (h,a,c,d,b,e)) (jj J 0 8 0 (P7 a c d b e f) (e24 J m Z5 []))) (jj J 0 13 0 (Z6 a c d b e) (e24 J m [1,1] [])))) (fun J=>by kernel_rfl) (by simp only[ay,Tj m,DC m];rfl)
def P8:List Nat:=[1,1,1,1,1]
def I4:List Nat:=[1,1,1,1,1,1]
def Z7:List Nat:=[1,1,1,0,1,0,1,0,1,1]
def I5:List Nat:=Z7++[0]
def Z8:List Nat:=[1,1,1,0,1,0,1,1,1,0,1,1]
def I6:List Nat:=Z8++[0]
def Z9:List Nat:=I5++[0,1,1]
def aac:List Nat:=Z9++[1]
def aad:List Nat:=I6++[0,1,1]
def aae:List Nat:=aad++[1]
noncomputable def e27(J:Nat->Nat->Nat->St->Option (Int×Dt×List Dt×List Dt×List Dt×List Dt)->Option (Int×Dt×List Dt×List Dt×List Dt×List Dt))(m:Nat)(p ms:List Nat)(σ:St):=evAt Tryz.prog env (ct m) J (m+1) 103 97 Tryz.f103 d24 p ms σ
noncomputable def l27(J:Nat->Nat->Nat->St->Option (Int×Dt×List Dt×List Dt×List Dt×List Dt)->Option (Int×Dt×List Dt×List Dt×List Dt×List Dt))(m:Nat)(p ms:List Nat)(M:Nat)(σ:St):=loopAt Tryz.prog env (ct m) J (m+1) 103 97 Tryz.f103 d24 p ms M σ
noncomputable def kY(f:Int)(g:List Dt)(h i:Int)(j:Dt)(k l m n:List Dt)(o:Dt)(a b:Int)(c:ByteArray)(d e:List Dt):St:=⟨tsOf [(0,(.ptr 0 [] 0)),(1,(.dat 3 (.int f))),(7,(.ptr 7 [] 0)),(8,(.ptr 8 [] 0)),(36,(.dat 24 (.lst g))),(37,(.dat 3 (.int h))),(38,(.dat 3 (.int i)))],[(.box 114 (.agg 114 [(.dat 51 j),(.row 5),(.row 2),(.row 3),(.row 6)])),.gone,(.map 110 k),(.map 111 l),.gone,(.row 112 m),(.row 54 n),(.box 26 (.dat 26 o)),(.box 26 (.agg 26 [(.dat 3 (.int a)),(.dat 3 (.int b)),(.dat 9 (.str c)),(.row 9),(.row 10)])),(.row 23 d),(.row 24 e)],5⟩
noncomputable def I7(a:Dt)(b c d e:List Dt):St:=⟨tsOf [(0,(.ptr 0 [] 0))],[(.box 114 (.agg 114 [(.dat 51 a),(.row 5),(.row 2),(.row 3),(.row 6)])),.gone,(.map 110 b),(.map 111 c),.gone,(.row 112 d),(.row 54 e)],5⟩
noncomputable def P9(c:Int)(d:Dt)(e f g h:List Dt)(i:Dt)(j k:Int)(l:ByteArray)(a b:List Dt):St:=⟨tsOf [(0,(.ptr 0 [] 0)),(1,(.dat 3 (.int c))),(7,(.ptr 7 [] 0)),(8,(.ptr 8 [] 0))],[(.box 114 (.agg 114 [(.dat 51 d),(.row 5),(.row 2),(.row 3),(.row 6)])),.gone,(.map 110 e),(.map 111 f),.gone,(.row 112 g),(.row 54 h),(.box 26 (.dat 26 i)),(.box 26 (.agg 26 [(.dat 3 (.int j)),(.dat 3 (.int k)),(.dat 9 (.str l)),(.row 9),(.row 10)])),(.row 23 a),(.row 24 b)],5⟩
noncomputable def iD(b:Int)(c:List Dt)(d e:Int)(f:Dt)(g h i j:List Dt)(k a:Dt):St:=⟨tsOf [(0,(.ptr 0 [] 0)),(1,(.dat 3 (.int b))),(7,(.ptr 7 [] 0)),(8,(.ptr 8 [] 0)),(62,(.dat 24 (.lst c))),(63,(.dat 3 (.int d))),(64,(.dat 3 (.int e)))],[(.box 114 (.agg 114 [(.dat 51 f),(.row 5),(.row 2),(.row 3),(.row 6)])),.gone,(.map 110 g),(.map 111 h),.gone,(.row 112 i),(.row 54 j),(.box 26 (.dat 26 k)),(.box 26 (.dat 26 a))],5⟩
noncomputable def FR(a:Int)(b:Dt)(c d e f:List Dt)(g h:Dt):St:=⟨tsOf [(0,(.ptr 0 [] 0)),(1,(.dat 3 (.int a))),(7,(.ptr 7 [] 0)),(8,(.ptr 8 [] 0))],[(.box 114 (.agg 114 [(.dat 51 b),(.row 5),(.row 2),(.row 3),(.row 6)])),.gone,(.map 110 c),(.map 111 d),.gone,(.row 112 e),(.row 54 f),(.box 26 (.dat 26 g)),(.box 26 (.dat 26 h))],5⟩
abbrev alZ(m r:Nat)(a:Int->List Dt->Int->Int->Dt->List Dt->List Dt->List Dt->List Dt->Dt->Int->Int->ByteArray->List Dt->List Dt->Option (Int×Dt×List Dt×List Dt×List Dt×List Dt)):Prop:=∀g h i j k l n o p q b c d e f,l27 jn m I5 [] r (kY g h i j k l n o p q b c d e f)=a g h i j k l n o p q b c d e f
theorem Tk m h a(t:alZ m h a) i j k l n o p q r s b c d e f:e27 jn m aac [h] (kY i j k l n o p q r s b c d e f)=yI m a i j k l n o p q r s b c d e f:=
 tre (g:=fun J=>jj J 1 8 h (kY i j k (wrap .i64 (l+1)) n o p q r s b c d e f) (l27 J m I5 [] h)) (fun J=>by kernel_rfl) (by simp only[ay,t];rfl)
theorem Tm m h a(u:alZ m h a) k i l j n o p q r s b c d e f:e27 jn m Z9 [h] (kY k i l j n o p q r s b c d e f)=EY m a k i l j n o p q r s b c d e f:=
 tre (g:=fun J=>(idx i j).bind fun t=>bif !(S t 0).toList==[95,105,100]then(qB m (fld t 1)).bind fun v=>(app f [agg [str (S t 0),v]]).bind fun w=>jj J 0 12 0 (kY k i l j n o p q r s b c d e w) (e27 J m aac [h])else jj J 0 12 0 (kY k i l j n o p q r s b c d e f) (e27 J m aac [h])) (fun J=>by kernel_rfl) (by simp only[ay,Tk m h a u];rfl)
theorem DF m a b c d e:e27 jn m I4 [] (I7 a b c d e)=yJ m a b c d e:=
 tre (g:=fun J=>some (0,a,b,c,d,e)) (fun J=>by kernel_rfl) (by rfl)
theorem Tn m p i j k l n o d e f a b:e27 jn m P8 [] (P9 p i j k l n o d e f a b)=EZ m p i j k l n o d e f a b:=
 tre (g:=fun J=>(yB m (agg [int d,int e,str f,lst a,lst b]) o).bind fun q=>cond (!q) ((i26 m (agg [int d,int e,str f,lst a,lst b]) o i l j k n).bind fun h=>(i29 m p (agg [int d,int e,str f,lst a,lst b]) h.1 h.2.2.2.1 h.2.1 h.2.2.1 h.2.2.2.2).bind fun c=>jj J 0 29 0 (I7 c.1 c.2.1 c.2.2.1 c.2.2.2.1 c.2.2.2.2) (e27 J m I4 [])) (jj J 0 29 0 (I7 i j k l n) (e27 J m I4 []))) (fun J=>by kernel_rfl) (by simp only[ay,DF m];rfl)
theorem Tp m l c d e f h n i j k a b:e27 jn m [1,1,1,1] [] (P9 l c d e f h n i j k a b)=E8 m l c d e f h n i j k a b:=
 tre (g:=fun J=>(qT m (agg [int i,int j,str k,lst a,lst b])).bind fun o=>cond (o !=0) (some (o,c,d,e,f,h)) (jj J 0 26 0 (P9 l c d e f h n i j k a b) (e27 J m P8 []))) (fun J=>by kernel_rfl) (by simp only[ay,Tn m];rfl)
theorem DI m:∀f h r i j k l n o p q a b c d e,l27 jn m I5 [] f (kY h r i j k l n o p q a b c d e)=kH m f h r i j k l n o p q a b c d e
 |0,_,_,_,_,_,_,_,_,_,_,_,_,_,_,_=>rfl
 |f+1,h,r,i,j,k,l,n,o,p,q,a,b,c,d,e=>
  trl (g:=fun J=>cond (j<i) (jj J 0 9 0 (kY h r i j k l n o p q a b c d e) (e27 J m Z9 [f])) (jj J 0 23 0 (P9 h k l n o p q a b c d e) (e27 J m [1,1,1,1] []))) (fun J=>by kernel_rfl) (by simp only[ay,Tm m f (kH m f) (DI m f),Tp m];rfl)
theorem Tq m f h i j k l n o p q a b c d e:e27 jn m Z7 [] (kY f h i j k l n o p q a b c d e)=XW m f h i j k l n o p q a b c d e:=
 tre (g:=fun J=>jj J 1 8 (succ m) (kY f h i j k l n o p q a b c d e) (l27 J m I5 [] (succ m))) (fun J=>by kernel_rfl) (by simp only[ay,DI m];rfl)
abbrev al0(m n:Nat)(a:Int->List Dt->Int->Int->Dt->List Dt->List Dt->List Dt->List Dt->Dt->Dt->Option (Int×Dt×List Dt×List Dt×List Dt×List Dt)):Prop:=∀c d e f g h i j k l b,l27 jn m I6 [] n (iD c d e f g h i j k l b)=a c d e f g h i j k l b
theorem Nk m c a(p:al0 m c a) d e f h i j k l n o b:e27 jn m aae [c] (iD d e f h i j k l n o b)=E9 m a d e f h i j k l n o b:=
 tre (g:=fun J=>jj J 1 16 c (iD d e f (wrap .i64 (h+1)) i j k l n o b) (l27 J m I6 [] c)) (fun J=>by kernel_rfl) (by simp only[ay,p];rfl)
theorem Tt m d a(r:al0 m d a) h e i f j k l n o p b:e27 jn m aad [d] (iD h e i f j k l n o p b)=XY m a h e i f j k l n o p b:=
 tre (g:=fun J=>(idx e f).bind fun c=>bif !(S c 0).toList==[95,105,100]then(zY m b (S c 0) (fld c 1)).bind fun q=>jj J 0 20 0 (iD h e i f j k l n o p q) (e27 J m aae [d])else jj J 0 20 0 (iD h e i f j k l n o p b) (e27 J m aae [d])) (fun J=>by kernel_rfl) (by simp only[ay,Nk m d a r];rfl)
theorem Nl m k d e f h i j c:e27 jn m P8 [] (FR k d e f h i j c)=OW m k d e f h i j c:=
 tre (g:=fun J=>(yB m c j).bind fun l=>cond (!l) ((i26 m c j d h e f i).bind fun a=>(i29 m k c a.1 a.2.2.2.1 a.2.1 a.2.2.1 a.2.2.2.2).bind fun b=>jj J 0 29 0 (I7 b.1 b.2.1 b.2.2.1 b.2.2.2.1 b.2.2.2.2) (e27 J m I4 [])) (jj J 0 29 0 (I7 d e f h i) (e27 J m I4 []))) (fun J=>by kernel_rfl) (by simp only[ay,DF m];rfl)
theorem Nn m i b c d e f j h:e27 jn m [1,1,1,1] [] (FR i b c d e f j h)=OX m i b c d e f j h:=
 tre (g:=fun J=>(qT m h).bind fun a=>cond (a !=0) (some (a,b,c,d,e,f)) (jj J 0 26 0 (FR i b c d e f j h) (e27 J m P8 []))) (fun J=>by kernel_rfl) (by simp only[ay,Nl m];rfl)
theorem DJ m:∀b c n d e f h i j k l a,l27 jn m I6 [] b (iD c n d e f h i j k l a)=Fa m b c n d e f h i j k l a
 |0,_,_,_,_,_,_,_,_,_,_,_=>rfl
 |b+1,c,n,d,e,f,h,i,j,k,l,a=>
  trl (g:=fun J=>cond (e<d) (jj J 0 17 0 (iD c n d e f h i j k l a) (e27 J m aad [b])) (jj J 0 23 0 (FR c f h i j k l a) (e27 J m [1,1,1,1] []))) (fun J=>by kernel_rfl) (by simp only[ay,Tt m b (Fa m b) (DJ m b),Nn m];rfl)
theorem Tw m b c d e f h i j k l a:e27 jn m Z8 [] (iD b c d e f h i j k l a)=XZ m b c d e f h i j k l a:=
 tre (g:=fun J=>jj J 1 16 (succ m) (iD b c d e f h i j k l a) (l27 J m I6 [] (succ m))) (fun J=>by kernel_rfl) (by simp only[ay,DJ m];rfl)
theorem apk m c d a b e f h:e27 jn m [] [] ⟨[(.ptr 0 [] 0),(.dat 3 (.int c)),(.dat 26 d)],[(.box 114 (.agg 114 [(.dat 51 a),(.row 1),(.row 2),(.row 3),(.row 4)])),(.row 112 b),(.map 110 e),(.map 111 f),(.row 54 h)],5⟩=i27 (m+1) c d a b e f h:=
 tre (g:=fun J=>(inL b c).bind fun n=>(b[c.toNat]?).bind fun i=>cond (I a 2==1) ((zL m (fld i 0)).bind fun k=>(qB m k).bind fun l=>jj J 0 8 0 (kY c (L d 4) ((L d 4).length:Int) 0 a e f b h (fld i 0) 5 0 (ByteArray.mk (List.toArray [])) [] [agg [str (ByteArray.mk (List.toArray [95,105,100])),l]]) (e27 J m Z7 [])) (cond (I a 2==2) ((qB m (fld i 0)).bind fun j=>jj J 0 16 0 (iD c (L d 4) ((L d 4).length:Int) 0 a e f b h (fld i 0) j) (e27 J m Z8 [])) (cond (I a 2==4) (some (16,a,e,f,b,h)) (some (0,a,e,f,b,h))))) (fun J=>by kernel_rfl) (by simp only[ay,Tq m,Tw m];rfl)
noncomputable def e23(J:Nat->Nat->Nat->St->Option (Int×Dt×List Dt×List Dt×List Dt×List Dt)->Option (Int×Dt×List Dt×List Dt×List Dt×List Dt))(m:Nat)(p ms:List Nat)(σ:St):=evAt Tryz.prog env (ct m) J (m+1) 69 29 Tryz.f69 d24 p ms σ
noncomputable def al1(a:Dt)(b c d e:List Dt):St:=⟨tsOf [(0,(.ptr 0 [] 0))],[(.box 114 (.agg 114 [(.dat 51 a),(.row 5),(.row 2),(.row 3),(.row 6)])),.gone,(.map 110 b),(.map 111 c),.gone,(.row 112 d),(.row 54 e)],5⟩
theorem Tz m a b c d e:e23 jn m [1,1,1] [] (al1 a b c d e)=X0 m a b c d e:=
 tre (g:=fun J=>some (14,a,b,c,d,e)) (fun J=>by kernel_rfl) (by rfl)
theorem apl m e b c a f d:e23 jn m [] [] ⟨[(.ptr 0 [] 0),(.dat 26 e)],[(.box 114 (.agg 114 [(.dat 51 b),(.row 1),(.row 2),(.row 3),(.row 4)])),(.row 112 c),(.map 110 a),(.map 111 f),(.row 54 d)],5⟩=i23 (m+1) e b c a f d:=
 tre (g:=fun J=>(i19 m (agg [b,lst c,lst [],lst [],lst d]) e).bind fun k=>cond (mhas a k) (bif ((toLst (mgetD a k (lst []))).length:Int)==0 then(i24 m e b c a f d).bind fun h=>some (h.1,h.2.1,h.2.2.1,h.2.2.2.1,h.2.2.2.2.1,h.2.2.2.2.2)else bif ((toLst (mgetD a k (lst []))).length:Int)==1 then(idx (toLst (mgetD a k (lst []))) 0).bind fun l=>(i27 m (toInt l) e b c a f d).bind fun i=>some (i.1,i.2.1,i.2.2.1,i.2.2.2.1,i.2.2.2.2.1,i.2.2.2.2.2)else jj J 0 7 0 (al1 b a f c d) (e23 J m [1,1,1] [])) ((i24 m e b c a f d).bind fun j=>some (j.1,j.2.1,j.2.2.1,j.2.2.2.1,j.2.2.2.2.1,j.2.2.2.2.2))) (fun J=>by kernel_rfl) (by simp only[ay,Tz m];rfl)
def ai6:List Nat:=[1,1,0,1,0]
def ar8:List Nat:=[1,1,1,0,1]
def aaf:List Nat:=[1,1,1,0,1,0]
def apm:List Nat:=[1,1,0,1,0,0,1,1]
def ar9:List Nat:=apm++[1]
def apn:List Nat:=aaf++[0,1,1]
def asa:List Nat:=apn++[1]
noncomputable def e3(J:Nat->Nat->Nat->St->Option (List Dt×Int)->Option (List Dt×Int))(m:Nat)(p ms:List Nat)(σ:St):=evAt Tryz.prog env (ct m) J (m+1) 27 47 Tryz.f27 d3 p ms σ
noncomputable def l3(J:Nat->Nat->Nat->St->Option (List Dt×Int)->Option (List Dt×Int))(m:Nat)(p ms:List Nat)(M:Nat)(σ:St):=loopAt Tryz.prog env (ct m) J (m+1) 27 47 Tryz.f27 d3 p ms M σ
noncomputable def Bv(a b:List Dt)(c d:Int)(e:Dt)(f g h i:List Dt):St:=⟨tsOf [(2,(.dat 23 (.lst a))),(8,(.ptr 0 [] 0)),(19,(.dat 23 (.lst b))),(20,(.dat 3 (.int c))),(21,(.dat 3 (.int d)))],[(.box 114 (.agg 114 [(.dat 51 e),(.row 1),(.row 2),(.row 3),(.row 4)])),(.row 112 f),(.map 110 g),(.map 111 h),(.row 54 i)],0⟩
noncomputable def Bw(a:List Dt)(b c:Int)(d:Dt)(e f g h:List Dt):St:=⟨tsOf [(8,(.ptr 0 [] 0)),(30,(.dat 23 (.lst a))),(31,(.dat 3 (.int b))),(32,(.dat 3 (.int c)))],[(.box 114 (.agg 114 [(.dat 51 d),(.row 1),(.row 2),(.row 3),(.row 4)])),(.row 112 e),(.map 110 f),(.map 111 g),(.row 54 h)],0⟩
noncomputable def asb(a:Dt)(b c d e:List Dt):St:=⟨tsOf [(8,(.ptr 0 [] 0))],[(.box 114 (.agg 114 [(.dat 51 a),(.row 1),(.row 2),(.row 3),(.row 4)])),(.row 112 b),(.map 110 c),(.map 111 d),(.row 54 e)],0⟩
noncomputable def asc(a:List Dt)(b:Dt)(c d e f:List Dt):St:=⟨tsOf [(2,(.dat 23 (.lst a))),(8,(.ptr 0 [] 0))],[(.box 114 (.agg 114 [(.dat 51 b),(.row 1),(.row 2),(.row 3),(.row 4)])),(.row 112 c),(.map 110 d),(.map 111 e),(.row 54 f)],0⟩
abbrev ase(m k:Nat)(a:List Dt->List Dt->Int->Int->Dt->List Dt->List Dt->List Dt->List Dt->Option (List Dt×Int)):Prop:=∀b c d e f g h i j,l3 jn m ai6 [] k (Bv b c d e f g h i j)=a b c d e f g h i j
theorem aag m b a(n:ase m b a) c d e f h i j k l:e3 jn m ar9 [b] (Bv c d e f h i j k l)=ale m a c d e f h i j k l:=
 tre (g:=fun J=>jj J 1 3 b (Bv c d e (wrap .i64 (f+1)) h i j k l) (l3 J m ai6 [] b)) (fun J=>by kernel_rfl) (by simp only[ay,n];rfl)
theorem aah m c a(o:ase m c a) f d h e i j k l n:e3 jn m apm [c] (Bv f d h e i j k l n)=X3 m a f d h e i j k l n:=
 tre (g:=fun J=>(idx d e).bind fun p=>(qB m p).bind fun q=>(i18 m q i j k l n).bind fun b=>jj J 0 6 0 (Bv f d h e b.1 b.2.2.2.1 b.2.1 b.2.2.1 b.2.2.2.2) (e3 J m ar9 [c])) (fun J=>by kernel_rfl) (by simp only[ay,aag m c a o];rfl)
abbrev asf(m j:Nat)(a:List Dt->Int->Int->Dt->List Dt->List Dt->List Dt->List Dt->Option (List Dt×Int)):Prop:=∀b c d e f g h i,l3 jn m aaf [] j (Bw b c d e f g h i)=a b c d e f g h i
theorem aai m b a(l:asf m b a) c d e f h i j k:e3 jn m asa [b] (Bw c d e f h i j k)=alf m a c d e f h i j k:=
 tre (g:=fun J=>jj J 1 8 b (Bw c d (wrap .i64 (e+1)) f h i j k) (l3 J m aaf [] b)) (fun J=>by kernel_rfl) (by simp only[ay,l];rfl)
theorem aaj m c a(n:asf m c a) d f e h i j k l:e3 jn m apn [c] (Bw d f e h i j k l)=X4 m a d f e h i j k l:=
 tre (g:=fun J=>(idx d e).bind fun o=>(i23 m o h i j k l).bind fun b=>cond (b.1 !=0) (some ([],b.1)) (jj J 0 13 0 (Bw d f e b.2.1 b.2.2.2.2.1 b.2.2.1 b.2.2.2.1 b.2.2.2.2.2) (e3 J m asa [c]))) (fun J=>by kernel_rfl) (by simp only[ay,aai m c a n];rfl)
theorem aak m b c d e a:e3 jn m [1,1,1,1] [] (asb b c d e a)=alg m b c d e a:=
 tre (g:=fun J=>some (a,0)) (fun J=>by kernel_rfl) (by rfl)
theorem I8 m:∀a j b c d e f h i,l3 jn m aaf [] a (Bw j b c d e f h i)=yK m a j b c d e f h i
 |0,_,_,_,_,_,_,_,_=>rfl
 |a+1,j,b,c,d,e,f,h,i=>
  trl (g:=fun J=>cond (c<b) (jj J 0 9 0 (Bw j b c d e f h i) (e3 J m apn [a])) (jj J 0 14 0 (asb d e f h i) (e3 J m [1,1,1,1] []))) (fun J=>by kernel_rfl) (by simp only[ay,aaj m a (yK m a) (I8 m a),aak m];rfl)
theorem aal m a b c d e f h i:e3 jn m ar8 [] (Bw a b c d e f h i)=alh m a b c d e f h i:=
 tre (g:=fun J=>jj J 1 8 (succ m) (Bw a b c d e f h i) (l3 J m aaf [] (succ m))) (fun J=>by kernel_rfl) (by simp only[ay,I8 m];rfl)
theorem aam m a b c d e f:e3 jn m [1,1,1] [] (asc a b c d e f)=OY m a b c d e f:=
 tre (g:=fun J=>jj J 0 8 0 (Bw a (a.length:Int) 0 b c d e f) (e3 J m ar8 [])) (fun J=>by kernel_rfl) (by simp only[ay,aal m];rfl)
theorem I9 m:∀a b k c d e f h i j,l3 jn m ai6 [] a (Bv b k c d e f h i j)=yL m a b k c d e f h i j
 |0,_,_,_,_,_,_,_,_,_=>rfl
 |a+1,b,k,c,d,e,f,h,i,j=>
  trl (g:=fun J=>cond (d<c) (jj J 0 4 0 (Bv b k c d e f h i j) (e3 J m apm [a])) (jj J 0 7 0 (asc b e f h i j) (e3 J m [1,1,1] []))) (fun J=>by kernel_rfl) (by simp only[ay,aah m a (yL m a) (I9 m a),aam m];rfl)
theorem aan m a b c d e f h i j:e3 jn m [1,1,0,1] [] (Bv a b c d e f h i j)=ali m a b c d e f h i j:=
 tre (g:=fun J=>jj J 1 3 (succ m) (Bv a b c d e f h i j) (l3 J m ai6 [] (succ m))) (fun J=>by kernel_rfl) (by simp only[ay,I9 m];rfl)
theorem asg m b a c:e3 jn m [] [] ⟨[(.dat 51 b),(.dat 23 (.lst a)),(.dat 23 (.lst c))],[],0⟩=qP (m+1) b a c:=
 tre (g:=fun J=>jj J 0 3 0 (Bv c a (a.length:Int) 0 b [] [] [] []) (e3 J m [1,1,0,1] [])) (fun J=>by kernel_rfl) (by simp only[ay,aan m];rfl)
def aao:List Nat:=[1,1,1,1,1]
def aap:List Nat:=[1,1,1,1,0,1]
def Ja:List Nat:=aap++[0]
def aaq:List Nat:=Ja++[0,1]
def al2:List Nat:=aaq++[1]
noncomputable def e89(J:Nat->Nat->Nat->St->Option ByteArray->Option ByteArray)(m:Nat)(p ms:List Nat)(σ:St):=evAt Tryz.prog env (ct m) J (m+1) 191 37 Tryz.f191 d21 p ms σ
noncomputable def l89(J:Nat->Nat->Nat->St->Option ByteArray->Option ByteArray)(m:Nat)(p ms:List Nat)(M:Nat)(σ:St):=loopAt Tryz.prog env (ct m) J (m+1) 191 37 Tryz.f191 d21 p ms M σ
noncomputable def mW(a:Int)(b:ByteArray)(c:Int):St:=⟨tsOf [(3,(.dat 215 (.int a))),(4,(.dat 9 (.str b))),(5,(.dat 3 (.int c)))],[],0⟩
noncomputable def aar(a:Int)(b:ByteArray):St:=⟨tsOf [(3,(.dat 215 (.int a))),(4,(.dat 9 (.str b)))],[],0⟩
noncomputable def aas(a:Int):St:=⟨tsOf [(3,(.dat 215 (.int a)))],[],0⟩
abbrev al3(m e:Nat)(a:Int->ByteArray->Int->Option ByteArray):Prop:=∀b c d,l89 jn m Ja [] e (mW b c d)=a b c d
theorem aat m b a(f:al3 m b a) c d e:e89 jn m al2 [b] (mW c d e)=He m a c d e:=
 tre (g:=fun J=>jj J 1 6 b (mW c d (wrap .i64 (e+1))) (l89 J m Ja [] b)) (fun J=>by kernel_rfl) (by simp only[ay,f];rfl)
theorem aau m c a(f:al3 m c a) b d e:e89 jn m aaq [c] (mW b d e)=Hf m a b d e:=
 tre (g:=fun J=>cond (Nat.ble (d.size+(strOfNums [orI IntKind.u8 (wrap IntKind.u8 (Int.tmod b 128)) 128]).size) 1152921504606846976) (jj J 0 7 0 (mW (wrap IntKind.u64 (Int.tdiv b 128)) (d++strOfNums [orI IntKind.u8 (wrap IntKind.u8 (Int.tmod b 128)) 128]) e) (e89 J m al2 [c])) none) (fun J=>by kernel_rfl) (by simp only[ay,aat m c a f];rfl)
theorem aav m a b:e89 jn m aao [] (aar a b)=CP m a b:=
 tre (g:=fun J=>cond (Nat.ble (b.size+(strOfNums [wrap IntKind.u8 a]).size) 1152921504606846976) (some (b++strOfNums [wrap IntKind.u8 a])) none) (fun J=>by kernel_rfl) (by rfl)
theorem Jb m:∀a b c d,l89 jn m Ja [] a (mW b c d)=u6 m a b c d
 |0,_,_,_=>rfl
 |a+1,b,c,d=>
  trl (g:=fun J=>cond (d<10) (cond (128<=b) (jj J 0 8 0 (mW b c d) (e89 J m aaq [a])) (jj J 0 10 0 (aar b c) (e89 J m aao []))) (jj J 0 10 0 (aar b c) (e89 J m aao []))) (fun J=>by kernel_rfl) (by simp only[ay,aau m a (u6 m a) (Jb m a),aav m];rfl)
theorem aaw m a b c:e89 jn m aap [] (mW a b c)=Hg m a b c:=
 tre (g:=fun J=>jj J 1 6 (succ m) (mW a b c) (l89 J m Ja [] (succ m))) (fun J=>by kernel_rfl) (by simp only[ay,Jb m];rfl)
theorem aax m a:e89 jn m [1,1,1] [] (aas a)=CQ m a:=
 tre (g:=fun J=>jj J 0 6 0 (mW a (ByteArray.mk (List.toArray [])) 0) (e89 J m aap [])) (fun J=>by kernel_rfl) (by simp only[ay,aaw m];rfl)
theorem ash m a:e89 jn m [] [] ⟨[(.dat 3 (.int a))],[],0⟩=zC (m+1) a:=
 tre (g:=fun J=>cond (a<0) (jj J 0 4 0 (aas (complI IntKind.u64 (shlI IntKind.u64 (wrap IntKind.u64 a) 1))) (e89 J m [1,1,1] [])) (jj J 0 4 0 (aas (shlI IntKind.u64 (wrap IntKind.u64 a) 1)) (e89 J m [1,1,1] []))) (fun J=>by kernel_rfl) (by simp only[ay,aax m];rfl)
def Qa:List Nat:=[1,1,0,1,0,1]
def Jc:List Nat:=Qa++[1,1,1,1]
def aay:List Nat:=Jc++[1,1,1,1,0,1,1]
def Jd:List Nat:=aay++[0]
def aaz:List Nat:=Jc++[1,1,1,1,1,1,0,1,1]
def aaA:List Nat:=Jd++[0,1]
def Je:List Nat:=aaz++[0]
def al4:List Nat:=aaA++[1]
def aaB:List Nat:=Je++[0,1]
def al5:List Nat:=aaB++[1]
noncomputable def e83(J:Nat->Nat->Nat->St->Option ByteArray->Option ByteArray)(m:Nat)(p ms:List Nat)(σ:St):=evAt Tryz.prog env (ct m) J (m+1) 136 112 Tryz.f136 d21 p ms σ
noncomputable def l83(J:Nat->Nat->Nat->St->Option ByteArray->Option ByteArray)(m:Nat)(p ms:List Nat)(M:Nat)(σ:St):=loopAt Tryz.prog env (ct m) J (m+1) 136 112 Tryz.f136 d21 p ms M σ
noncomputable def vI(a:ByteArray):St:=⟨tsOf [(3,(.dat 9 (.str a)))],[],0⟩
noncomputable def mX(a:ByteArray)(b:Int)(c:Dt):St:=⟨tsOf [(1,(.ptr 0 [] 0)),(3,(.dat 9 (.str a))),(4,(.dat 3 (.int b)))],[(.box 26 (.dat 26 c))],0⟩
noncomputable def je(a:ByteArray)(b:Int)(c:Dt):St:=⟨tsOf [(1,(.ptr 0 [] 0)),(3,(.dat 9 (.str a))),(5,(.dat 3 (.int b)))],[(.box 26 (.dat 26 c))],0⟩
noncomputable def aaC(a:ByteArray)(b:Int)(c:Bool)(d:Dt):St:=⟨tsOf [(1,(.ptr 0 [] 0)),(3,(.dat 9 (.str a))),(12,(.dat 3 (.int b))),(30,(.dat 4 (.bool c)))],[(.box 26 (.dat 26 d))],0⟩
noncomputable def aaD(a:ByteArray)(b:Int)(c:Bool)(d:Dt):St:=⟨tsOf [(1,(.ptr 0 [] 0)),(3,(.dat 9 (.str a))),(12,(.dat 3 (.int b))),(13,(.dat 4 (.bool c)))],[(.box 26 (.dat 26 d))],0⟩
theorem rA m a:e83 jn m [1,1,1] [] (vI a)=jA m (qL m) a:=
 tre (g:=fun J=>some a) (fun J=>by kernel_rfl) (by rfl)
abbrev al6(m e:Nat)(a:ByteArray->Int->Dt->Option ByteArray):Prop:=∀b c d,l83 jn m Jd [] e (mX b c d)=a b c d
theorem aaE m b a(f:al6 m b a) c d e:e83 jn m al4 [b] (mX c d e)=yM m (qL m) a c d e:=
 tre (g:=fun J=>jj J 1 16 b (mX c (wrap .i64 (d+1)) e) (l83 J m Jd [] b)) (fun J=>by kernel_rfl) (by simp only[ay,f];rfl)
theorem aaF m b a(h:al6 m b a) c d e:e83 jn m aaA [b] (mX c d e)=yN m (qL m) a c d e:=
 tre (g:=fun J=>(idx (L e 3) d).bind fun i=>(qL m i).bind fun f=>cond (Nat.ble (c.size+f.size) 1152921504606846976) (jj J 0 17 0 (mX (c++f) d e) (e83 J m al4 [b])) none) (fun J=>by kernel_rfl) (by simp only[ay,aaE m b a h];rfl)
theorem Jf m:∀a b c d,l83 jn m Jd [] a (mX b c d)=CS m (qL m) a b c d
 |0,_,_,_=>rfl
 |a+1,b,c,d=>
  trl (g:=fun J=>cond (c<((L d 3).length:Int)) (jj J 0 18 0 (mX b c d) (e83 J m aaA [a])) (jj J 0 25 0 (vI b) (e83 J m [1,1,1] []))) (fun J=>by kernel_rfl) (by simp only[ay,aaF m a (CS m (qL m) a) (Jf m a),rA m];rfl)
theorem aaG m a b c:e83 jn m aay [] (mX a b c)=yO m (qL m) a b c:=
 tre (g:=fun J=>jj J 1 16 (succ m) (mX a b c) (l83 J m Jd [] (succ m))) (fun J=>by kernel_rfl) (by simp only[ay,Jf m];rfl)
abbrev al7(m e:Nat)(a:ByteArray->Int->Dt->Option ByteArray):Prop:=∀b c d,l83 jn m Je [] e (je b c d)=a b c d
theorem TA m b a(f:al7 m b a) c d e:e83 jn m al5 [b] (je c d e)=oL m (qL m) a c d e:=
 tre (g:=fun J=>jj J 1 22 b (je c (wrap .i64 (d+1)) e) (l83 J m Je [] b)) (fun J=>by kernel_rfl) (by simp only[ay,f];rfl)
theorem aaH m f a(j:al7 m f a) b c d:e83 jn m aaB [f] (je b c d)=yP m (qL m) a b c d:=
 tre (g:=fun J=>(idx (L d 4) c).bind fun k=>(zC m ((S k 0).size:Int)).bind fun h=>cond (Nat.ble (b.size+h.size) 1152921504606846976) ((idx (L d 4) c).bind fun i=>cond (Nat.ble ((b++h).size+(S i 0).size) 1152921504606846976) ((idx (L d 4) c).bind fun l=>(qL m (fld l 1)).bind fun e=>cond (Nat.ble ((b++h++S i 0).size+e.size) 1152921504606846976) (jj J 0 23 0 (je (b++h++S i 0++e) c d) (e83 J m al5 [f])) none) none) none) (fun J=>by kernel_rfl) (by simp only[ay,TA m f a j];rfl)
theorem Jg m:∀a b c d,l83 jn m Je [] a (je b c d)=CU m (qL m) a b c d
 |0,_,_,_=>rfl
 |a+1,b,c,d=>
  trl (g:=fun J=>cond (c<((L d 4).length:Int)) (jj J 0 24 0 (je b c d) (e83 J m aaB [a])) (jj J 0 25 0 (vI b) (e83 J m [1,1,1] []))) (fun J=>by kernel_rfl) (by simp only[ay,aaH m a (CU m (qL m) a) (Jg m a),rA m];rfl)
theorem aaI m a b c:e83 jn m aaz [] (je a b c)=yQ m (qL m) a b c:=
 tre (g:=fun J=>jj J 1 22 (succ m) (je a b c) (l83 J m Je [] (succ m))) (fun J=>by kernel_rfl) (by simp only[ay,Jg m];rfl)
theorem aaJ m a c d b:e83 jn m Jc [] (aaC a c d b)=u7 m (qL m) a c d b:=
 tre (g:=fun J=>cond d ((zC m ((S b 2).size:Int)).bind fun e=>cond (Nat.ble (a.size+e.size) 1152921504606846976) (cond (Nat.ble ((a++e).size+(S b 2).size) 1152921504606846976) (jj J 0 25 0 (vI (a++e++S b 2)) (e83 J m [1,1,1] [])) none) none) (cond (c==8) (cond (Nat.ble (a.size+(S b 2).size) 1152921504606846976) (jj J 0 25 0 (vI (a++S b 2)) (e83 J m [1,1,1] [])) none) (cond (c==6) ((zC m ((L b 3).length:Int)).bind fun f=>cond (Nat.ble (a.size+f.size) 1152921504606846976) (jj J 0 16 0 (mX (a++f) 0 b) (e83 J m aay [])) none) (cond (c==5) ((zC m ((L b 4).length:Int)).bind fun h=>cond (Nat.ble (a.size+h.size) 1152921504606846976) (jj J 0 22 0 (je (a++h) 0 b) (e83 J m aaz [])) none) (jj J 0 25 0 (vI a) (e83 J m [1,1,1] [])))))) (fun J=>by kernel_rfl) (by simp only[ay,rA m,aaG m,aaI m];rfl)
theorem aaK m a b d c:e83 jn m Qa [] (aaD a b d c)=vg m (qL m) a b d c:=
 tre (g:=fun J=>cond d ((zC m (I c 1)).bind fun e=>cond (Nat.ble (a.size+e.size) 1152921504606846976) (jj J 0 25 0 (vI (a++e)) (e83 J m [1,1,1] [])) none) (cond (b==9) (cond (Nat.ble (a.size+(strOfNums [wrap IntKind.u8 (I c 1)]).size) 1152921504606846976) (jj J 0 25 0 (vI (a++strOfNums [wrap IntKind.u8 (I c 1)])) (e83 J m [1,1,1] [])) none) (cond (b==4) (jj J 0 10 0 (aaC a b (b==4) c) (e83 J m Jc [])) (jj J 0 10 0 (aaC a b (b==7) c) (e83 J m Jc []))))) (fun J=>by kernel_rfl) (by simp only[ay,rA m,aaJ m];rfl)
theorem asi m a:e83 jn m [] [] ⟨[(.dat 26 a)],[],0⟩=qL (m+1) a:=
 tre (g:=fun J=>cond (I a 0==3) (jj J 0 5 0 (aaD (strOfNums [wrap IntKind.u8 (I a 0)]) (I a 0) (I a 0==3) a) (e83 J m Qa [])) (jj J 0 5 0 (aaD (strOfNums [wrap IntKind.u8 (I a 0)]) (I a 0) (I a 0==10) a) (e83 J m Qa []))) (fun J=>by kernel_rfl) (by simp only[ay,aaK m];rfl)
noncomputable def e73(J:Nat->Nat->Nat->St->Option (ByteArray×Int)->Option (ByteArray×Int))(m:Nat)(p ms:List Nat)(σ:St):=evAt Tryz.prog env (ct m) J (m+1) 98 9 Tryz.f98 d47 p ms σ
noncomputable def al8(a:Dt):St:=⟨tsOf [(1,(.ptr 0 [] 0))],[(.box 26 (.dat 26 a))],0⟩
theorem aaL m a:e73 jn m [1,1] [] (al8 a)=X5 m a:=
 tre (g:=fun J=>(qL m a).bind fun b=>some (b,0)) (fun J=>by kernel_rfl) (by rfl)
theorem asj m a:e73 jn m [] [] ⟨[(.dat 26 a)],[],0⟩=zU (m+1) a:=
 tre (g:=fun J=>(zV m a).bind fun b=>cond (!b) (some (ByteArray.mk (List.toArray []),8)) (jj J 0 3 0 (al8 a) (e73 J m [1,1] []))) (fun J=>by kernel_rfl) (by simp only[ay,aaL m];rfl)
noncomputable def e57(J:Nat->Nat->Nat->St->Option (Int×Int)->Option (Int×Int))(m:Nat)(p ms:List Nat)(σ:St):=evAt Tryz.prog env (ct m) J (m+1) 67 14 Tryz.f67 d50 p ms σ
theorem asl m a:e57 jn m [] [] ⟨[(.dat 26 a)],[],0⟩=z7 (m+1) a:=
 tre (g:=fun J=>(zU m a).bind fun b=>some (((b.1).size:Int),b.2)) (fun J=>by kernel_rfl) (by rfl)
def al9:List Nat:=[1,1,1,1,1]
noncomputable def e39(J:Nat->Nat->Nat->St->Option Int->Option Int)(m:Nat)(p ms:List Nat)(σ:St):=evAt Tryz.prog env (ct m) J (m+1) 26 24 Tryz.f26 d25 p ms σ
noncomputable def ama:St:=⟨tsOf [],[],0⟩
noncomputable def amb(a:Int):St:=⟨tsOf [(5,(.dat 3 (.int a)))],[],0⟩
noncomputable def amc(a:Dt):St:=⟨tsOf [(1,(.ptr 0 [] 0))],[(.box 26 (.dat 26 a))],0⟩
theorem aaM m:e39 jn m al9 [] ama=alj m:=
 tre (g:=fun J=>some 0) (fun J=>by kernel_rfl) (by rfl)
theorem aaN m a:e39 jn m [1,1,1,1] [] (amb a)=OZ m a:=
 tre (g:=fun J=>cond (16384<a) (some 2) (jj J 0 9 0 ama (e39 J m al9 []))) (fun J=>by kernel_rfl) (by simp only[ay,aaM m];rfl)
theorem aaO m a:e39 jn m [1,1] [] (amc a)=O0 m a:=
 tre (g:=fun J=>(z7 m a).bind fun b=>cond (b.2 !=0) (some b.2) (jj J 0 7 0 (amb b.1) (e39 J m [1,1,1,1] []))) (fun J=>by kernel_rfl) (by simp only[ay,aaN m];rfl)
theorem asn m a:e39 jn m [] [] ⟨[(.dat 26 a)],[],0⟩=zK (m+1) a:=
 tre (g:=fun J=>(zN m a).bind fun b=>cond (!b.2) (some 8) (jj J 0 4 0 (amc a) (e39 J m [1,1] []))) (fun J=>by kernel_rfl) (by simp only[ay,aaO m];rfl)
noncomputable def e11(J:Nat->Nat->Nat->St->Option Bool->Option Bool)(m:Nat)(p ms:List Nat)(σ:St):=evAt Tryz.prog env (ct m) J (m+1) 25 6 Tryz.f25 d8 p ms σ
theorem aso m a:e11 jn m [] [] ⟨[(.dat 26 a)],[],0⟩=zO (m+1) a:=
 tre (g:=fun J=>(zK m a).bind fun b=>some (b !=0)) (fun J=>by kernel_rfl) (by rfl)
def aaP:List Nat:=[1,0,1,0,0,1,1]
def amd:List Nat:=aaP++[1]
noncomputable def e10(J:Nat->Nat->Nat->St->Option Int->Option Int)(m:Nat)(p ms:List Nat)(σ:St):=evAt Tryz.prog env (ct m) J (m+1) 53 19 Tryz.f53 d36 p ms σ
noncomputable def l10(J:Nat->Nat->Nat->St->Option Int->Option Int)(m:Nat)(p ms:List Nat)(M:Nat)(σ:St):=loopAt Tryz.prog env (ct m) J (m+1) 53 19 Tryz.f53 d36 p ms M σ
noncomputable def mY(a:List Dt)(b c:Int):St:=⟨tsOf [(0,(.dat 23 (.lst a))),(1,(.fn 25 [])),(7,(.dat 3 (.int b))),(8,(.dat 3 (.int c)))],[],0⟩
noncomputable def ame:St:=⟨tsOf [],[],0⟩
abbrev amf(m e:Nat)(a:List Dt->Int->Int->Option Int):Prop:=∀b c d,l10 jn m [1,0,1,0] [] e (mY b c d)=a b c d
theorem TD m b a(f:amf m b a) c d e:e10 jn m amd [b] (mY c d e)=MK m a c d e:=
 tre (g:=fun J=>jj J 1 2 b (mY c d (wrap .i64 (e+1))) (l10 J m [1,0,1,0] [] b)) (fun J=>by kernel_rfl) (by simp only[ay,f];rfl)
theorem TF m c a(f:amf m c a) d e b:e10 jn m aaP [c] (mY d e b)=ML m a d e b:=
 tre (g:=fun J=>(idx d b).bind fun h=>(zO m h).bind fun i=>cond i (some b) (jj J 0 6 0 (mY d e b) (e10 J m amd [c]))) (fun J=>by kernel_rfl) (by simp only[ay,TD m c a f];rfl)
theorem TG m:e10 jn m [1,1] [] ame=X6 m:=
 tre (g:=fun J=>some (-1)) (fun J=>by kernel_rfl) (by rfl)
theorem DK m:∀a d b c,l10 jn m [1,0,1,0] [] a (mY d b c)=sU m a d b c
 |0,_,_,_=>rfl
 |a+1,d,b,c=>
  trl (g:=fun J=>cond (c<b) (jj J 0 3 0 (mY d b c) (e10 J m aaP [a])) (jj J 0 7 0 ame (e10 J m [1,1] []))) (fun J=>by kernel_rfl) (by simp only[ay,TF m a (sU m a) (DK m a),TG m];rfl)
theorem TH m a b c:e10 jn m [1,0,1] [] (mY a b c)=X7 m a b c:=
 tre (g:=fun J=>jj J 1 2 (succ m) (mY a b c) (l10 J m [1,0,1,0] [] (succ m))) (fun J=>by kernel_rfl) (by simp only[ay,DK m];rfl)
theorem apo m a:e10 jn m [] [] ⟨[(.dat 23 (.lst a)),(.fn 25 [])],[],0⟩=i10 (m+1) a:=
 tre (g:=fun J=>jj J 0 2 0 (mY a (a.length:Int) 0) (e10 J m [1,0,1] [])) (fun J=>by kernel_rfl) (by simp only[ay,TH m];rfl)
noncomputable def e9(J:Nat->Nat->Nat->St->Option Bool->Option Bool)(m:Nat)(p ms:List Nat)(σ:St):=evAt Tryz.prog env (ct m) J (m+1) 16 9 Tryz.f16 d8 p ms σ
theorem asq m a:e9 jn m [] [] ⟨[(.dat 23 (.lst a)),(.fn 25 [])],[],0⟩=i9 (m+1) a:=
 tre (g:=fun J=>(i10 m a).bind fun b=>some (decide (0<=b))) (fun J=>by kernel_rfl) (by rfl)
def Qb:List Nat:=[1,0,1,0,0,1,1]
def amg:List Nat:=Qb++[1]
def aaQ:List Nat:=Qb++[0,0,1,1]
def aaR:List Nat:=aaQ++[1]
def Jh:List Nat:=aaR++[0]
def aaS:List Nat:=Jh++[0,1,1]
def amh:List Nat:=aaS++[1]
noncomputable def e13(J:Nat->Nat->Nat->St->Option Bool->Option Bool)(m:Nat)(p ms:List Nat)(σ:St):=evAt Tryz.prog env (ct m) J (m+1) 66 40 Tryz.f66 d8 p ms σ
noncomputable def l13(J:Nat->Nat->Nat->St->Option Bool->Option Bool)(m:Nat)(p ms:List Nat)(M:Nat)(σ:St):=loopAt Tryz.prog env (ct m) J (m+1) 66 40 Tryz.f66 d8 p ms M σ
noncomputable def mZ(a:List Dt)(b c d e f:Int):St:=⟨tsOf [(0,(.dat 23 (.lst a))),(3,(.dat 3 (.int b))),(6,(.dat 3 (.int c))),(7,(.dat 3 (.int d))),(16,(.dat 3 (.int e))),(17,(.dat 3 (.int f)))],[],0⟩
noncomputable def ng(a:List Dt)(b c:Int):St:=⟨tsOf [(0,(.dat 23 (.lst a))),(6,(.dat 3 (.int b))),(7,(.dat 3 (.int c)))],[],0⟩
noncomputable def ami(a:List Dt)(b c d:Int):St:=⟨tsOf [(0,(.dat 23 (.lst a))),(3,(.dat 3 (.int b))),(6,(.dat 3 (.int c))),(7,(.dat 3 (.int d)))],[],0⟩
noncomputable def amj:St:=⟨tsOf [],[],0⟩
abbrev Al(m e:Nat)(a:List Dt->Int->Int->Option Bool):Prop:=∀b c d,l13 jn m [1,0,1,0] [] e (ng b c d)=a b c d
abbrev amk(m h i:Nat)(a:List Dt->Int->Int->Int->Int->Int->Option Bool):Prop:=∀b c d e f g,l13 jn m Jh [h] i (mZ b c d e f g)=a b c d e f g
theorem aaT m c a(n:Al m c a) d b(l:amk m c d b) e f h i j k:e13 jn m amh [c,d] (mZ e f h i j k)=X8 m a b e f h i j k:=
 tre (g:=fun J=>jj J 1 7 d (mZ e f h i j (wrap .i64 (k+1))) (l13 J m Jh [c] d)) (fun J=>by kernel_rfl) (by simp only[ay,l];rfl)
theorem aaU m c a(l:Al m c a) e b(n:amk m c e b) d f i j k h:e13 jn m aaS [c,e] (mZ d f i j k h)=X9 m a b d f i j k h:=
 tre (g:=fun J=>(idx d h).bind fun o=>(idx (L o 4) 0).bind fun p=>(idx d f).bind fun q=>(idx (L q 4) 0).bind fun r=>(qC m (fld p 1) (fld r 1)).bind fun s=>cond (s==0) (some false) (jj J 0 11 0 (mZ d f i j k h) (e13 J m amh [c,e]))) (fun J=>by kernel_rfl) (by simp only[ay,aaT m c a l e b n];rfl)
theorem aaV m b a(f:Al m b a) c d e:e13 jn m amg [b] (ng c d e)=Ya m a c d e:=
 tre (g:=fun J=>jj J 1 2 b (ng c d (wrap .i64 (e+1))) (l13 J m [1,0,1,0] [] b)) (fun J=>by kernel_rfl) (by simp only[ay,f];rfl)
theorem Ji m b a(k:Al m b a):∀c d j e f h i,l13 jn m Jh [b] c (mZ d j e f h i)=CV m a c d j e f h i
 |0,_,_,_,_,_,_=>rfl
 |c+1,d,j,e,f,h,i=>
  trl (g:=fun J=>cond (i<h) (jj J 0 8 0 (mZ d j e f h i) (e13 J m aaS [b,c])) (jj J 0 12 0 (ng d e f) (e13 J m amg [b]))) (fun J=>by kernel_rfl) (by simp only[ay,aaU m b a k c (CV m a c) (Ji m b a k c),aaV m b a k];rfl)
theorem aaW m b a(j:Al m b a) c d e f h i:e13 jn m aaR [b] (mZ c d e f h i)=alk m a c d e f h i:=
 tre (g:=fun J=>jj J 1 7 (succ m) (mZ c d e f h i) (l13 J m Jh [b] (succ m))) (fun J=>by kernel_rfl) (by simp only[ay,Ji m b a j];rfl)
theorem aaX m b a(h:Al m b a) d c e f:e13 jn m aaQ [b] (ami d c e f)=alm m a d c e f:=
 tre (g:=fun J=>jj J 0 7 0 (mZ d c e f c 0) (e13 J m aaR [b])) (fun J=>by kernel_rfl) (by simp only[ay,aaW m b a h];rfl)
theorem aaY m c a(f:Al m c a) d e b:e13 jn m Qb [c] (ng d e b)=Yb m a d e b:=
 tre (g:=fun J=>(idx d b).bind fun h=>(zK m h).bind fun i=>cond (i !=0) (some false) (jj J 0 6 0 (ami d b e b) (e13 J m aaQ [c]))) (fun J=>by kernel_rfl) (by simp only[ay,aaX m c a f];rfl)
theorem aaZ m:e13 jn m [1,1] [] amj=aln m:=
 tre (g:=fun J=>some true) (fun J=>by kernel_rfl) (by rfl)
theorem Jj m:∀a d b c,l13 jn m [1,0,1,0] [] a (ng d b c)=yR m a d b c
 |0,_,_,_=>rfl
 |a+1,d,b,c=>
  trl (g:=fun J=>cond (c<b) (jj J 0 3 0 (ng d b c) (e13 J m Qb [a])) (jj J 0 13 0 amj (e13 J m [1,1] []))) (fun J=>by kernel_rfl) (by simp only[ay,aaY m a (yR m a) (Jj m a),aaZ m];rfl)
theorem aa0 m a b c:e13 jn m [1,0,1] [] (ng a b c)=alo m a b c:=
 tre (g:=fun J=>jj J 1 2 (succ m) (ng a b c) (l13 J m [1,0,1,0] [] (succ m))) (fun J=>by kernel_rfl) (by simp only[ay,Jj m];rfl)
theorem asr m a:e13 jn m [] [] ⟨[(.dat 23 (.lst a))],[],0⟩=qV (m+1) a:=
 tre (g:=fun J=>jj J 0 2 0 (ng a (a.length:Int) 0) (e13 J m [1,0,1] [])) (fun J=>by kernel_rfl) (by simp only[ay,aa0 m];rfl)
noncomputable def e1(J:Nat->Nat->Nat->St->Option Bool->Option Bool)(m:Nat)(p ms:List Nat)(σ:St):=evAt Tryz.prog env (ct m) J (m+1) 24 46 Tryz.f24 d8 p ms σ
noncomputable def l1(J:Nat->Nat->Nat->St->Option Bool->Option Bool)(m:Nat)(p ms:List Nat)(M:Nat)(σ:St):=loopAt Tryz.prog env (ct m) J (m+1) 24 46 Tryz.f24 d8 p ms M σ
noncomputable def asu(a b:List Dt):St:=⟨tsOf [(1,(.dat 23 (.lst a))),(2,(.dat 23 (.lst b)))],[],0⟩
noncomputable def Np(a b:List Dt)(c:Bool):St:=⟨tsOf [(1,(.dat 23 (.lst a))),(2,(.dat 23 (.lst b))),(35,(.dat 4 (.bool c)))],[],0⟩
theorem aa1 m a b:e1 jn m [1,1] [] (asu a b)=Yc m a b:=
 tre (g:=fun J=>(z6 m a).bind fun c=>cond c ((z6 m b).bind fun d=>cond d ((qV m a).bind fun e=>some e) (some false)) (some false)) (fun J=>by kernel_rfl) (by rfl)
theorem aa2 m a b c:e1 jn m [1,0,1] [] (Np a b c)=qb m a b c:=
 tre (g:=fun J=>cond c (some false) (jj J 0 3 0 (asu a b) (e1 J m [1,1] []))) (fun J=>by kernel_rfl) (by simp only[ay,aa1 m];rfl)
theorem asv m a b c:e1 jn m [] [] ⟨[(.dat 51 a),(.dat 23 (.lst b)),(.dat 23 (.lst c))],[],0⟩=zG (m+1) a b c:=
 tre (g:=fun J=>cond (I a 2<1) (jj J 0 2 0 (Np b c true) (e1 J m [1,0,1] [])) (cond (4<I a 2) (jj J 0 2 0 (Np b c true) (e1 J m [1,0,1] [])) (cond (I a 3<4) (jj J 0 2 0 (Np b c true) (e1 J m [1,0,1] [])) (cond (6<I a 3) (jj J 0 2 0 (Np b c true) (e1 J m [1,0,1] [])) (bif 8<((L a 1).length:Int)then jj J 0 2 0 (Np b c true) (e1 J m [1,0,1] [])else(i14 m (L a 1)).bind fun d=>jj J 0 2 0 (Np b c d) (e1 J m [1,0,1] [])))))) (fun J=>by kernel_rfl) (by simp only[ay,aa2 m];rfl)
def aml:List Nat:=[1,1,1,1,1]
def Qc:List Nat:=[1,1,1,1,1,1,1,1]
def aa3:List Nat:=[1,1,1,1,1,1,1,0,1]
def aa4:List Nat:=aa3++[0]
def asw:List Nat:=Qc++[1,1]
def apq:List Nat:=Qc++[1,0,1]
def aa5:List Nat:=apq++[0]
def aa6:List Nat:=aa4++[0,1,1]
def asx:List Nat:=aa6++[1]
def apr:List Nat:=aa5++[0,1,1]
def asy:List Nat:=apr++[1]
def asz:List Nat:=aa6++[0,0,1,1]
def apt:List Nat:=aa6++[0,0,1,0,1,1]
noncomputable def e0(J:Nat->Nat->Nat->St->Option Bool->Option Bool)(m:Nat)(p ms:List Nat)(σ:St):=evAt Tryz.prog env (ct m) J (m+1) 6 85 Tryz.f6 d8 p ms σ
noncomputable def l0(J:Nat->Nat->Nat->St->Option Bool->Option Bool)(m:Nat)(p ms:List Nat)(M:Nat)(σ:St):=loopAt Tryz.prog env (ct m) J (m+1) 6 85 Tryz.f6 d8 p ms M σ
noncomputable def Bz(a b c:List Dt)(d e:Int)(f:List Dt):St:=⟨tsOf [(0,(.dat 23 (.lst a))),(1,(.dat 23 (.lst b))),(8,(.row 0)),(9,(.fn 29 [])),(41,(.dat 54 (.lst c))),(42,(.dat 3 (.int d))),(43,(.dat 3 (.int e)))],[(.row 23 f)],0⟩
noncomputable def asA(a b c:List Dt)(d e:Int)(f:List Dt)(g:Dt):St:=⟨tsOf [(0,(.dat 23 (.lst a))),(1,(.dat 23 (.lst b))),(8,(.row 0)),(9,(.fn 29 [])),(11,(.ptr 1 [] 0)),(41,(.dat 54 (.lst c))),(42,(.dat 3 (.int d))),(43,(.dat 3 (.int e)))],[(.row 23 f),(.box 77 (.dat 77 g))],0⟩
noncomputable def apu(a b c:List Dt)(d e:Int)(f:Bool)(g:List Dt)(h:Dt):St:=⟨tsOf [(0,(.dat 23 (.lst a))),(1,(.dat 23 (.lst b))),(8,(.row 0)),(9,(.fn 29 [])),(11,(.ptr 1 [] 0)),(41,(.dat 54 (.lst c))),(42,(.dat 3 (.int d))),(43,(.dat 3 (.int e))),(59,(.dat 4 (.bool f)))],[(.row 23 g),(.box 77 (.dat 77 h))],0⟩
noncomputable def ni(a:List Dt)(b c:Int)(d e:List Dt):St:=⟨tsOf [(8,(.row 0)),(9,(.fn 29 [])),(14,(.row 1)),(68,(.dat 23 (.lst a))),(69,(.dat 3 (.int b))),(70,(.dat 3 (.int c)))],[(.row 23 d),(.row 23 e)],0⟩
noncomputable def amm(a b:List Dt):St:=⟨tsOf [(8,(.row 0)),(14,(.row 1))],[(.row 23 a),(.row 23 b)],0⟩
noncomputable def asB(a b c:List Dt):St:=⟨tsOf [(0,(.dat 23 (.lst a))),(1,(.dat 23 (.lst b))),(8,(.row 0)),(9,(.fn 29 []))],[(.row 23 c)],0⟩
noncomputable def asC(a b c:List Dt):St:=⟨tsOf [(0,(.dat 23 (.lst a))),(1,(.dat 23 (.lst b))),(6,(.dat 54 (.lst c)))],[],0⟩
noncomputable def asD(a b:List Dt)(c:ByteArray)(d e:Int)(f:List Dt):St:=⟨tsOf [(0,(.dat 23 (.lst a))),(1,(.dat 23 (.lst b))),(5,(.ptr 0 [] 0))],[(.box 51 (.agg 51 [(.dat 9 (.str c)),(.row 1),(.dat 3 (.int d)),(.dat 3 (.int e))])),(.row 49 f)],0⟩
noncomputable def apv(a b:List Dt)(c:Bool)(d:ByteArray)(e f:Int)(g:List Dt):St:=⟨tsOf [(0,(.dat 23 (.lst a))),(1,(.dat 23 (.lst b))),(5,(.ptr 0 [] 0)),(28,(.dat 4 (.bool c)))],[(.box 51 (.agg 51 [(.dat 9 (.str d)),(.row 1),(.dat 3 (.int e)),(.dat 3 (.int f))])),(.row 49 g)],0⟩
abbrev ai7(m h:Nat)(a:List Dt->List Dt->List Dt->Int->Int->List Dt->Option Bool):Prop:=∀b c d e f g,l0 jn m aa4 [] h (Bz b c d e f g)=a b c d e f g
theorem aa7 m b a(j:ai7 m b a) c d e f h i:e0 jn m asx [b] (Bz c d e f h i)=Yd m a c d e f h i:=
 tre (g:=fun J=>jj J 1 10 b (Bz c d e f (wrap .i64 (h+1)) i) (l0 J m aa4 [] b)) (fun J=>by kernel_rfl) (by simp only[ay,j];rfl)
theorem aa8 m b a(k:ai7 m b a) c d e f h i j:e0 jn m asz [b] (asA c d e f h i j)=O1 m a c d e f h i j:=
 tre (g:=fun J=>(i6 m (fld j 3) i).bind fun l=>jj J 0 16 0 (Bz c d e f h l) (e0 J m asx [b])) (fun J=>by kernel_rfl) (by simp only[ay,aa7 m b a k];rfl)
theorem aa9 m b a(l:ai7 m b a) c d e f h i j k:e0 jn m apt [b] (apu c d e f h i j k)=Ye m a c d e f h i j k:=
 tre (g:=fun J=>cond i (some false) (jj J 0 15 0 (asA c d e f h j k) (e0 J m asz [b]))) (fun J=>by kernel_rfl) (by simp only[ay,aa8 m b a l];rfl)
theorem abb m b a(k:ai7 m b a) e f c h d i:e0 jn m aa6 [b] (Bz e f c h d i)=Yf m a e f c h d i:=
 tre (g:=fun J=>(idx c d).bind fun j=>(zN m (fld j 3)).bind fun l=>cond (!l.2) (jj J 0 14 0 (apu e f c h d true i j) (e0 J m apt [b])) (jj J 0 14 0 (apu e f c h d (I j 0 !=2) i j) (e0 J m apt [b]))) (fun J=>by kernel_rfl) (by simp only[ay,aa9 m b a k];rfl)
abbrev amn(m b:Nat)(a:List Dt->Int->Int->List Dt->List Dt->Option Bool):Prop:=∀c d e f g,l0 jn m aa5 [] b (ni c d e f g)=a c d e f g
theorem TK m b a(c:amn m b a) d e f h i:e0 jn m asy [b] (ni d e f h i)=MN m a d e f h i:=
 tre (g:=fun J=>jj J 1 19 b (ni d e (wrap .i64 (f+1)) h i) (l0 J m aa5 [] b)) (fun J=>by kernel_rfl) (by simp only[ay,c];rfl)
theorem TL m b a(e:amn m b a) c f d h i:e0 jn m apr [b] (ni c f d h i)=MO m a c f d h i:=
 tre (g:=fun J=>(idx c d).bind fun j=>(i6 m j i).bind fun k=>jj J 0 22 0 (ni c f d h k) (e0 J m asy [b])) (fun J=>by kernel_rfl) (by simp only[ay,TK m b a e];rfl)
theorem TM m a b:e0 jn m asw [] (amm a b)=Fb m a b:=
 tre (g:=fun J=>(qR m a b).bind fun c=>cond c ((o9).bind fun d=>some d) (some false)) (fun J=>by kernel_rfl) (by rfl)
theorem DL m:∀a f b c d e,l0 jn m aa5 [] a (ni f b c d e)=sV m a f b c d e
 |0,_,_,_,_,_=>rfl
 |a+1,f,b,c,d,e=>
  trl (g:=fun J=>cond (c<b) (jj J 0 20 0 (ni f b c d e) (e0 J m apr [a])) (jj J 0 23 0 (amm d e) (e0 J m asw []))) (fun J=>by kernel_rfl) (by simp only[ay,TL m a (sV m a) (DL m a),TM m];rfl)
theorem TN m a b c d e:e0 jn m apq [] (ni a b c d e)=MP m a b c d e:=
 tre (g:=fun J=>jj J 1 19 (succ m) (ni a b c d e) (l0 J m aa5 [] (succ m))) (fun J=>by kernel_rfl) (by simp only[ay,DL m];rfl)
theorem abd m b a c:e0 jn m Qc [] (asB b a c)=O3 m b a c:=
 tre (g:=fun J=>(slices_Clone b).bind fun d=>jj J 0 19 0 (ni a (a.length:Int) 0 c d) (e0 J m apq [])) (fun J=>by kernel_rfl) (by simp only[ay,TN m];rfl)
theorem Jk m:∀a b c h d e f,l0 jn m aa4 [] a (Bz b c h d e f)=CX m a b c h d e f
 |0,_,_,_,_,_,_=>rfl
 |a+1,b,c,h,d,e,f=>
  trl (g:=fun J=>cond (e<d) (jj J 0 11 0 (Bz b c h d e f) (e0 J m aa6 [a])) (jj J 0 17 0 (asB b c f) (e0 J m Qc []))) (fun J=>by kernel_rfl) (by simp only[ay,abb m a (CX m a) (Jk m a),abd m];rfl)
theorem abe m a b c d e f:e0 jn m aa3 [] (Bz a b c d e f)=Yg m a b c d e f:=
 tre (g:=fun J=>jj J 1 10 (succ m) (Bz a b c d e f) (l0 J m aa4 [] (succ m))) (fun J=>by kernel_rfl) (by simp only[ay,Jk m];rfl)
theorem abf m a c b:e0 jn m aml [] (asC a c b)=O4 m a c b:=
 tre (g:=fun J=>(slices_Clone a).bind fun d=>jj J 0 10 0 (Bz a c b (b.length:Int) 0 d) (e0 J m aa3 [])) (fun J=>by kernel_rfl) (by simp only[ay,abe m];rfl)
theorem abg m a b c d e f:e0 jn m [1,1,1] [] (asD a b c d e f)=Yh m a b c d e f:=
 tre (g:=fun J=>(qP m (agg [str c,lst f,int d,int e]) a b).bind fun h=>cond (h.2 !=0) (some false) (jj J 0 7 0 (asC a b h.1) (e0 J m aml []))) (fun J=>by kernel_rfl) (by simp only[ay,abf m];rfl)
theorem abh m a b c d e f h:e0 jn m [1,1,0,1] [] (apv a b c d e f h)=CY m a b c d e f h:=
 tre (g:=fun J=>cond c ((o9).bind fun i=>some i) (jj J 0 4 0 (asD a b d e f h) (e0 J m [1,1,1] []))) (fun J=>by kernel_rfl) (by simp only[ay,abg m];rfl)
theorem asE m b a:e0 jn m [] [] ⟨[(.dat 23 (.lst b)),(.dat 23 (.lst a))],[],0⟩=qA (m+1) b a:=
 tre (g:=fun J=>(zG m jP b a).bind fun d=>cond (!d) (jj J 0 3 0 (apv b a true (ByteArray.mk (List.toArray [115])) 1 5 [lst [str (ByteArray.mk (List.toArray [95,105,100]))]]) (e0 J m [1,1,0,1] [])) ((i9 m a).bind fun c=>jj J 0 3 0 (apv b a c (ByteArray.mk (List.toArray [115])) 1 5 [lst [str (ByteArray.mk (List.toArray [95,105,100]))]]) (e0 J m [1,1,0,1] []))) (fun J=>by kernel_rfl) (by simp only[ay,abh m];rfl)
end Go.Proofs.YtmecfjhdnbgfeaaGreatDoor
namespace Go.Proofs.YtmecfjhdnbgfeaaGreatDoor
open Go.Am
set_option maxRecDepth 100000
theorem mixed:Tryz.prog.follows .mixedOrders=true:=by kernel_rfl
theorem asF(m:Nat)(hct:∀R,CallOK (R:=R) Tryz.prog (ct m))(a c:List Dt){r:Bool}(h:qR (m+1) a c=some r):FX Tryz.prog 13 [(.dat 23 (.lst a)),(.dat 23 (.lst c))] [] (.dat 4 (.bool r)) []:=
 FX_of (q:=((.dat 4 (.bool r)),[])) (E:=env) (m:=m+1) (dec:=d8) jn_ok (hct _) mixed Tryz.func13 rfl (ak rfl) (fun b hb=>dh hb) ((aua m a c).trans h)
theorem asG(m:Nat)(hct:∀R,CallOK (R:=R) Tryz.prog (ct m))(a c:Dt){r:Bool}(h:qW (m+1) a c=some r):FX Tryz.prog 42 [(.dat 26 a),(.dat 26 c)] [] (.dat 4 (.bool r)) []:=
 FX_of (q:=((.dat 4 (.bool r)),[])) (E:=env) (m:=m+1) (dec:=d8) jn_ok (hct _) mixed Tryz.func42 rfl (ak rfl) (fun b hb=>dh hb) ((aub m a c).trans h)
theorem asH(m:Nat)(hct:∀R,CallOK (R:=R) Tryz.prog (ct m))(a:Dt){r:Dt}(h:qB (m+1) a=some r):FX Tryz.prog 58 [(.dat 26 a)] [] (.dat 26 r) []:=
 FX_of (q:=((.dat 26 r),[])) (E:=env) (m:=m+1) (dec:=d17) jn_ok (hct _) mixed Tryz.func58 rfl (ak rfl) (fun b hb=>rT hb) ((auc m a).trans h)
theorem apw(m:Nat)(hct:∀R,CallOK (R:=R) Tryz.prog (ct m))(a c:Int){r:Bool×Int}(h:i32 (m+1) a c=some r):FX Tryz.prog 195 [(.dat 3 (.int a)),(.ptr 0 [] 0)] [(.box 3 (.dat 3 (.int c)))] (.dat 4 (.bool r.1)) [(.box 3 (.dat 3 (.int r.2)))]:=
 FX_of (q:=((.dat 4 (.bool r.1)),[(.box 3 (.dat 3 (.int r.2)))])) (E:=env) (m:=m+1) (dec:=d32) jn_ok (hct _) mixed Tryz.func195 rfl (ak rfl) (fun b hb=>ake hb) ((aqW m a c).trans h)
theorem apx(m:Nat)(hct:∀R,CallOK (R:=R) Tryz.prog (ct m))(a:List Dt)(c:Int){r:Int×Int}(h:i31 (m+1) a c=some r):FX Tryz.prog 229 [(.dat 75 (.lst a)),(.fn 195 [(.ptr 0 [] 0)])] [(.box 3 (.dat 3 (.int c)))] (.dat 3 (.int r.1)) [(.box 3 (.dat 3 (.int r.2)))]:=
 FX_of (q:=((.dat 3 (.int r.1)),[(.box 3 (.dat 3 (.int r.2)))])) (E:=env) (m:=m+1) (dec:=d31) jn_ok (hct _) mixed Tryz.func229 rfl (ak rfl) (fun b hb=>akf hb) ((aqX m a c).trans h)
theorem apy(m:Nat)(hct:∀R,CallOK (R:=R) Tryz.prog (ct m))(a:List Dt)(c:Int){r:List Dt×Int}(h:i30 (m+1) a c=some r):FX Tryz.prog 194 [(.dat 75 (.lst a)),(.fn 195 [(.ptr 0 [] 0)])] [(.box 3 (.dat 3 (.int c)))] (.dat 75 (.lst r.1)) [(.box 3 (.dat 3 (.int r.2)))]:=
 FX_of (q:=((.dat 75 (.lst r.1)),[(.box 3 (.dat 3 (.int r.2)))])) (E:=env) (m:=m+1) (dec:=d30) jn_ok (hct _) mixed Tryz.func194 rfl (ak rfl) (fun b hb=>akg hb) ((aqY m a c).trans h)
theorem apz(m:Nat)(hct:∀R,CallOK (R:=R) Tryz.prog (ct m))(a:List Dt)(c:Int){r:List Dt×Int}(h:i33 (m+1) a c=some r):FX Tryz.prog 194 [(.row 0),(.fn 195 [(.ptr 1 [] 0)])] [(.row 75 a),(.box 3 (.dat 3 (.int c)))] (.row 0) [(.frz 75 r.1),(.box 3 (.dat 3 (.int r.2)))]:=
 FX_of (q:=((.row 0),[(.frz 75 r.1),(.box 3 (.dat 3 (.int r.2)))])) (E:=env) (m:=m+1) (dec:=d33) jn_ok (hct _) mixed Tryz.func194 rfl (ak rfl) (fun b hb=>akh hb) ((aqZ m a c).trans h)
theorem asI(m:Nat)(hct:∀R,CallOK (R:=R) Tryz.prog (ct m))(a c:Int){r:Int}(h:zM (m+1) a c=some r):FX Tryz.prog 60 [(.dat 3 (.int a)),(.dat 3 (.int c))] [] (.dat 3 (.int r)) []:=
 FX_of (q:=((.dat 3 (.int r)),[])) (E:=env) (m:=m+1) (dec:=d36) jn_ok (hct _) mixed Tryz.func60 rfl (ak rfl) (fun b hb=>dz hb) ((aud m a c).trans h)
theorem asJ(m:Nat)(hct:∀R,CallOK (R:=R) Tryz.prog (ct m))(a c:ByteArray){r:Int}(h:zE (m+1) a c=some r):FX Tryz.prog 61 [(.dat 9 (.str a)),(.dat 9 (.str c))] [] (.dat 3 (.int r)) []:=
 FX_of (q:=((.dat 3 (.int r)),[])) (E:=env) (m:=m+1) (dec:=d36) jn_ok (hct _) mixed Tryz.func61 rfl (ak rfl) (fun b hb=>dz hb) ((aue m a c).trans h)
theorem asK(m:Nat)(hct:∀R,CallOK (R:=R) Tryz.prog (ct m))(a c:Dt){r:Int}(h:qC (m+1) a c=some r):FX Tryz.prog 21 [(.dat 26 a),(.dat 26 c)] [] (.dat 3 (.int r)) []:=
 FX_of (q:=((.dat 3 (.int r)),[])) (E:=env) (m:=m+1) (dec:=d36) jn_ok (hct _) mixed Tryz.func21 rfl (ak rfl) (fun b hb=>dz hb) ((aui m a c).trans h)
theorem asL(m:Nat)(hct:∀R,CallOK (R:=R) Tryz.prog (ct m))(a:Dt)(c:List Dt){r:List Dt}(h:i6 (m+1) a c=some r):FX Tryz.prog 29 [(.row 0),(.dat 26 a)] [(.row 23 c)] (.row 1) [.gone,(.row 23 r)]:=
 FX_of (q:=((.row 1),[.gone,(.row 23 r)])) (E:=env) (m:=m+1) (dec:=d6) jn_ok (hct _) mixed Tryz.func29 rfl (ak rfl) (fun b hb=>aqT hb) ((aum m a c).trans h)
theorem asM(m:Nat)(hct:∀R,CallOK (R:=R) Tryz.prog (ct m))(a:List Dt)(c:ByteArray){r:Int}(h:zH (m+1) a c=some r):FX Tryz.prog 144 [(.dat 24 (.lst a)),(.dat 9 (.str c))] [] (.dat 3 (.int r)) []:=
 FX_of (q:=((.dat 3 (.int r)),[])) (E:=env) (m:=m+1) (dec:=d36) jn_ok (hct _) mixed Tryz.func144 rfl (ak rfl) (fun b hb=>dz hb) ((aun m a c).trans h)
theorem asN(m:Nat)(hct:∀R,CallOK (R:=R) Tryz.prog (ct m))(a:ByteArray){r:Int×Bool}(h:zA (m+1) a=some r):FX Tryz.prog 145 [(.dat 9 (.str a))] [] (.tup [(.dat 3 (.int r.1)),(.dat 4 (.bool r.2))]) []:=
 FX_of (q:=((.tup [(.dat 3 (.int r.1)),(.dat 4 (.bool r.2))]),[])) (E:=env) (m:=m+1) (dec:=d45) jn_ok (hct _) mixed Tryz.func145 rfl (ak rfl) (fun b hb=>aki hb) ((auo m a).trans h)
theorem asO(m:Nat)(hct:∀R,CallOK (R:=R) Tryz.prog (ct m))(a:Dt){r:Dt}(h:qG (m+1) a=some r):FX Tryz.prog 146 [(.dat 26 a)] [] (.dat 26 r) []:=
 FX_of (q:=((.dat 26 r),[])) (E:=env) (m:=m+1) (dec:=d17) jn_ok (hct _) mixed Tryz.func146 rfl (ak rfl) (fun b hb=>rT hb) ((aup m a).trans h)
theorem asP(m:Nat)(hct:∀R,CallOK (R:=R) Tryz.prog (ct m))(a:Dt)(c:List Dt){r:Dt}(h:zJ (m+1) a c=some r):FX Tryz.prog 109 [(.dat 26 a),(.dat 22 (.lst c))] [] (.dat 26 r) []:=
 FX_of (q:=((.dat 26 r),[])) (E:=env) (m:=m+1) (dec:=d17) jn_ok (hct _) mixed Tryz.func109 rfl (ak rfl) (fun b hb=>rT hb) ((auq m a c).trans h)
theorem asQ(m:Nat)(hct:∀R,CallOK (R:=R) Tryz.prog (ct m))(a:Dt){r:Int×Int×ByteArray×List Dt×List Dt}(h:qJ (m+1) a=some r):FX Tryz.prog 156 [(.dat 26 a)] [] (.agg 26 [(.dat 3 (.int r.1)),(.dat 3 (.int r.2.1)),(.dat 9 (.str r.2.2.1)),(.row 0),(.row 1)]) [(.row 23 r.2.2.2.1),(.row 24 r.2.2.2.2)]:=
 FX_of (q:=((.agg 26 [(.dat 3 (.int r.1)),(.dat 3 (.int r.2.1)),(.dat 9 (.str r.2.2.1)),(.row 0),(.row 1)]),[(.row 23 r.2.2.2.1),(.row 24 r.2.2.2.2)])) (E:=env) (m:=m+1) (dec:=d52) jn_ok (hct _) mixed Tryz.func156 rfl (ak rfl) (fun b hb=>akj hb) ((aur m a).trans h)
theorem asR(m:Nat)(hct:∀R,CallOK (R:=R) Tryz.prog (ct m))(a:Dt)(c:ByteArray){r:Int}(h:zI (m+1) a c=some r):FX Tryz.prog 157 [(.dat 26 a),(.dat 9 (.str c))] [] (.dat 3 (.int r)) []:=
 FX_of (q:=((.dat 3 (.int r)),[])) (E:=env) (m:=m+1) (dec:=d36) jn_ok (hct _) mixed Tryz.func157 rfl (ak rfl) (fun b hb=>dz hb) ((aus m a c).trans h)
theorem asS(m:Nat)(hct:∀R,CallOK (R:=R) Tryz.prog (ct m))(a:Dt)(c:ByteArray)(d:Dt){r:Dt}(h:zY (m+1) a c d=some r):FX Tryz.prog 119 [(.dat 26 a),(.dat 9 (.str c)),(.dat 26 d)] [] (.dat 26 r) []:=
 FX_of (q:=((.dat 26 r),[])) (E:=env) (m:=m+1) (dec:=d17) jn_ok (hct _) mixed Tryz.func119 rfl (ak rfl) (fun b hb=>rT hb) ((aut m a c d).trans h)
theorem asT(m:Nat)(hct:∀R,CallOK (R:=R) Tryz.prog (ct m))(a:Dt)(c:ByteArray){r:Dt×Bool}(h:z8 (m+1) a c=some r):FX Tryz.prog 138 [(.dat 26 a),(.dat 9 (.str c))] [] (.tup [(.dat 26 r.1),(.dat 4 (.bool r.2))]) []:=
 FX_of (q:=((.tup [(.dat 26 r.1),(.dat 4 (.bool r.2))]),[])) (E:=env) (m:=m+1) (dec:=d48) jn_ok (hct _) mixed Tryz.func138 rfl (ak rfl) (fun b hb=>QN hb) ((auu m a c).trans h)
theorem asU(m:Nat)(hct:∀R,CallOK (R:=R) Tryz.prog (ct m))(a:Dt){r:Dt}(h:zL (m+1) a=some r):FX Tryz.prog 101 [(.dat 26 a)] [] (.dat 26 r) []:=
 FX_of (q:=((.dat 26 r),[])) (E:=env) (m:=m+1) (dec:=d17) jn_ok (hct _) mixed Tryz.func101 rfl (ak rfl) (fun b hb=>rT hb) ((auv m a).trans h)
theorem apA(m:Nat)(hct:∀R,CallOK (R:=R) Tryz.prog (ct m))(a c d:Dt)(e f g i:List Dt){r:Dt×List Dt×List Dt×List Dt×List Dt}(h:i26 (m+1) a c d e f g i=some r):FX Tryz.prog 140 [(.ptr 0 [] 0),(.dat 26 a),(.dat 26 c)] [(.box 114 (.agg 114 [(.dat 51 d),(.row 1),(.row 2),(.row 3),(.row 4)])),(.row 112 e),(.map 110 f),(.map 111 g),(.row 54 i)] (.tup []) [(.box 114 (.agg 114 [(.dat 51 r.1),(.row 5),(.row 2),(.row 3),(.row 6)])),.gone,(.map 110 r.2.1),(.map 111 r.2.2.1),.gone,(.row 112 r.2.2.2.1),(.row 54 r.2.2.2.2)]:=
 FX_of (q:=((.tup []),[(.box 114 (.agg 114 [(.dat 51 r.1),(.row 5),(.row 2),(.row 3),(.row 6)])),.gone,(.map 110 r.2.1),(.map 111 r.2.2.1),.gone,(.row 112 r.2.2.2.1),(.row 54 r.2.2.2.2)])) (E:=env) (m:=m+1) (dec:=d26) jn_ok (hct _) mixed Tryz.func140 rfl (ak rfl) (fun b hb=>Gm hb) ((aq7 m a c d e f g i).trans h)
theorem asV(m:Nat)(hct:∀R,CallOK (R:=R) Tryz.prog (ct m))(a:ByteArray){r:Bool}(h:qS (m+1) a=some r):FX Tryz.prog 97 [(.dat 9 (.str a))] [] (.dat 4 (.bool r)) []:=
 FX_of (q:=((.dat 4 (.bool r)),[])) (E:=env) (m:=m+1) (dec:=d8) jn_ok (hct _) mixed Tryz.func97 rfl (ak rfl) (fun b hb=>dh hb) ((auw m a).trans h)
theorem asW(m:Nat)(hct:∀R,CallOK (R:=R) Tryz.prog (ct m))(a:List Dt){r:Bool}(h:zD (m+1) a=some r):FX Tryz.prog 65 [(.dat 22 (.lst a))] [] (.dat 4 (.bool r)) []:=
 FX_of (q:=((.dat 4 (.bool r)),[])) (E:=env) (m:=m+1) (dec:=d8) jn_ok (hct _) mixed Tryz.func65 rfl (ak rfl) (fun b hb=>dh hb) ((auy m a).trans h)
theorem asX(m:Nat)(hct:∀R,CallOK (R:=R) Tryz.prog (ct m))(a:List Dt){r:Bool}(h:zQ (m+1) a=some r):FX Tryz.prog 64 [(.dat 22 (.lst a))] [] (.dat 4 (.bool r)) []:=
 FX_of (q:=((.dat 4 (.bool r)),[])) (E:=env) (m:=m+1) (dec:=d8) jn_ok (hct _) mixed Tryz.func64 rfl (ak rfl) (fun b hb=>dh hb) ((auz m a).trans h)
theorem apB(m:Nat)(hct:∀R,CallOK (R:=R) Tryz.prog (ct m))(a:List Dt){r:Int}(h:i15 (m+1) a=some r):FX Tryz.prog 96 [(.dat 49 (.lst a)),(.fn 64 [])] [] (.dat 3 (.int r)) []:=
 FX_of (q:=((.dat 3 (.int r)),[])) (E:=env) (m:=m+1) (dec:=d36) jn_ok (hct _) mixed Tryz.func96 rfl (ak rfl) (fun b hb=>dz hb) ((aq8 m a).trans h)
theorem apC(m:Nat)(hct:∀R,CallOK (R:=R) Tryz.prog (ct m))(a:List Dt){r:Bool}(h:i14 (m+1) a=some r):FX Tryz.prog 63 [(.dat 49 (.lst a)),(.fn 64 [])] [] (.dat 4 (.bool r)) []:=
 FX_of (q:=((.dat 4 (.bool r)),[])) (E:=env) (m:=m+1) (dec:=d8) jn_ok (hct _) mixed Tryz.func63 rfl (ak rfl) (fun b hb=>dh hb) ((aq9 m a).trans h)
theorem asY(m:Nat)(hct:∀R,CallOK (R:=R) Tryz.prog (ct m))(a:Int){r:Int}(h:zX (m+1) a=some r):FX Tryz.prog 239 [(.dat 3 (.int a))] [] (.dat 215 (.int r)) []:=
 FX_of (q:=((.dat 215 (.int r)),[])) (E:=env) (m:=m+1) (dec:=d61) jn_ok (hct _) mixed Tryz.func239 rfl (ak rfl) (fun b hb=>akk hb) ((auA m a).trans h)
theorem apD(m:Nat)(hct:∀R,CallOK (R:=R) Tryz.prog (ct m))(a:Int)(c:List Dt){r:List Dt}(h:i60 (m+1) a c=some r):FX Tryz.prog 226 [(.row 0),(.dat 3 (.int a))] [(.row 193 c)] (.row 1) [.gone,(.row 193 r)]:=
 FX_of (q:=((.row 1),[.gone,(.row 193 r)])) (E:=env) (m:=m+1) (dec:=d60) jn_ok (hct _) mixed Tryz.func226 rfl (ak rfl) (fun b hb=>Gn hb) ((ara m a c).trans h)
theorem apE(m:Nat)(hct:∀R,CallOK (R:=R) Tryz.prog (ct m))(a:ByteArray)(c:List Dt){r:List Dt}(h:i62 (m+1) a c=some r):FX Tryz.prog 227 [(.row 0),(.dat 9 (.str a))] [(.row 193 c)] (.row 1) [.gone,(.row 193 r)]:=
 FX_of (q:=((.row 1),[.gone,(.row 193 r)])) (E:=env) (m:=m+1) (dec:=d60) jn_ok (hct _) mixed Tryz.func227 rfl (ak rfl) (fun b hb=>Gn hb) ((arb m a c).trans h)
theorem apF(m:Nat)(hct:∀R,CallOK (R:=R) Tryz.prog (ct m))(a:Dt)(c:List Dt){r:List Dt}(h:i59 (m+1) a c=some r):FX Tryz.prog 192 [(.row 0),(.dat 26 a)] [(.row 193 c)] (.row 1) [.gone,(.row 193 r)]:=
 FX_of (q:=((.row 1),[.gone,(.row 193 r)])) (E:=env) (m:=m+1) (dec:=d60) jn_ok (hct _) mixed Tryz.func192 rfl (ak rfl) (fun b hb=>Gn hb) ((ard m a c).trans h)
theorem asZ(m:Nat)(hct:∀R,CallOK (R:=R) Tryz.prog (ct m))(a:Dt)(c:Int){r:Int}(h:zS (m+1) a c=some r):FX Tryz.prog 218 [(.dat 26 a),(.dat 3 (.int c))] [] (.dat 3 (.int r)) []:=
 FX_of (q:=((.dat 3 (.int r)),[])) (E:=env) (m:=m+1) (dec:=d36) jn_ok (hct _) mixed Tryz.func218 rfl (ak rfl) (fun b hb=>dz hb) ((auC m a c).trans h)
theorem apG(m:Nat)(hct:∀R,CallOK (R:=R) Tryz.prog (ct m))(a:Dt)(c d:Int){r:Int×Int}(h:i84 (m+1) a c d=some r):FX Tryz.prog 234 [(.dat 26 a),(.fn 235 [(.ptr 0 [] 0),(.ptr 1 [] 0)])] [(.box 3 (.dat 3 (.int c))),(.box 3 (.dat 3 (.int d)))] (.tup []) [(.box 3 (.dat 3 (.int r.1))),(.box 3 (.dat 3 (.int r.2)))]:=
 FX_of (q:=((.tup []),[(.box 3 (.dat 3 (.int r.1))),(.box 3 (.dat 3 (.int r.2)))])) (E:=env) (m:=m+1) (dec:=d84) jn_ok (hct _) mixed Tryz.func234 rfl (ak rfl) (fun b hb=>QO hb) ((arf m a c d).trans h)
theorem apH(m:Nat)(hct:∀R,CallOK (R:=R) Tryz.prog (ct m))(a:Dt)(c d:Int){r:Bool×Int×Int}(h:i85 (m+1) a c d=some r):FX Tryz.prog 235 [(.dat 26 a),(.ptr 0 [] 0),(.ptr 1 [] 0)] [(.box 3 (.dat 3 (.int c))),(.box 3 (.dat 3 (.int d)))] (.dat 4 (.bool r.1)) [(.box 3 (.dat 3 (.int r.2.1))),(.box 3 (.dat 3 (.int r.2.2)))]:=
 FX_of (q:=((.dat 4 (.bool r.1)),[(.box 3 (.dat 3 (.int r.2.1))),(.box 3 (.dat 3 (.int r.2.2)))])) (E:=env) (m:=m+1) (dec:=d85) jn_ok (hct _) mixed Tryz.func235 rfl (ak rfl) (fun b hb=>QS hb) ((arh m a c d).trans h)
theorem as0(m:Nat)(hct:∀R,CallOK (R:=R) Tryz.prog (ct m))(a:Dt){r:Int}(h:yC (m+1) a=some r):FX Tryz.prog 169 [(.dat 26 a)] [] (.dat 3 (.int r)) []:=
 FX_of (q:=((.dat 3 (.int r)),[])) (E:=env) (m:=m+1) (dec:=d36) jn_ok (hct _) mixed Tryz.func169 rfl (ak rfl) (fun b hb=>dz hb) ((auD m a).trans h)
theorem as3(m:Nat)(hct:∀R,CallOK (R:=R) Tryz.prog (ct m))(a:Dt)(c:Int){r:Int}(h:zT (m+1) a c=some r):FX Tryz.prog 219 [(.dat 26 a),(.dat 3 (.int c))] [] (.dat 3 (.int r)) []:=
 FX_of (q:=((.dat 3 (.int r)),[])) (E:=env) (m:=m+1) (dec:=d36) jn_ok (hct _) mixed Tryz.func219 rfl (ak rfl) (fun b hb=>dz hb) ((auE m a c).trans h)
theorem apI(m:Nat)(hct:∀R,CallOK (R:=R) Tryz.prog (ct m))(a:Dt)(c d:Int){r:Int×Int}(h:i86 (m+1) a c d=some r):FX Tryz.prog 234 [(.dat 26 a),(.fn 236 [(.ptr 0 [] 0),(.ptr 1 [] 0)])] [(.box 3 (.dat 3 (.int c))),(.box 3 (.dat 3 (.int d)))] (.tup []) [(.box 3 (.dat 3 (.int r.1))),(.box 3 (.dat 3 (.int r.2)))]:=
 FX_of (q:=((.tup []),[(.box 3 (.dat 3 (.int r.1))),(.box 3 (.dat 3 (.int r.2)))])) (E:=env) (m:=m+1) (dec:=d84) jn_ok (hct _) mixed Tryz.func234 rfl (ak rfl) (fun b hb=>QO hb) ((ari m a c d).trans h)
theorem apJ(m:Nat)(hct:∀R,CallOK (R:=R) Tryz.prog (ct m))(a:Dt)(c d:Int){r:Bool×Int×Int}(h:i87 (m+1) a c d=some r):FX Tryz.prog 236 [(.dat 26 a),(.ptr 0 [] 0),(.ptr 1 [] 0)] [(.box 3 (.dat 3 (.int c))),(.box 3 (.dat 3 (.int d)))] (.dat 4 (.bool r.1)) [(.box 3 (.dat 3 (.int r.2.1))),(.box 3 (.dat 3 (.int r.2.2)))]:=
 FX_of (q:=((.dat 4 (.bool r.1)),[(.box 3 (.dat 3 (.int r.2.1))),(.box 3 (.dat 3 (.int r.2.2)))])) (E:=env) (m:=m+1) (dec:=d85) jn_ok (hct _) mixed Tryz.func236 rfl (ak rfl) (fun b hb=>QS hb) ((arj m a c d).trans h)
theorem as4(m:Nat)(hct:∀R,CallOK (R:=R) Tryz.prog (ct m))(a:Dt){r:Int}(h:yD (m+1) a=some r):FX Tryz.prog 170 [(.dat 26 a)] [] (.dat 3 (.int r)) []:=
 FX_of (q:=((.dat 3 (.int r)),[])) (E:=env) (m:=m+1) (dec:=d36) jn_ok (hct _) mixed Tryz.func170 rfl (ak rfl) (fun b hb=>dz hb) ((auF m a).trans h)
theorem as5(m:Nat)(hct:∀R,CallOK (R:=R) Tryz.prog (ct m))(a:Int){r:Int}(h:qX (m+1) a=some r):FX Tryz.prog 240 [(.dat 3 (.int a))] [] (.dat 3 (.int r)) []:=
 FX_of (q:=((.dat 3 (.int r)),[])) (E:=env) (m:=m+1) (dec:=d36) jn_ok (hct _) mixed Tryz.func240 rfl (ak rfl) (fun b hb=>dz hb) ((auG m a).trans h)
theorem as6(m:Nat)(hct:∀R,CallOK (R:=R) Tryz.prog (ct m))(a:Dt){r:Int}(h:qH (m+1) a=some r):FX Tryz.prog 228 [(.dat 26 a)] [] (.dat 3 (.int r)) []:=
 FX_of (q:=((.dat 3 (.int r)),[])) (E:=env) (m:=m+1) (dec:=d36) jn_ok (hct _) mixed Tryz.func228 rfl (ak rfl) (fun b hb=>dz hb) ((auH m a).trans h)
theorem as7(m:Nat)(hct:∀R,CallOK (R:=R) Tryz.prog (ct m))(a:Int){r:Bool}(h:yF (m+1) a=some r):FX Tryz.prog 128 [(.dat 3 (.int a))] [] (.dat 4 (.bool r)) []:=
 FX_of (q:=((.dat 4 (.bool r)),[])) (E:=env) (m:=m+1) (dec:=d8) jn_ok (hct _) mixed Tryz.func128 rfl (ak rfl) (fun b hb=>dh hb) ((auI m a).trans h)
theorem as8(m:Nat)(hct:∀R,CallOK (R:=R) Tryz.prog (ct m))(a c:Int){r:Int}(h:zF (m+1) a c=some r):FX Tryz.prog 86 [(.dat 3 (.int a)),(.dat 3 (.int c))] [] (.dat 3 (.int r)) []:=
 FX_of (q:=((.dat 3 (.int r)),[])) (E:=env) (m:=m+1) (dec:=d36) jn_ok (hct _) mixed Tryz.func86 rfl (ak rfl) (fun b hb=>dz hb) ((auJ m a c).trans h)
theorem as9(m:Nat)(hct:∀R,CallOK (R:=R) Tryz.prog (ct m))(a c:Dt){r:Int}(h:qF (m+1) a c=some r):FX Tryz.prog 45 [(.dat 26 a),(.dat 26 c)] [] (.dat 3 (.int r)) []:=
 FX_of (q:=((.dat 3 (.int r)),[])) (E:=env) (m:=m+1) (dec:=d36) jn_ok (hct _) mixed Tryz.func45 rfl (ak rfl) (fun b hb=>dz hb) ((auK m a c).trans h)
theorem ata(m:Nat)(hct:∀R,CallOK (R:=R) Tryz.prog (ct m))(a c:Dt){r:Bool}(h:yB (m+1) a c=some r):FX Tryz.prog 141 [(.dat 26 a),(.dat 26 c)] [] (.dat 4 (.bool r)) []:=
 FX_of (q:=((.dat 4 (.bool r)),[])) (E:=env) (m:=m+1) (dec:=d8) jn_ok (hct _) mixed Tryz.func141 rfl (ak rfl) (fun b hb=>dh hb) ((auL m a c).trans h)
theorem atb(m:Nat)(hct:∀R,CallOK (R:=R) Tryz.prog (ct m))(a:Dt){r:List Dt}(h:qQ (m+1) a=some r):FX Tryz.prog 133 [(.dat 26 a)] [] (.dat 23 (.lst r)) []:=
 FX_of (q:=((.dat 23 (.lst r)),[])) (E:=env) (m:=m+1) (dec:=d80) jn_ok (hct _) mixed Tryz.func133 rfl (ak rfl) (fun b hb=>akl hb) ((auM m a).trans h)
theorem atc(m:Nat)(hct:∀R,CallOK (R:=R) Tryz.prog (ct m))(a:Dt)(c:Int){r:Int}(h:qN (m+1) a c=some r):FX Tryz.prog 92 [(.dat 26 a),(.dat 3 (.int c))] [] (.dat 3 (.int r)) []:=
 FX_of (q:=((.dat 3 (.int r)),[])) (E:=env) (m:=m+1) (dec:=d36) jn_ok (hct _) mixed Tryz.func92 rfl (ak rfl) (fun b hb=>dz hb) ((auN m a c).trans h)
theorem atd(m:Nat)(hct:∀R,CallOK (R:=R) Tryz.prog (ct m))(a:Dt){r:Int}(h:yA (m+1) a=some r):FX Tryz.prog 54 [(.dat 26 a)] [] (.dat 3 (.int r)) []:=
 FX_of (q:=((.dat 3 (.int r)),[])) (E:=env) (m:=m+1) (dec:=d36) jn_ok (hct _) mixed Tryz.func54 rfl (ak rfl) (fun b hb=>dz hb) ((auO m a).trans h)
theorem ate(m:Nat)(hct:∀R,CallOK (R:=R) Tryz.prog (ct m))(a:Dt)(c:Int){r:Int}(h:zB (m+1) a c=some r):FX Tryz.prog 93 [(.dat 26 a),(.dat 3 (.int c))] [] (.dat 3 (.int r)) []:=
 FX_of (q:=((.dat 3 (.int r)),[])) (E:=env) (m:=m+1) (dec:=d36) jn_ok (hct _) mixed Tryz.func93 rfl (ak rfl) (fun b hb=>dz hb) ((auP m a c).trans h)
theorem atf(m:Nat)(hct:∀R,CallOK (R:=R) Tryz.prog (ct m))(a:Dt){r:Int}(h:yE (m+1) a=some r):FX Tryz.prog 55 [(.dat 26 a)] [] (.dat 3 (.int r)) []:=
 FX_of (q:=((.dat 3 (.int r)),[])) (E:=env) (m:=m+1) (dec:=d36) jn_ok (hct _) mixed Tryz.func55 rfl (ak rfl) (fun b hb=>dz hb) ((auQ m a).trans h)
theorem atg(m:Nat)(hct:∀R,CallOK (R:=R) Tryz.prog (ct m))(a:ByteArray)(c d:Int){r:Bool}(h:qZ (m+1) a c d=some r):FX Tryz.prog 134 [(.dat 9 (.str a)),(.dat 3 (.int c)),(.dat 3 (.int d))] [] (.dat 4 (.bool r)) []:=
 FX_of (q:=((.dat 4 (.bool r)),[])) (E:=env) (m:=m+1) (dec:=d8) jn_ok (hct _) mixed Tryz.func134 rfl (ak rfl) (fun b hb=>dh hb) ((auR m a c d).trans h)
theorem ath(m:Nat)(hct:∀R,CallOK (R:=R) Tryz.prog (ct m))(a:ByteArray){r:Bool}(h:qO (m+1) a=some r):FX Tryz.prog 94 [(.dat 9 (.str a))] [] (.dat 4 (.bool r)) []:=
 FX_of (q:=((.dat 4 (.bool r)),[])) (E:=env) (m:=m+1) (dec:=d8) jn_ok (hct _) mixed Tryz.func94 rfl (ak rfl) (fun b hb=>dh hb) ((auS m a).trans h)
theorem ati(m:Nat)(hct:∀R,CallOK (R:=R) Tryz.prog (ct m))(a:ByteArray){r:Bool}(h:qU (m+1) a=some r):FX Tryz.prog 135 [(.dat 9 (.str a))] [] (.dat 4 (.bool r)) []:=
 FX_of (q:=((.dat 4 (.bool r)),[])) (E:=env) (m:=m+1) (dec:=d8) jn_ok (hct _) mixed Tryz.func135 rfl (ak rfl) (fun b hb=>dh hb) ((auT m a).trans h)
theorem atj(m:Nat)(hct:∀R,CallOK (R:=R) Tryz.prog (ct m))(a:Dt)(c:Bool){r:Bool}(h:qE (m+1) a c=some r):FX Tryz.prog 56 [(.dat 26 a),(.dat 4 (.bool c))] [] (.dat 4 (.bool r)) []:=
 FX_of (q:=((.dat 4 (.bool r)),[])) (E:=env) (m:=m+1) (dec:=d8) jn_ok (hct _) mixed Tryz.func56 rfl (ak rfl) (fun b hb=>dh hb) ((auU m a c).trans h)
theorem atl(m:Nat)(hct:∀R,CallOK (R:=R) Tryz.prog (ct m))(a:Dt)(c:Bool){r:Bool}(h:qI (m+1) a c=some r):FX Tryz.prog 95 [(.dat 26 a),(.dat 4 (.bool c))] [] (.dat 4 (.bool r)) []:=
 FX_of (q:=((.dat 4 (.bool r)),[])) (E:=env) (m:=m+1) (dec:=d8) jn_ok (hct _) mixed Tryz.func95 rfl (ak rfl) (fun b hb=>dh hb) ((arS m a c).trans h)
theorem atm(m:Nat)(hct:∀R,CallOK (R:=R) Tryz.prog (ct m))(a:Dt){r:Bool}(h:zV (m+1) a=some r):FX Tryz.prog 18 [(.dat 26 a)] [] (.dat 4 (.bool r)) []:=
 FX_of (q:=((.dat 4 (.bool r)),[])) (E:=env) (m:=m+1) (dec:=d8) jn_ok (hct _) mixed Tryz.func18 rfl (ak rfl) (fun b hb=>dh hb) ((arT m a).trans h)
theorem atn(m:Nat)(hct:∀R,CallOK (R:=R) Tryz.prog (ct m))(a:Dt){r:Dt×Bool}(h:zN (m+1) a=some r):FX Tryz.prog 30 [(.dat 26 a)] [] (.tup [(.dat 26 r.1),(.dat 4 (.bool r.2))]) []:=
 FX_of (q:=((.tup [(.dat 26 r.1),(.dat 4 (.bool r.2))]),[])) (E:=env) (m:=m+1) (dec:=d48) jn_ok (hct _) mixed Tryz.func30 rfl (ak rfl) (fun b hb=>QN hb) ((arW m a).trans h)
theorem ato(m:Nat)(hct:∀R,CallOK (R:=R) Tryz.prog (ct m))(a:Dt){r:Bool}(h:zZ (m+1) a=some r):FX Tryz.prog 33 [(.dat 26 a)] [] (.dat 4 (.bool r)) []:=
 FX_of (q:=((.dat 4 (.bool r)),[])) (E:=env) (m:=m+1) (dec:=d8) jn_ok (hct _) mixed Tryz.func33 rfl (ak rfl) (fun b hb=>dh hb) ((arX m a).trans h)
theorem apK(m:Nat)(hct:∀R,CallOK (R:=R) Tryz.prog (ct m))(a:List Dt){r:Int}(h:i41 (m+1) a=some r):FX Tryz.prog 53 [(.dat 23 (.lst a)),(.fn 33 [])] [] (.dat 3 (.int r)) []:=
 FX_of (q:=((.dat 3 (.int r)),[])) (E:=env) (m:=m+1) (dec:=d36) jn_ok (hct _) mixed Tryz.func53 rfl (ak rfl) (fun b hb=>dz hb) ((apd m a).trans h)
theorem apL(m:Nat)(hct:∀R,CallOK (R:=R) Tryz.prog (ct m))(a:List Dt){r:Bool}(h:i40 (m+1) a=some r):FX Tryz.prog 16 [(.dat 23 (.lst a)),(.fn 33 [])] [] (.dat 4 (.bool r)) []:=
 FX_of (q:=((.dat 4 (.bool r)),[])) (E:=env) (m:=m+1) (dec:=d8) jn_ok (hct _) mixed Tryz.func16 rfl (ak rfl) (fun b hb=>dh hb) ((ape m a).trans h)
theorem atp(m:Nat)(hct:∀R,CallOK (R:=R) Tryz.prog (ct m))(a:List Dt){r:Bool}(h:z6 (m+1) a=some r):FX Tryz.prog 8 [(.dat 23 (.lst a))] [] (.dat 4 (.bool r)) []:=
 FX_of (q:=((.dat 4 (.bool r)),[])) (E:=env) (m:=m+1) (dec:=d8) jn_ok (hct _) mixed Tryz.func8 rfl (ak rfl) (fun b hb=>dh hb) ((arY m a).trans h)
theorem atq(m:Nat)(hct:∀R,CallOK (R:=R) Tryz.prog (ct m))(a:ByteArray){r:Bool}(h:qM (m+1) a=some r):FX Tryz.prog 238 [(.dat 9 (.str a))] [] (.dat 4 (.bool r)) []:=
 FX_of (q:=((.dat 4 (.bool r)),[])) (E:=env) (m:=m+1) (dec:=d8) jn_ok (hct _) mixed Tryz.func238 rfl (ak rfl) (fun b hb=>dh hb) ((arZ m a).trans h)
theorem atr(m:Nat)(hct:∀R,CallOK (R:=R) Tryz.prog (ct m))(a:Dt){r:Bool}(h:qD (m+1) a=some r):FX Tryz.prog 171 [(.dat 26 a)] [] (.dat 4 (.bool r)) []:=
 FX_of (q:=((.dat 4 (.bool r)),[])) (E:=env) (m:=m+1) (dec:=d8) jn_ok (hct _) mixed Tryz.func171 rfl (ak rfl) (fun b hb=>dh hb) ((ar0 m a).trans h)
theorem att(m:Nat)(hct:∀R,CallOK (R:=R) Tryz.prog (ct m))(a:List Dt){r:Bool}(h:qK (m+1) a=some r):FX Tryz.prog 221 [(.dat 24 (.lst a))] [] (.dat 4 (.bool r)) []:=
 FX_of (q:=((.dat 4 (.bool r)),[])) (E:=env) (m:=m+1) (dec:=d8) jn_ok (hct _) mixed Tryz.func221 rfl (ak rfl) (fun b hb=>dh hb) ((ar1 m a).trans h)
theorem atu(m:Nat)(hct:∀R,CallOK (R:=R) Tryz.prog (ct m))(a:Dt){r:Bool}(h:zW (m+1) a=some r):FX Tryz.prog 122 [(.dat 26 a)] [] (.dat 4 (.bool r)) []:=
 FX_of (q:=((.dat 4 (.bool r)),[])) (E:=env) (m:=m+1) (dec:=d8) jn_ok (hct _) mixed Tryz.func122 rfl (ak rfl) (fun b hb=>dh hb) ((ar3 m a).trans h)
theorem atv(m:Nat)(hct:∀R,CallOK (R:=R) Tryz.prog (ct m))(a:Dt){r:ByteArray×Int}(h:zP (m+1) a=some r):FX Tryz.prog 137 [(.dat 26 a)] [] (.tup [(.dat 9 (.str r.1)),(.dat 31 (.int r.2))]) []:=
 FX_of (q:=((.tup [(.dat 9 (.str r.1)),(.dat 31 (.int r.2))]),[])) (E:=env) (m:=m+1) (dec:=d47) jn_ok (hct _) mixed Tryz.func137 rfl (ak rfl) (fun b hb=>QT hb) ((ar4 m a).trans h)
theorem atw(m:Nat)(hct:∀R,CallOK (R:=R) Tryz.prog (ct m))(a:List Dt){r:ByteArray}(h:qY (m+1) a=some r):FX Tryz.prog 100 [(.dat 23 (.lst a))] [] (.dat 9 (.str r)) []:=
 FX_of (q:=((.dat 9 (.str r)),[])) (E:=env) (m:=m+1) (dec:=d21) jn_ok (hct _) mixed Tryz.func100 rfl (ak rfl) (fun b hb=>wI hb) ((ar5 m a).trans h)
theorem apM(m:Nat)(hct:∀R,CallOK (R:=R) Tryz.prog (ct m))(a c:Dt){r:ByteArray}(h:i19 (m+1) a c=some r):FX Tryz.prog 99 [(.rptr 114 a),(.dat 26 c)] [] (.dat 9 (.str r)) []:=
 FX_of (q:=((.dat 9 (.str r)),[])) (E:=env) (m:=m+1) (dec:=d21) jn_ok (hct _) mixed Tryz.func99 rfl (ak rfl) (fun b hb=>wI hb) ((apf m a c).trans h)
theorem apN(m:Nat)(hct:∀R,CallOK (R:=R) Tryz.prog (ct m))(a c:Dt)(d e f g:List Dt){r:Dt×List Dt×List Dt×List Dt×List Dt}(h:i18 (m+1) a c d e f g=some r):FX Tryz.prog 68 [(.ptr 0 [] 0),(.dat 26 a)] [(.box 114 (.agg 114 [(.dat 51 c),(.row 1),(.row 2),(.row 3),(.row 4)])),(.row 112 d),(.map 110 e),(.map 111 f),(.row 54 g)] (.tup []) [(.box 114 (.agg 114 [(.dat 51 r.1),(.row 5),(.row 2),(.row 3),(.row 6)])),.gone,(.map 110 r.2.1),(.map 111 r.2.2.1),.gone,(.row 112 r.2.2.2.1),(.row 54 r.2.2.2.2)]:=
 FX_of (q:=((.tup []),[(.box 114 (.agg 114 [(.dat 51 r.1),(.row 5),(.row 2),(.row 3),(.row 6)])),.gone,(.map 110 r.2.1),(.map 111 r.2.2.1),.gone,(.row 112 r.2.2.2.1),(.row 54 r.2.2.2.2)])) (E:=env) (m:=m+1) (dec:=d26) jn_ok (hct _) mixed Tryz.func68 rfl (ak rfl) (fun b hb=>Gm hb) ((apg m a c d e f g).trans h)
theorem apO(m:Nat)(hct:∀R,CallOK (R:=R) Tryz.prog (ct m))(a:Int)(c d:Dt)(e f g i:List Dt){r:Dt×List Dt×List Dt×List Dt×List Dt}(h:i29 (m+1) a c d e f g i=some r):FX Tryz.prog 142 [(.ptr 0 [] 0),(.dat 3 (.int a)),(.dat 26 c)] [(.box 114 (.agg 114 [(.dat 51 d),(.row 1),(.row 2),(.row 3),(.row 4)])),(.row 112 e),(.map 110 f),(.map 111 g),(.row 54 i)] (.tup []) [(.box 114 (.agg 114 [(.dat 51 r.1),(.row 5),(.row 2),(.row 3),(.row 6)])),.gone,(.map 110 r.2.1),(.map 111 r.2.2.1),.gone,(.row 112 r.2.2.2.1),(.row 54 r.2.2.2.2)]:=
 FX_of (q:=((.tup []),[(.box 114 (.agg 114 [(.dat 51 r.1),(.row 5),(.row 2),(.row 3),(.row 6)])),.gone,(.map 110 r.2.1),(.map 111 r.2.2.1),.gone,(.row 112 r.2.2.2.1),(.row 54 r.2.2.2.2)])) (E:=env) (m:=m+1) (dec:=d26) jn_ok (hct _) mixed Tryz.func142 rfl (ak rfl) (fun b hb=>Gm hb) ((aph m a c d e f g i).trans h)
theorem atx(m:Nat)(hct:∀R,CallOK (R:=R) Tryz.prog (ct m))(a:Dt){r:Int×Int}(h:zR (m+1) a=some r):FX Tryz.prog 193 [(.dat 26 a)] [] (.tup [(.dat 3 (.int r.1)),(.dat 31 (.int r.2))]) []:=
 FX_of (q:=((.tup [(.dat 3 (.int r.1)),(.dat 31 (.int r.2))]),[])) (E:=env) (m:=m+1) (dec:=d50) jn_ok (hct _) mixed Tryz.func193 rfl (ak rfl) (fun b hb=>QU hb) ((ar6 m a).trans h)
theorem aty(m:Nat)(hct:∀R,CallOK (R:=R) Tryz.prog (ct m))(a:Dt){r:Int}(h:qT (m+1) a=some r):FX Tryz.prog 139 [(.dat 26 a)] [] (.dat 31 (.int r)) []:=
 FX_of (q:=((.dat 31 (.int r)),[])) (E:=env) (m:=m+1) (dec:=d25) jn_ok (hct _) mixed Tryz.func139 rfl (ak rfl) (fun b hb=>QV hb) ((ar7 m a).trans h)
theorem apP(m:Nat)(hct:∀R,CallOK (R:=R) Tryz.prog (ct m))(a c:Dt)(d e f g:List Dt){r:Int×Dt×List Dt×List Dt×List Dt×List Dt}(h:i24 (m+1) a c d e f g=some r):FX Tryz.prog 102 [(.ptr 0 [] 0),(.dat 26 a)] [(.box 114 (.agg 114 [(.dat 51 c),(.row 1),(.row 2),(.row 3),(.row 4)])),(.row 112 d),(.map 110 e),(.map 111 f),(.row 54 g)] (.dat 31 (.int r.1)) [(.box 114 (.agg 114 [(.dat 51 r.2.1),(.row 5),(.row 2),(.row 3),(.row 6)])),.gone,(.map 110 r.2.2.1),(.map 111 r.2.2.2.1),.gone,(.row 112 r.2.2.2.2.1),(.row 54 r.2.2.2.2.2)]:=
 FX_of (q:=((.dat 31 (.int r.1)),[(.box 114 (.agg 114 [(.dat 51 r.2.1),(.row 5),(.row 2),(.row 3),(.row 6)])),.gone,(.map 110 r.2.2.1),(.map 111 r.2.2.2.1),.gone,(.row 112 r.2.2.2.2.1),(.row 54 r.2.2.2.2.2)])) (E:=env) (m:=m+1) (dec:=d24) jn_ok (hct _) mixed Tryz.func102 rfl (ak rfl) (fun b hb=>Gp hb) ((apj m a c d e f g).trans h)
theorem apQ(m:Nat)(hct:∀R,CallOK (R:=R) Tryz.prog (ct m))(a:Int)(c d:Dt)(e f g i:List Dt){r:Int×Dt×List Dt×List Dt×List Dt×List Dt}(h:i27 (m+1) a c d e f g i=some r):FX Tryz.prog 103 [(.ptr 0 [] 0),(.dat 3 (.int a)),(.dat 26 c)] [(.box 114 (.agg 114 [(.dat 51 d),(.row 1),(.row 2),(.row 3),(.row 4)])),(.row 112 e),(.map 110 f),(.map 111 g),(.row 54 i)] (.dat 31 (.int r.1)) [(.box 114 (.agg 114 [(.dat 51 r.2.1),(.row 5),(.row 2),(.row 3),(.row 6)])),.gone,(.map 110 r.2.2.1),(.map 111 r.2.2.2.1),.gone,(.row 112 r.2.2.2.2.1),(.row 54 r.2.2.2.2.2)]:=
 FX_of (q:=((.dat 31 (.int r.1)),[(.box 114 (.agg 114 [(.dat 51 r.2.1),(.row 5),(.row 2),(.row 3),(.row 6)])),.gone,(.map 110 r.2.2.1),(.map 111 r.2.2.2.1),.gone,(.row 112 r.2.2.2.2.1),(.row 54 r.2.2.2.2.2)])) (E:=env) (m:=m+1) (dec:=d24) jn_ok (hct _) mixed Tryz.func103 rfl (ak rfl) (fun b hb=>Gp hb) ((apk m a c d e f g i).trans h)
theorem apR(m:Nat)(hct:∀R,CallOK (R:=R) Tryz.prog (ct m))(a c:Dt)(d e f g:List Dt){r:Int×Dt×List Dt×List Dt×List Dt×List Dt}(h:i23 (m+1) a c d e f g=some r):FX Tryz.prog 69 [(.ptr 0 [] 0),(.dat 26 a)] [(.box 114 (.agg 114 [(.dat 51 c),(.row 1),(.row 2),(.row 3),(.row 4)])),(.row 112 d),(.map 110 e),(.map 111 f),(.row 54 g)] (.dat 31 (.int r.1)) [(.box 114 (.agg 114 [(.dat 51 r.2.1),(.row 5),(.row 2),(.row 3),(.row 6)])),.gone,(.map 110 r.2.2.1),(.map 111 r.2.2.2.1),.gone,(.row 112 r.2.2.2.2.1),(.row 54 r.2.2.2.2.2)]:=
 FX_of (q:=((.dat 31 (.int r.1)),[(.box 114 (.agg 114 [(.dat 51 r.2.1),(.row 5),(.row 2),(.row 3),(.row 6)])),.gone,(.map 110 r.2.2.1),(.map 111 r.2.2.2.1),.gone,(.row 112 r.2.2.2.2.1),(.row 54 r.2.2.2.2.2)])) (E:=env) (m:=m+1) (dec:=d24) jn_ok (hct _) mixed Tryz.func69 rfl (ak rfl) (fun b hb=>Gp hb) ((apl m a c d e f g).trans h)
theorem atz(m:Nat)(hct:∀R,CallOK (R:=R) Tryz.prog (ct m))(a:Dt)(c d:List Dt){r:List Dt×Int}(h:qP (m+1) a c d=some r):FX Tryz.prog 27 [(.dat 51 a),(.dat 23 (.lst c)),(.dat 23 (.lst d))] [] (.tup [(.dat 54 (.lst r.1)),(.dat 31 (.int r.2))]) []:=
 FX_of (q:=((.tup [(.dat 54 (.lst r.1)),(.dat 31 (.int r.2))]),[])) (E:=env) (m:=m+1) (dec:=d3) jn_ok (hct _) mixed Tryz.func27 rfl (ak rfl) (fun b hb=>aqU hb) ((asg m a c d).trans h)
theorem atA(m:Nat)(hct:∀R,CallOK (R:=R) Tryz.prog (ct m))(a:Int){r:ByteArray}(h:zC (m+1) a=some r):FX Tryz.prog 191 [(.dat 3 (.int a))] [] (.dat 9 (.str r)) []:=
 FX_of (q:=((.dat 9 (.str r)),[])) (E:=env) (m:=m+1) (dec:=d21) jn_ok (hct _) mixed Tryz.func191 rfl (ak rfl) (fun b hb=>wI hb) ((ash m a).trans h)
theorem atB(m:Nat)(hct:∀R,CallOK (R:=R) Tryz.prog (ct m))(a:Dt){r:ByteArray}(h:qL (m+1) a=some r):FX Tryz.prog 136 [(.dat 26 a)] [] (.dat 9 (.str r)) []:=
 FX_of (q:=((.dat 9 (.str r)),[])) (E:=env) (m:=m+1) (dec:=d21) jn_ok (hct _) mixed Tryz.func136 rfl (ak rfl) (fun b hb=>wI hb) ((asi m a).trans h)
theorem atC(m:Nat)(hct:∀R,CallOK (R:=R) Tryz.prog (ct m))(a:Dt){r:ByteArray×Int}(h:zU (m+1) a=some r):FX Tryz.prog 98 [(.dat 26 a)] [] (.tup [(.dat 9 (.str r.1)),(.dat 31 (.int r.2))]) []:=
 FX_of (q:=((.tup [(.dat 9 (.str r.1)),(.dat 31 (.int r.2))]),[])) (E:=env) (m:=m+1) (dec:=d47) jn_ok (hct _) mixed Tryz.func98 rfl (ak rfl) (fun b hb=>QT hb) ((asj m a).trans h)
theorem atD(m:Nat)(hct:∀R,CallOK (R:=R) Tryz.prog (ct m))(a:Dt){r:Int×Int}(h:z7 (m+1) a=some r):FX Tryz.prog 67 [(.dat 26 a)] [] (.tup [(.dat 3 (.int r.1)),(.dat 31 (.int r.2))]) []:=
 FX_of (q:=((.tup [(.dat 3 (.int r.1)),(.dat 31 (.int r.2))]),[])) (E:=env) (m:=m+1) (dec:=d50) jn_ok (hct _) mixed Tryz.func67 rfl (ak rfl) (fun b hb=>QU hb) ((asl m a).trans h)
theorem atE(m:Nat)(hct:∀R,CallOK (R:=R) Tryz.prog (ct m))(a:Dt){r:Int}(h:zK (m+1) a=some r):FX Tryz.prog 26 [(.dat 26 a)] [] (.dat 31 (.int r)) []:=
 FX_of (q:=((.dat 31 (.int r)),[])) (E:=env) (m:=m+1) (dec:=d25) jn_ok (hct _) mixed Tryz.func26 rfl (ak rfl) (fun b hb=>QV hb) ((asn m a).trans h)
theorem atF(m:Nat)(hct:∀R,CallOK (R:=R) Tryz.prog (ct m))(a:Dt){r:Bool}(h:zO (m+1) a=some r):FX Tryz.prog 25 [(.dat 26 a)] [] (.dat 4 (.bool r)) []:=
 FX_of (q:=((.dat 4 (.bool r)),[])) (E:=env) (m:=m+1) (dec:=d8) jn_ok (hct _) mixed Tryz.func25 rfl (ak rfl) (fun b hb=>dh hb) ((aso m a).trans h)
theorem apS(m:Nat)(hct:∀R,CallOK (R:=R) Tryz.prog (ct m))(a:List Dt){r:Int}(h:i10 (m+1) a=some r):FX Tryz.prog 53 [(.dat 23 (.lst a)),(.fn 25 [])] [] (.dat 3 (.int r)) []:=
 FX_of (q:=((.dat 3 (.int r)),[])) (E:=env) (m:=m+1) (dec:=d36) jn_ok (hct _) mixed Tryz.func53 rfl (ak rfl) (fun b hb=>dz hb) ((apo m a).trans h)
theorem atG(m:Nat)(hct:∀R,CallOK (R:=R) Tryz.prog (ct m))(a:List Dt){r:Bool}(h:i9 (m+1) a=some r):FX Tryz.prog 16 [(.dat 23 (.lst a)),(.fn 25 [])] [] (.dat 4 (.bool r)) []:=
 FX_of (q:=((.dat 4 (.bool r)),[])) (E:=env) (m:=m+1) (dec:=d8) jn_ok (hct _) mixed Tryz.func16 rfl (ak rfl) (fun b hb=>dh hb) ((asq m a).trans h)
theorem atH(m:Nat)(hct:∀R,CallOK (R:=R) Tryz.prog (ct m))(a:List Dt){r:Bool}(h:qV (m+1) a=some r):FX Tryz.prog 66 [(.dat 23 (.lst a))] [] (.dat 4 (.bool r)) []:=
 FX_of (q:=((.dat 4 (.bool r)),[])) (E:=env) (m:=m+1) (dec:=d8) jn_ok (hct _) mixed Tryz.func66 rfl (ak rfl) (fun b hb=>dh hb) ((asr m a).trans h)
theorem atI(m:Nat)(hct:∀R,CallOK (R:=R) Tryz.prog (ct m))(a:Dt)(c d:List Dt){r:Bool}(h:zG (m+1) a c d=some r):FX Tryz.prog 24 [(.dat 51 a),(.dat 23 (.lst c)),(.dat 23 (.lst d))] [] (.dat 4 (.bool r)) []:=
 FX_of (q:=((.dat 4 (.bool r)),[])) (E:=env) (m:=m+1) (dec:=d8) jn_ok (hct _) mixed Tryz.func24 rfl (ak rfl) (fun b hb=>dh hb) ((asv m a c d).trans h)
theorem amo(m:Nat)(hct:∀R,CallOK (R:=R) Tryz.prog (ct m))(a c:List Dt){r:Bool}(h:qA (m+1) a c=some r):FX Tryz.prog 6 [(.dat 23 (.lst a)),(.dat 23 (.lst c))] [] (.dat 4 (.bool r)) []:=
 FX_of (q:=((.dat 4 (.bool r)),[])) (E:=env) (m:=m+1) (dec:=d8) jn_ok (hct _) mixed Tryz.func6 rfl (ak rfl) (fun b hb=>dh hb) ((asE m a c).trans h)
theorem apT(m:Nat)(hct:∀k,k<m->∀R,CallOK (R:=R) Tryz.prog (ct k)){R:Type}{args:List AV}{objs:List Ob}{K:Res->Option R}{r:R}(h:ct6 m args objs K=some r):∃q:Res,K q=some r∧FX Tryz.prog 6 args objs q.1 q.2∧HasBody Tryz.prog 6:=by
 unfold ct6 at h;split at h
 ·rename_i l hl;obtain⟨x,hx,hk⟩:=aj.1 h;obtain⟨a,b⟩:=QA hl;cases m with
  |zero=>cases hx
  |succ m=>exact⟨_,hk,(amo m (hct m (Nat.lt_succ_self m)) _ _ hx).conv a b,⟨_,Tryz.func6,rfl,by decide⟩⟩
 cases h
theorem ai8(m:Nat)(hct:∀k,k<m->∀R,CallOK (R:=R) Tryz.prog (ct k)){R:Type}{args:List AV}{objs:List Ob}{K:Res->Option R}{r:R}(h:aqf m args objs K=some r):∃q:Res,K q=some r∧FX Tryz.prog 24 args objs q.1 q.2∧HasBody Tryz.prog 24:=by
 unfold aqf at h;split at h
 ·rename_i l hl;obtain⟨x,hx,hk⟩:=aj.1 h;obtain⟨a,b⟩:=QB hl;cases m with
  |zero=>cases hx
  |succ m=>exact⟨_,hk,(atI m (hct m (Nat.lt_succ_self m)) _ _ _ hx).conv a b,⟨_,Tryz.func24,rfl,by decide⟩⟩
 cases h
theorem ai9(m:Nat)(hct:∀k,k<m->∀R,CallOK (R:=R) Tryz.prog (ct k)){R:Type}{args:List AV}{objs:List Ob}{K:Res->Option R}{r:R}(h:aqg m args objs K=some r):∃q:Res,K q=some r∧FX Tryz.prog 10 args objs q.1 q.2∧HasBody Tryz.prog 10:=by
 unfold aqg at h;split at h
 ·rename_i l hl;obtain⟨x,hx,hk⟩:=aj.1 h;obtain⟨a,b⟩:=akb hl;exact⟨_,hk,(SG hx).conv a b,⟨_,Tryz.func10,rfl,by decide⟩⟩
 cases h
theorem aja(m:Nat)(hct:∀k,k<m->∀R,CallOK (R:=R) Tryz.prog (ct k)){R:Type}{args:List AV}{objs:List Ob}{K:Res->Option R}{r:R}(h:aqh m args objs K=some r):∃q:Res,K q=some r∧FX Tryz.prog 27 args objs q.1 q.2∧HasBody Tryz.prog 27:=by
 unfold aqh at h;split at h
 ·rename_i l hl;obtain⟨x,hx,hk⟩:=aj.1 h;obtain⟨a,b⟩:=QB hl;cases m with
  |zero=>cases hx
  |succ m=>exact⟨_,hk,(atz m (hct m (Nat.lt_succ_self m)) _ _ _ hx).conv a b,⟨_,Tryz.func27,rfl,by decide⟩⟩
 cases h
theorem ajb(m:Nat)(hct:∀k,k<m->∀R,CallOK (R:=R) Tryz.prog (ct k)){R:Type}{args:List AV}{objs:List Ob}{K:Res->Option R}{r:R}(h:aqi m args objs K=some r):∃q:Res,K q=some r∧FX Tryz.prog 28 args objs q.1 q.2∧HasBody Tryz.prog 28:=by
 unfold aqi at h;split at h
 ·rename_i l hl;obtain⟨x,hx,hk⟩:=aj.1 h;obtain⟨a,b⟩:=wG hl;exact⟨_,hk,(Yu hx).conv a b,⟨_,Tryz.func28,rfl,by decide⟩⟩
 cases h
theorem ajc(m:Nat)(hct:∀k,k<m->∀R,CallOK (R:=R) Tryz.prog (ct k)){R:Type}{args:List AV}{objs:List Ob}{K:Res->Option R}{r:R}(h:aqj m args objs K=some r):∃q:Res,K q=some r∧FX Tryz.prog 30 args objs q.1 q.2∧HasBody Tryz.prog 30:=by
 unfold aqj at h;split at h
 ·rename_i l hl;obtain⟨x,hx,hk⟩:=aj.1 h;obtain⟨a,b⟩:=cB hl;cases m with
  |zero=>cases hx
  |succ m=>exact⟨_,hk,(atn m (hct m (Nat.lt_succ_self m)) _ hx).conv a b,⟨_,Tryz.func30,rfl,by decide⟩⟩
 cases h
theorem ajd(m:Nat)(hct:∀k,k<m->∀R,CallOK (R:=R) Tryz.prog (ct k)){R:Type}{args:List AV}{objs:List Ob}{K:Res->Option R}{r:R}(h:aqk m args objs K=some r):∃q:Res,K q=some r∧FX Tryz.prog 29 args objs q.1 q.2∧HasBody Tryz.prog 29:=by
 unfold aqk at h;split at h
 ·rename_i l hl;obtain⟨x,hx,hk⟩:=aj.1 h;obtain⟨a,b⟩:=akc hl;cases m with
  |zero=>cases hx
  |succ m=>exact⟨_,hk,(asL m (hct m (Nat.lt_succ_self m)) _ _ hx).conv a b,⟨_,Tryz.func29,rfl,by decide⟩⟩
 cases h
theorem aje(m:Nat)(hct:∀k,k<m->∀R,CallOK (R:=R) Tryz.prog (ct k)){R:Type}{args:List AV}{objs:List Ob}{K:Res->Option R}{r:R}(h:aql m args objs K=some r):∃q:Res,K q=some r∧FX Tryz.prog 21 args objs q.1 q.2∧HasBody Tryz.prog 21:=by
 unfold aql at h;split at h
 ·rename_i l hl;obtain⟨x,hx,hk⟩:=aj.1 h;obtain⟨a,b⟩:=wH hl;cases m with
  |zero=>cases hx
  |succ m=>exact⟨_,hk,(asK m (hct m (Nat.lt_succ_self m)) _ _ hx).conv a b,⟨_,Tryz.func21,rfl,by decide⟩⟩
 cases h
theorem ajf(m:Nat)(hct:∀k,k<m->∀R,CallOK (R:=R) Tryz.prog (ct k)){R:Type}{args:List AV}{objs:List Ob}{K:Res->Option R}{r:R}(h:aqm m args objs K=some r):∃q:Res,K q=some r∧FX Tryz.prog 13 args objs q.1 q.2∧HasBody Tryz.prog 13:=by
 unfold aqm at h;split at h
 ·rename_i l hl;obtain⟨x,hx,hk⟩:=aj.1 h;obtain⟨a,b⟩:=QA hl;cases m with
  |zero=>cases hx
  |succ m=>exact⟨_,hk,(asF m (hct m (Nat.lt_succ_self m)) _ _ hx).conv a b,⟨_,Tryz.func13,rfl,by decide⟩⟩
 cases h
theorem ajg(m:Nat)(hct:∀k,k<m->∀R,CallOK (R:=R) Tryz.prog (ct k)){R:Type}{args:List AV}{objs:List Ob}{K:Res->Option R}{r:R}(h:aqn m args objs K=some r):∃q:Res,K q=some r∧FX Tryz.prog 16 args objs q.1 q.2∧HasBody Tryz.prog 16:=by
 unfold aqn at h;split at h
 ·rename_i l hl;obtain⟨x,hx,hk⟩:=aj.1 h;obtain⟨a,b⟩:=QC hl;cases m with
  |zero=>cases hx
  |succ m=>exact⟨_,hk,(atG m (hct m (Nat.lt_succ_self m)) _ hx).conv a b,⟨_,Tryz.func16,rfl,by decide⟩⟩
 split at h
 ·rename_i l hl;obtain⟨x,hx,hk⟩:=aj.1 h;obtain⟨a,b⟩:=J4 hl;cases m with
  |zero=>cases hx
  |succ m=>exact⟨_,hk,(apL m (hct m (Nat.lt_succ_self m)) _ hx).conv a b,⟨_,Tryz.func16,rfl,by decide⟩⟩
 cases h
theorem ajh(m:Nat)(hct:∀k,k<m->∀R,CallOK (R:=R) Tryz.prog (ct k)){R:Type}{args:List AV}{objs:List Ob}{K:Res->Option R}{r:R}(h:aqo m args objs K=some r):∃q:Res,K q=some r∧FX Tryz.prog 53 args objs q.1 q.2∧HasBody Tryz.prog 53:=by
 unfold aqo at h;split at h
 ·rename_i l hl;obtain⟨x,hx,hk⟩:=aj.1 h;obtain⟨a,b⟩:=QC hl;cases m with
  |zero=>cases hx
  |succ m=>exact⟨_,hk,(apS m (hct m (Nat.lt_succ_self m)) _ hx).conv a b,⟨_,Tryz.func53,rfl,by decide⟩⟩
 split at h
 ·rename_i l hl;obtain⟨x,hx,hk⟩:=aj.1 h;obtain⟨a,b⟩:=J4 hl;cases m with
  |zero=>cases hx
  |succ m=>exact⟨_,hk,(apK m (hct m (Nat.lt_succ_self m)) _ hx).conv a b,⟨_,Tryz.func53,rfl,by decide⟩⟩
 cases h
theorem aji(m:Nat)(hct:∀k,k<m->∀R,CallOK (R:=R) Tryz.prog (ct k)){R:Type}{args:List AV}{objs:List Ob}{K:Res->Option R}{r:R}(h:aqp m args objs K=some r):∃q:Res,K q=some r∧FX Tryz.prog 25 args objs q.1 q.2∧HasBody Tryz.prog 25:=by
 unfold aqp at h;split at h
 ·rename_i l hl;obtain⟨x,hx,hk⟩:=aj.1 h;obtain⟨a,b⟩:=cB hl;cases m with
  |zero=>cases hx
  |succ m=>exact⟨_,hk,(atF m (hct m (Nat.lt_succ_self m)) _ hx).conv a b,⟨_,Tryz.func25,rfl,by decide⟩⟩
 cases h
theorem apU(m:Nat)(hct:∀k,k<m->∀R,CallOK (R:=R) Tryz.prog (ct k)){R:Type}{args:List AV}{objs:List Ob}{K:Res->Option R}{r:R}(h:ct8 m args objs K=some r):∃q:Res,K q=some r∧FX Tryz.prog 8 args objs q.1 q.2∧HasBody Tryz.prog 8:=by
 unfold ct8 at h;split at h
 ·rename_i l hl;obtain⟨x,hx,hk⟩:=aj.1 h;obtain⟨a,b⟩:=wG hl;cases m with
  |zero=>cases hx
  |succ m=>exact⟨_,hk,(atp m (hct m (Nat.lt_succ_self m)) _ hx).conv a b,⟨_,Tryz.func8,rfl,by decide⟩⟩
 cases h
theorem ajj(m:Nat)(hct:∀k,k<m->∀R,CallOK (R:=R) Tryz.prog (ct k)){R:Type}{args:List AV}{objs:List Ob}{K:Res->Option R}{r:R}(h:aqr m args objs K=some r):∃q:Res,K q=some r∧FX Tryz.prog 66 args objs q.1 q.2∧HasBody Tryz.prog 66:=by
 unfold aqr at h;split at h
 ·rename_i l hl;obtain⟨x,hx,hk⟩:=aj.1 h;obtain⟨a,b⟩:=wG hl;cases m with
  |zero=>cases hx
  |succ m=>exact⟨_,hk,(atH m (hct m (Nat.lt_succ_self m)) _ hx).conv a b,⟨_,Tryz.func66,rfl,by decide⟩⟩
 cases h
theorem ajk(m:Nat)(hct:∀k,k<m->∀R,CallOK (R:=R) Tryz.prog (ct k)){R:Type}{args:List AV}{objs:List Ob}{K:Res->Option R}{r:R}(h:aqs m args objs K=some r):∃q:Res,K q=some r∧FX Tryz.prog 63 args objs q.1 q.2∧HasBody Tryz.prog 63:=by
 unfold aqs at h;split at h
 ·rename_i l hl;obtain⟨x,hx,hk⟩:=aj.1 h;obtain⟨a,b⟩:=JV hl;cases m with
  |zero=>cases hx
  |succ m=>exact⟨_,hk,(apC m (hct m (Nat.lt_succ_self m)) _ hx).conv a b,⟨_,Tryz.func63,rfl,by decide⟩⟩
 cases h
theorem ajl(m:Nat)(hct:∀k,k<m->∀R,CallOK (R:=R) Tryz.prog (ct k)){R:Type}{args:List AV}{objs:List Ob}{K:Res->Option R}{r:R}(h:aqt m args objs K=some r):∃q:Res,K q=some r∧FX Tryz.prog 96 args objs q.1 q.2∧HasBody Tryz.prog 96:=by
 unfold aqt at h;split at h
 ·rename_i l hl;obtain⟨x,hx,hk⟩:=aj.1 h;obtain⟨a,b⟩:=JV hl;cases m with
  |zero=>cases hx
  |succ m=>exact⟨_,hk,(apB m (hct m (Nat.lt_succ_self m)) _ hx).conv a b,⟨_,Tryz.func96,rfl,by decide⟩⟩
 cases h
theorem ajm(m:Nat)(hct:∀k,k<m->∀R,CallOK (R:=R) Tryz.prog (ct k)){R:Type}{args:List AV}{objs:List Ob}{K:Res->Option R}{r:R}(h:aqu m args objs K=some r):∃q:Res,K q=some r∧FX Tryz.prog 64 args objs q.1 q.2∧HasBody Tryz.prog 64:=by
 unfold aqu at h;split at h
 ·rename_i l hl;obtain⟨x,hx,hk⟩:=aj.1 h;obtain⟨a,b⟩:=JW hl;cases m with
  |zero=>cases hx
  |succ m=>exact⟨_,hk,(asX m (hct m (Nat.lt_succ_self m)) _ hx).conv a b,⟨_,Tryz.func64,rfl,by decide⟩⟩
 cases h
theorem ajn(m:Nat)(hct:∀k,k<m->∀R,CallOK (R:=R) Tryz.prog (ct k)){R:Type}{args:List AV}{objs:List Ob}{K:Res->Option R}{r:R}(h:aqv m args objs K=some r):∃q:Res,K q=some r∧FX Tryz.prog 58 args objs q.1 q.2∧HasBody Tryz.prog 58:=by
 unfold aqv at h;split at h
 ·rename_i l hl;obtain⟨x,hx,hk⟩:=aj.1 h;obtain⟨a,b⟩:=cB hl;cases m with
  |zero=>cases hx
  |succ m=>exact⟨_,hk,(asH m (hct m (Nat.lt_succ_self m)) _ hx).conv a b,⟨_,Tryz.func58,rfl,by decide⟩⟩
 cases h
theorem ajo(m:Nat)(hct:∀k,k<m->∀R,CallOK (R:=R) Tryz.prog (ct k)){R:Type}{args:List AV}{objs:List Ob}{K:Res->Option R}{r:R}(h:aqw m args objs K=some r):∃q:Res,K q=some r∧FX Tryz.prog 68 args objs q.1 q.2∧HasBody Tryz.prog 68:=by
 unfold aqw at h;split at h
 ·rename_i l hl;obtain⟨x,hx,hk⟩:=aj.1 h;obtain⟨a,b⟩:=Ba hl;cases m with
  |zero=>cases hx
  |succ m=>exact⟨_,hk,(apN m (hct m (Nat.lt_succ_self m)) _ _ _ _ _ _ hx).conv a b,⟨_,Tryz.func68,rfl,by decide⟩⟩
 cases h
theorem ajp(m:Nat)(hct:∀k,k<m->∀R,CallOK (R:=R) Tryz.prog (ct k)){R:Type}{args:List AV}{objs:List Ob}{K:Res->Option R}{r:R}(h:aqx m args objs K=some r):∃q:Res,K q=some r∧FX Tryz.prog 99 args objs q.1 q.2∧HasBody Tryz.prog 99:=by
 unfold aqx at h;split at h
 ·rename_i l hl;obtain⟨x,hx,hk⟩:=aj.1 h;obtain⟨a,b⟩:=acX hl;cases m with
  |zero=>cases hx
  |succ m=>exact⟨_,hk,(apM m (hct m (Nat.lt_succ_self m)) _ _ hx).conv a b,⟨_,Tryz.func99,rfl,by decide⟩⟩
 cases h
theorem abj(m:Nat)(hct:∀k,k<m->∀R,CallOK (R:=R) Tryz.prog (ct k)){R:Type}{args:List AV}{objs:List Ob}{K:Res->Option R}{r:R}(h:adr m args objs K=some r):∃q:Res,K q=some r∧FX Tryz.prog 109 args objs q.1 q.2∧HasBody Tryz.prog 109:=by
 unfold adr at h;split at h
 ·rename_i l hl;obtain⟨x,hx,hk⟩:=aj.1 h;obtain⟨a,b⟩:=acZ hl;cases m with
  |zero=>cases hx
  |succ m=>exact⟨_,hk,(asP m (hct m (Nat.lt_succ_self m)) _ _ hx).conv a b,⟨_,Tryz.func109,rfl,by decide⟩⟩
 cases h
theorem abk(m:Nat)(hct:∀k,k<m->∀R,CallOK (R:=R) Tryz.prog (ct k)){R:Type}{args:List AV}{objs:List Ob}{K:Res->Option R}{r:R}(h:ads m args objs K=some r):∃q:Res,K q=some r∧FX Tryz.prog 100 args objs q.1 q.2∧HasBody Tryz.prog 100:=by
 unfold ads at h;split at h
 ·rename_i l hl;obtain⟨x,hx,hk⟩:=aj.1 h;obtain⟨a,b⟩:=wG hl;cases m with
  |zero=>cases hx
  |succ m=>exact⟨_,hk,(atw m (hct m (Nat.lt_succ_self m)) _ hx).conv a b,⟨_,Tryz.func100,rfl,by decide⟩⟩
 cases h
theorem abl(m:Nat)(hct:∀k,k<m->∀R,CallOK (R:=R) Tryz.prog (ct k)){R:Type}{args:List AV}{objs:List Ob}{K:Res->Option R}{r:R}(h:adt m args objs K=some r):∃q:Res,K q=some r∧FX Tryz.prog 101 args objs q.1 q.2∧HasBody Tryz.prog 101:=by
 unfold adt at h;split at h
 ·rename_i l hl;obtain⟨x,hx,hk⟩:=aj.1 h;obtain⟨a,b⟩:=cB hl;cases m with
  |zero=>cases hx
  |succ m=>exact⟨_,hk,(asU m (hct m (Nat.lt_succ_self m)) _ hx).conv a b,⟨_,Tryz.func101,rfl,by decide⟩⟩
 cases h
theorem ajq(m:Nat)(hct:∀k,k<m->∀R,CallOK (R:=R) Tryz.prog (ct k)){R:Type}{args:List AV}{objs:List Ob}{K:Res->Option R}{r:R}(h:aqy m args objs K=some r):∃q:Res,K q=some r∧FX Tryz.prog 69 args objs q.1 q.2∧HasBody Tryz.prog 69:=by
 unfold aqy at h;split at h
 ·rename_i l hl;obtain⟨x,hx,hk⟩:=aj.1 h;obtain⟨a,b⟩:=Ba hl;cases m with
  |zero=>cases hx
  |succ m=>exact⟨_,hk,(apR m (hct m (Nat.lt_succ_self m)) _ _ _ _ _ _ hx).conv a b,⟨_,Tryz.func69,rfl,by decide⟩⟩
 cases h
theorem abm(m:Nat)(hct:∀k,k<m->∀R,CallOK (R:=R) Tryz.prog (ct k)){R:Type}{args:List AV}{objs:List Ob}{K:Res->Option R}{r:R}(h:adu m args objs K=some r):∃q:Res,K q=some r∧FX Tryz.prog 102 args objs q.1 q.2∧HasBody Tryz.prog 102:=by
 unfold adu at h;split at h
 ·rename_i l hl;obtain⟨x,hx,hk⟩:=aj.1 h;obtain⟨a,b⟩:=Ba hl;cases m with
  |zero=>cases hx
  |succ m=>exact⟨_,hk,(apP m (hct m (Nat.lt_succ_self m)) _ _ _ _ _ _ hx).conv a b,⟨_,Tryz.func102,rfl,by decide⟩⟩
 cases h
theorem abn(m:Nat)(hct:∀k,k<m->∀R,CallOK (R:=R) Tryz.prog (ct k)){R:Type}{args:List AV}{objs:List Ob}{K:Res->Option R}{r:R}(h:adv m args objs K=some r):∃q:Res,K q=some r∧FX Tryz.prog 139 args objs q.1 q.2∧HasBody Tryz.prog 139:=by
 unfold adv at h;split at h
 ·rename_i l hl;obtain⟨x,hx,hk⟩:=aj.1 h;obtain⟨a,b⟩:=cB hl;cases m with
  |zero=>cases hx
  |succ m=>exact⟨_,hk,(aty m (hct m (Nat.lt_succ_self m)) _ hx).conv a b,⟨_,Tryz.func139,rfl,by decide⟩⟩
 cases h
theorem abo(m:Nat)(hct:∀k,k<m->∀R,CallOK (R:=R) Tryz.prog (ct k)){R:Type}{args:List AV}{objs:List Ob}{K:Res->Option R}{r:R}(h:adw m args objs K=some r):∃q:Res,K q=some r∧FX Tryz.prog 140 args objs q.1 q.2∧HasBody Tryz.prog 140:=by
 unfold adw at h;split at h
 ·rename_i l hl;obtain⟨x,hx,hk⟩:=aj.1 h;obtain⟨a,b⟩:=ac1 hl;cases m with
  |zero=>cases hx
  |succ m=>exact⟨_,hk,(apA m (hct m (Nat.lt_succ_self m)) _ _ _ _ _ _ _ hx).conv a b,⟨_,Tryz.func140,rfl,by decide⟩⟩
 cases h
theorem abp(m:Nat)(hct:∀k,k<m->∀R,CallOK (R:=R) Tryz.prog (ct k)){R:Type}{args:List AV}{objs:List Ob}{K:Res->Option R}{r:R}(h:adx m args objs K=some r):∃q:Res,K q=some r∧FX Tryz.prog 103 args objs q.1 q.2∧HasBody Tryz.prog 103:=by
 unfold adx at h;split at h
 ·rename_i l hl;obtain⟨x,hx,hk⟩:=aj.1 h;obtain⟨a,b⟩:=JY hl;cases m with
  |zero=>cases hx
  |succ m=>exact⟨_,hk,(apQ m (hct m (Nat.lt_succ_self m)) _ _ _ _ _ _ _ hx).conv a b,⟨_,Tryz.func103,rfl,by decide⟩⟩
 cases h
theorem abq(m:Nat)(hct:∀k,k<m->∀R,CallOK (R:=R) Tryz.prog (ct k)){R:Type}{args:List AV}{objs:List Ob}{K:Res->Option R}{r:R}(h:ady m args objs K=some r):∃q:Res,K q=some r∧FX Tryz.prog 141 args objs q.1 q.2∧HasBody Tryz.prog 141:=by
 unfold ady at h;split at h
 ·rename_i l hl;obtain⟨x,hx,hk⟩:=aj.1 h;obtain⟨a,b⟩:=wH hl;cases m with
  |zero=>cases hx
  |succ m=>exact⟨_,hk,(ata m (hct m (Nat.lt_succ_self m)) _ _ hx).conv a b,⟨_,Tryz.func141,rfl,by decide⟩⟩
 cases h
theorem abr(m:Nat)(hct:∀k,k<m->∀R,CallOK (R:=R) Tryz.prog (ct k)){R:Type}{args:List AV}{objs:List Ob}{K:Res->Option R}{r:R}(h:adz m args objs K=some r):∃q:Res,K q=some r∧FX Tryz.prog 142 args objs q.1 q.2∧HasBody Tryz.prog 142:=by
 unfold adz at h;split at h
 ·rename_i l hl;obtain⟨x,hx,hk⟩:=aj.1 h;obtain⟨a,b⟩:=JY hl;cases m with
  |zero=>cases hx
  |succ m=>exact⟨_,hk,(apO m (hct m (Nat.lt_succ_self m)) _ _ _ _ _ _ _ hx).conv a b,⟨_,Tryz.func142,rfl,by decide⟩⟩
 cases h
theorem abt(m:Nat)(hct:∀k,k<m->∀R,CallOK (R:=R) Tryz.prog (ct k)){R:Type}{args:List AV}{objs:List Ob}{K:Res->Option R}{r:R}(h:adA m args objs K=some r):∃q:Res,K q=some r∧FX Tryz.prog 194 args objs q.1 q.2∧HasBody Tryz.prog 194:=by
 unfold adA at h;split at h
 ·rename_i l hl;obtain⟨x,hx,hk⟩:=aj.1 h;obtain⟨a,b⟩:=JZ hl;cases m with
  |zero=>cases hx
  |succ m=>exact⟨_,hk,(apy m (hct m (Nat.lt_succ_self m)) _ _ hx).conv a b,⟨_,Tryz.func194,rfl,by decide⟩⟩
 split at h
 ·rename_i l hl;obtain⟨x,hx,hk⟩:=aj.1 h;obtain⟨a,b⟩:=ac5 hl;cases m with
  |zero=>cases hx
  |succ m=>exact⟨_,hk,(apz m (hct m (Nat.lt_succ_self m)) _ _ hx).conv a b,⟨_,Tryz.func194,rfl,by decide⟩⟩
 cases h
theorem abu(m:Nat)(hct:∀k,k<m->∀R,CallOK (R:=R) Tryz.prog (ct k)){R:Type}{args:List AV}{objs:List Ob}{K:Res->Option R}{r:R}(h:adB m args objs K=some r):∃q:Res,K q=some r∧FX Tryz.prog 229 args objs q.1 q.2∧HasBody Tryz.prog 229:=by
 unfold adB at h;split at h
 ·rename_i l hl;obtain⟨x,hx,hk⟩:=aj.1 h;obtain⟨a,b⟩:=JZ hl;cases m with
  |zero=>cases hx
  |succ m=>exact⟨_,hk,(apx m (hct m (Nat.lt_succ_self m)) _ _ hx).conv a b,⟨_,Tryz.func229,rfl,by decide⟩⟩
 cases h
theorem abv(m:Nat)(hct:∀k,k<m->∀R,CallOK (R:=R) Tryz.prog (ct k)){R:Type}{args:List AV}{objs:List Ob}{K:Res->Option R}{r:R}(h:adC m args objs K=some r):∃q:Res,K q=some r∧FX Tryz.prog 195 args objs q.1 q.2∧HasBody Tryz.prog 195:=by
 unfold adC at h;split at h
 ·rename_i l hl;obtain⟨x,hx,hk⟩:=aj.1 h;obtain⟨a,b⟩:=ac3 hl;cases m with
  |zero=>cases hx
  |succ m=>exact⟨_,hk,(apw m (hct m (Nat.lt_succ_self m)) _ _ hx).conv a b,⟨_,Tryz.func195,rfl,by decide⟩⟩
 cases h
theorem abw(m:Nat)(hct:∀k,k<m->∀R,CallOK (R:=R) Tryz.prog (ct k)){R:Type}{args:List AV}{objs:List Ob}{K:Res->Option R}{r:R}(h:adD m args objs K=some r):∃q:Res,K q=some r∧FX Tryz.prog 119 args objs q.1 q.2∧HasBody Tryz.prog 119:=by
 unfold adD at h;split at h
 ·rename_i l hl;obtain⟨x,hx,hk⟩:=aj.1 h;obtain⟨a,b⟩:=ac7 hl;cases m with
  |zero=>cases hx
  |succ m=>exact⟨_,hk,(asS m (hct m (Nat.lt_succ_self m)) _ _ _ hx).conv a b,⟨_,Tryz.func119,rfl,by decide⟩⟩
 cases h
theorem ajr(m:Nat)(hct:∀k,k<m->∀R,CallOK (R:=R) Tryz.prog (ct k)){R:Type}{args:List AV}{objs:List Ob}{K:Res->Option R}{r:R}(h:aqz m args objs K=some r):∃q:Res,K q=some r∧FX Tryz.prog 18 args objs q.1 q.2∧HasBody Tryz.prog 18:=by
 unfold aqz at h;split at h
 ·rename_i l hl;obtain⟨x,hx,hk⟩:=aj.1 h;obtain⟨a,b⟩:=cB hl;cases m with
  |zero=>cases hx
  |succ m=>exact⟨_,hk,(atm m (hct m (Nat.lt_succ_self m)) _ hx).conv a b,⟨_,Tryz.func18,rfl,by decide⟩⟩
 cases h
theorem ajs(m:Nat)(hct:∀k,k<m->∀R,CallOK (R:=R) Tryz.prog (ct k)){R:Type}{args:List AV}{objs:List Ob}{K:Res->Option R}{r:R}(h:aqA m args objs K=some r):∃q:Res,K q=some r∧FX Tryz.prog 60 args objs q.1 q.2∧HasBody Tryz.prog 60:=by
 unfold aqA at h;split at h
 ·rename_i l hl;obtain⟨x,hx,hk⟩:=aj.1 h;obtain⟨a,b⟩:=J2 hl;cases m with
  |zero=>cases hx
  |succ m=>exact⟨_,hk,(asI m (hct m (Nat.lt_succ_self m)) _ _ hx).conv a b,⟨_,Tryz.func60,rfl,by decide⟩⟩
 cases h
theorem ajt(m:Nat)(hct:∀k,k<m->∀R,CallOK (R:=R) Tryz.prog (ct k)){R:Type}{args:List AV}{objs:List Ob}{K:Res->Option R}{r:R}(h:aqB m args objs K=some r):∃q:Res,K q=some r∧FX Tryz.prog 61 args objs q.1 q.2∧HasBody Tryz.prog 61:=by
 unfold aqB at h;split at h
 ·rename_i l hl;obtain⟨x,hx,hk⟩:=aj.1 h;obtain⟨a,b⟩:=J3 hl;cases m with
  |zero=>cases hx
  |succ m=>exact⟨_,hk,(asJ m (hct m (Nat.lt_succ_self m)) _ _ hx).conv a b,⟨_,Tryz.func61,rfl,by decide⟩⟩
 cases h
theorem aju(m:Nat)(hct:∀k,k<m->∀R,CallOK (R:=R) Tryz.prog (ct k)){R:Type}{args:List AV}{objs:List Ob}{K:Res->Option R}{r:R}(h:aqC m args objs K=some r):∃q:Res,K q=some r∧FX Tryz.prog 42 args objs q.1 q.2∧HasBody Tryz.prog 42:=by
 unfold aqC at h;split at h
 ·rename_i l hl;obtain⟨x,hx,hk⟩:=aj.1 h;obtain⟨a,b⟩:=wH hl;cases m with
  |zero=>cases hx
  |succ m=>exact⟨_,hk,(asG m (hct m (Nat.lt_succ_self m)) _ _ hx).conv a b,⟨_,Tryz.func42,rfl,by decide⟩⟩
 cases h
theorem ajv(m:Nat)(hct:∀k,k<m->∀R,CallOK (R:=R) Tryz.prog (ct k)){R:Type}{args:List AV}{objs:List Ob}{K:Res->Option R}{r:R}(h:aqD m args objs K=some r):∃q:Res,K q=some r∧FX Tryz.prog 26 args objs q.1 q.2∧HasBody Tryz.prog 26:=by
 unfold aqD at h;split at h
 ·rename_i l hl;obtain⟨x,hx,hk⟩:=aj.1 h;obtain⟨a,b⟩:=cB hl;cases m with
  |zero=>cases hx
  |succ m=>exact⟨_,hk,(atE m (hct m (Nat.lt_succ_self m)) _ hx).conv a b,⟨_,Tryz.func26,rfl,by decide⟩⟩
 cases h
theorem ajw(m:Nat)(hct:∀k,k<m->∀R,CallOK (R:=R) Tryz.prog (ct k)){R:Type}{args:List AV}{objs:List Ob}{K:Res->Option R}{r:R}(h:aqE m args objs K=some r):∃q:Res,K q=some r∧FX Tryz.prog 33 args objs q.1 q.2∧HasBody Tryz.prog 33:=by
 unfold aqE at h;split at h
 ·rename_i l hl;obtain⟨x,hx,hk⟩:=aj.1 h;obtain⟨a,b⟩:=cB hl;cases m with
  |zero=>cases hx
  |succ m=>exact⟨_,hk,(ato m (hct m (Nat.lt_succ_self m)) _ hx).conv a b,⟨_,Tryz.func33,rfl,by decide⟩⟩
 cases h
theorem ajx(m:Nat)(hct:∀k,k<m->∀R,CallOK (R:=R) Tryz.prog (ct k)){R:Type}{args:List AV}{objs:List Ob}{K:Res->Option R}{r:R}(h:aqF m args objs K=some r):∃q:Res,K q=some r∧FX Tryz.prog 65 args objs q.1 q.2∧HasBody Tryz.prog 65:=by
 unfold aqF at h;split at h
 ·rename_i l hl;obtain⟨x,hx,hk⟩:=aj.1 h;obtain⟨a,b⟩:=JW hl;cases m with
  |zero=>cases hx
  |succ m=>exact⟨_,hk,(asW m (hct m (Nat.lt_succ_self m)) _ hx).conv a b,⟨_,Tryz.func65,rfl,by decide⟩⟩
 cases h
theorem abx(m:Nat)(hct:∀k,k<m->∀R,CallOK (R:=R) Tryz.prog (ct k)){R:Type}{args:List AV}{objs:List Ob}{K:Res->Option R}{r:R}(h:adE m args objs K=some r):∃q:Res,K q=some r∧FX Tryz.prog 144 args objs q.1 q.2∧HasBody Tryz.prog 144:=by
 unfold adE at h;split at h
 ·rename_i l hl;obtain⟨x,hx,hk⟩:=aj.1 h;obtain⟨a,b⟩:=ac9 hl;cases m with
  |zero=>cases hx
  |succ m=>exact⟨_,hk,(asM m (hct m (Nat.lt_succ_self m)) _ _ hx).conv a b,⟨_,Tryz.func144,rfl,by decide⟩⟩
 cases h
theorem aby(m:Nat)(hct:∀k,k<m->∀R,CallOK (R:=R) Tryz.prog (ct k)){R:Type}{args:List AV}{objs:List Ob}{K:Res->Option R}{r:R}(h:adF m args objs K=some r):∃q:Res,K q=some r∧FX Tryz.prog 145 args objs q.1 q.2∧HasBody Tryz.prog 145:=by
 unfold adF at h;split at h
 ·rename_i l hl;obtain⟨x,hx,hk⟩:=aj.1 h;obtain⟨a,b⟩:=jN hl;cases m with
  |zero=>cases hx
  |succ m=>exact⟨_,hk,(asN m (hct m (Nat.lt_succ_self m)) _ hx).conv a b,⟨_,Tryz.func145,rfl,by decide⟩⟩
 cases h
theorem abz(m:Nat)(hct:∀k,k<m->∀R,CallOK (R:=R) Tryz.prog (ct k)){R:Type}{args:List AV}{objs:List Ob}{K:Res->Option R}{r:R}(h:adG m args objs K=some r):∃q:Res,K q=some r∧FX Tryz.prog 146 args objs q.1 q.2∧HasBody Tryz.prog 146:=by
 unfold adG at h;split at h
 ·rename_i l hl;obtain⟨x,hx,hk⟩:=aj.1 h;obtain⟨a,b⟩:=cB hl;cases m with
  |zero=>cases hx
  |succ m=>exact⟨_,hk,(asO m (hct m (Nat.lt_succ_self m)) _ hx).conv a b,⟨_,Tryz.func146,rfl,by decide⟩⟩
 cases h
theorem abA(m:Nat)(hct:∀k,k<m->∀R,CallOK (R:=R) Tryz.prog (ct k)){R:Type}{args:List AV}{objs:List Ob}{K:Res->Option R}{r:R}(h:adH m args objs K=some r):∃q:Res,K q=some r∧FX Tryz.prog 137 args objs q.1 q.2∧HasBody Tryz.prog 137:=by
 unfold adH at h;split at h
 ·rename_i l hl;obtain⟨x,hx,hk⟩:=aj.1 h;obtain⟨a,b⟩:=cB hl;cases m with
  |zero=>cases hx
  |succ m=>exact⟨_,hk,(atv m (hct m (Nat.lt_succ_self m)) _ hx).conv a b,⟨_,Tryz.func137,rfl,by decide⟩⟩
 cases h
theorem abB(m:Nat)(hct:∀k,k<m->∀R,CallOK (R:=R) Tryz.prog (ct k)){R:Type}{args:List AV}{objs:List Ob}{K:Res->Option R}{r:R}(h:adI m args objs K=some r):∃q:Res,K q=some r∧FX Tryz.prog 138 args objs q.1 q.2∧HasBody Tryz.prog 138:=by
 unfold adI at h;split at h
 ·rename_i l hl;obtain⟨x,hx,hk⟩:=aj.1 h;obtain⟨a,b⟩:=J5 hl;cases m with
  |zero=>cases hx
  |succ m=>exact⟨_,hk,(asT m (hct m (Nat.lt_succ_self m)) _ _ hx).conv a b,⟨_,Tryz.func138,rfl,by decide⟩⟩
 cases h
theorem abC(m:Nat)(hct:∀k,k<m->∀R,CallOK (R:=R) Tryz.prog (ct k)){R:Type}{args:List AV}{objs:List Ob}{K:Res->Option R}{r:R}(h:adJ m args objs K=some r):∃q:Res,K q=some r∧FX Tryz.prog 122 args objs q.1 q.2∧HasBody Tryz.prog 122:=by
 unfold adJ at h;split at h
 ·rename_i l hl;obtain⟨x,hx,hk⟩:=aj.1 h;obtain⟨a,b⟩:=cB hl;cases m with
  |zero=>cases hx
  |succ m=>exact⟨_,hk,(atu m (hct m (Nat.lt_succ_self m)) _ hx).conv a b,⟨_,Tryz.func122,rfl,by decide⟩⟩
 cases h
theorem abD(m:Nat)(hct:∀k,k<m->∀R,CallOK (R:=R) Tryz.prog (ct k)){R:Type}{args:List AV}{objs:List Ob}{K:Res->Option R}{r:R}(h:adK m args objs K=some r):∃q:Res,K q=some r∧FX Tryz.prog 193 args objs q.1 q.2∧HasBody Tryz.prog 193:=by
 unfold adK at h;split at h
 ·rename_i l hl;obtain⟨x,hx,hk⟩:=aj.1 h;obtain⟨a,b⟩:=cB hl;cases m with
  |zero=>cases hx
  |succ m=>exact⟨_,hk,(atx m (hct m (Nat.lt_succ_self m)) _ hx).conv a b,⟨_,Tryz.func193,rfl,by decide⟩⟩
 cases h
theorem ajy(m:Nat)(hct:∀k,k<m->∀R,CallOK (R:=R) Tryz.prog (ct k)){R:Type}{args:List AV}{objs:List Ob}{K:Res->Option R}{r:R}(h:aqG m args objs K=some r):∃q:Res,K q=some r∧FX Tryz.prog 45 args objs q.1 q.2∧HasBody Tryz.prog 45:=by
 unfold aqG at h;split at h
 ·rename_i l hl;obtain⟨x,hx,hk⟩:=aj.1 h;obtain⟨a,b⟩:=wH hl;cases m with
  |zero=>cases hx
  |succ m=>exact⟨_,hk,(as9 m (hct m (Nat.lt_succ_self m)) _ _ hx).conv a b,⟨_,Tryz.func45,rfl,by decide⟩⟩
 cases h
theorem abE(m:Nat)(hct:∀k,k<m->∀R,CallOK (R:=R) Tryz.prog (ct k)){R:Type}{args:List AV}{objs:List Ob}{K:Res->Option R}{r:R}(h:adL m args objs K=some r):∃q:Res,K q=some r∧FX Tryz.prog 156 args objs q.1 q.2∧HasBody Tryz.prog 156:=by
 unfold adL at h;split at h
 ·rename_i l hl;obtain⟨x,hx,hk⟩:=aj.1 h;obtain⟨a,b⟩:=cB hl;cases m with
  |zero=>cases hx
  |succ m=>exact⟨_,hk,(asQ m (hct m (Nat.lt_succ_self m)) _ hx).conv a b,⟨_,Tryz.func156,rfl,by decide⟩⟩
 cases h
theorem abF(m:Nat)(hct:∀k,k<m->∀R,CallOK (R:=R) Tryz.prog (ct k)){R:Type}{args:List AV}{objs:List Ob}{K:Res->Option R}{r:R}(h:adM m args objs K=some r):∃q:Res,K q=some r∧FX Tryz.prog 157 args objs q.1 q.2∧HasBody Tryz.prog 157:=by
 unfold adM at h;split at h
 ·rename_i l hl;obtain⟨x,hx,hk⟩:=aj.1 h;obtain⟨a,b⟩:=J5 hl;cases m with
  |zero=>cases hx
  |succ m=>exact⟨_,hk,(asR m (hct m (Nat.lt_succ_self m)) _ _ hx).conv a b,⟨_,Tryz.func157,rfl,by decide⟩⟩
 cases h
theorem ajz(m:Nat)(hct:∀k,k<m->∀R,CallOK (R:=R) Tryz.prog (ct k)){R:Type}{args:List AV}{objs:List Ob}{K:Res->Option R}{r:R}(h:aqH m args objs K=some r):∃q:Res,K q=some r∧FX Tryz.prog 54 args objs q.1 q.2∧HasBody Tryz.prog 54:=by
 unfold aqH at h;split at h
 ·rename_i l hl;obtain⟨x,hx,hk⟩:=aj.1 h;obtain⟨a,b⟩:=cB hl;cases m with
  |zero=>cases hx
  |succ m=>exact⟨_,hk,(atd m (hct m (Nat.lt_succ_self m)) _ hx).conv a b,⟨_,Tryz.func54,rfl,by decide⟩⟩
 cases h
theorem ajA(m:Nat)(hct:∀k,k<m->∀R,CallOK (R:=R) Tryz.prog (ct k)){R:Type}{args:List AV}{objs:List Ob}{K:Res->Option R}{r:R}(h:aqI m args objs K=some r):∃q:Res,K q=some r∧FX Tryz.prog 55 args objs q.1 q.2∧HasBody Tryz.prog 55:=by
 unfold aqI at h;split at h
 ·rename_i l hl;obtain⟨x,hx,hk⟩:=aj.1 h;obtain⟨a,b⟩:=cB hl;cases m with
  |zero=>cases hx
  |succ m=>exact⟨_,hk,(atf m (hct m (Nat.lt_succ_self m)) _ hx).conv a b,⟨_,Tryz.func55,rfl,by decide⟩⟩
 cases h
theorem ajB(m:Nat)(hct:∀k,k<m->∀R,CallOK (R:=R) Tryz.prog (ct k)){R:Type}{args:List AV}{objs:List Ob}{K:Res->Option R}{r:R}(h:aqJ m args objs K=some r):∃q:Res,K q=some r∧FX Tryz.prog 56 args objs q.1 q.2∧HasBody Tryz.prog 56:=by
 unfold aqJ at h;split at h
 ·rename_i l hl;obtain⟨x,hx,hk⟩:=aj.1 h;obtain⟨a,b⟩:=J6 hl;cases m with
  |zero=>cases hx
  |succ m=>exact⟨_,hk,(atj m (hct m (Nat.lt_succ_self m)) _ _ hx).conv a b,⟨_,Tryz.func56,rfl,by decide⟩⟩
 cases h
theorem ajC(m:Nat)(hct:∀k,k<m->∀R,CallOK (R:=R) Tryz.prog (ct k)){R:Type}{args:List AV}{objs:List Ob}{K:Res->Option R}{r:R}(h:aqK m args objs K=some r):∃q:Res,K q=some r∧FX Tryz.prog 67 args objs q.1 q.2∧HasBody Tryz.prog 67:=by
 unfold aqK at h;split at h
 ·rename_i l hl;obtain⟨x,hx,hk⟩:=aj.1 h;obtain⟨a,b⟩:=cB hl;cases m with
  |zero=>cases hx
  |succ m=>exact⟨_,hk,(atD m (hct m (Nat.lt_succ_self m)) _ hx).conv a b,⟨_,Tryz.func67,rfl,by decide⟩⟩
 cases h
theorem ajD(m:Nat)(hct:∀k,k<m->∀R,CallOK (R:=R) Tryz.prog (ct k)){R:Type}{args:List AV}{objs:List Ob}{K:Res->Option R}{r:R}(h:aqL m args objs K=some r):∃q:Res,K q=some r∧FX Tryz.prog 97 args objs q.1 q.2∧HasBody Tryz.prog 97:=by
 unfold aqL at h;split at h
 ·rename_i l hl;obtain⟨x,hx,hk⟩:=aj.1 h;obtain⟨a,b⟩:=jN hl;cases m with
  |zero=>cases hx
  |succ m=>exact⟨_,hk,(asV m (hct m (Nat.lt_succ_self m)) _ hx).conv a b,⟨_,Tryz.func97,rfl,by decide⟩⟩
 cases h
theorem abG(m:Nat)(hct:∀k,k<m->∀R,CallOK (R:=R) Tryz.prog (ct k)){R:Type}{args:List AV}{objs:List Ob}{K:Res->Option R}{r:R}(h:adN m args objs K=some r):∃q:Res,K q=some r∧FX Tryz.prog 192 args objs q.1 q.2∧HasBody Tryz.prog 192:=by
 unfold adN at h;split at h
 ·rename_i l hl;obtain⟨x,hx,hk⟩:=aj.1 h;obtain⟨a,b⟩:=adb hl;cases m with
  |zero=>cases hx
  |succ m=>exact⟨_,hk,(apF m (hct m (Nat.lt_succ_self m)) _ _ hx).conv a b,⟨_,Tryz.func192,rfl,by decide⟩⟩
 cases h
theorem abH(m:Nat)(hct:∀k,k<m->∀R,CallOK (R:=R) Tryz.prog (ct k)){R:Type}{args:List AV}{objs:List Ob}{K:Res->Option R}{r:R}(h:adO m args objs K=some r):∃q:Res,K q=some r∧FX Tryz.prog 226 args objs q.1 q.2∧HasBody Tryz.prog 226:=by
 unfold adO at h;split at h
 ·rename_i l hl;obtain⟨x,hx,hk⟩:=aj.1 h;obtain⟨a,b⟩:=adf hl;cases m with
  |zero=>cases hx
  |succ m=>exact⟨_,hk,(apD m (hct m (Nat.lt_succ_self m)) _ _ hx).conv a b,⟨_,Tryz.func226,rfl,by decide⟩⟩
 cases h
theorem abI(m:Nat)(hct:∀k,k<m->∀R,CallOK (R:=R) Tryz.prog (ct k)){R:Type}{args:List AV}{objs:List Ob}{K:Res->Option R}{r:R}(h:adP m args objs K=some r):∃q:Res,K q=some r∧FX Tryz.prog 239 args objs q.1 q.2∧HasBody Tryz.prog 239:=by
 unfold adP at h;split at h
 ·rename_i l hl;obtain⟨x,hx,hk⟩:=aj.1 h;obtain⟨a,b⟩:=rQ hl;cases m with
  |zero=>cases hx
  |succ m=>exact⟨_,hk,(asY m (hct m (Nat.lt_succ_self m)) _ hx).conv a b,⟨_,Tryz.func239,rfl,by decide⟩⟩
 cases h
theorem abJ(m:Nat)(hct:∀k,k<m->∀R,CallOK (R:=R) Tryz.prog (ct k)){R:Type}{args:List AV}{objs:List Ob}{K:Res->Option R}{r:R}(h:adQ m args objs K=some r):∃q:Res,K q=some r∧FX Tryz.prog 227 args objs q.1 q.2∧HasBody Tryz.prog 227:=by
 unfold adQ at h;split at h
 ·rename_i l hl;obtain⟨x,hx,hk⟩:=aj.1 h;obtain⟨a,b⟩:=adh hl;cases m with
  |zero=>cases hx
  |succ m=>exact⟨_,hk,(apE m (hct m (Nat.lt_succ_self m)) _ _ hx).conv a b,⟨_,Tryz.func227,rfl,by decide⟩⟩
 cases h
theorem abK(m:Nat)(hct:∀k,k<m->∀R,CallOK (R:=R) Tryz.prog (ct k)){R:Type}{args:List AV}{objs:List Ob}{K:Res->Option R}{r:R}(h:adR m args objs K=some r):∃q:Res,K q=some r∧FX Tryz.prog 169 args objs q.1 q.2∧HasBody Tryz.prog 169:=by
 unfold adR at h;split at h
 ·rename_i l hl;obtain⟨x,hx,hk⟩:=aj.1 h;obtain⟨a,b⟩:=cB hl;cases m with
  |zero=>cases hx
  |succ m=>exact⟨_,hk,(as0 m (hct m (Nat.lt_succ_self m)) _ hx).conv a b,⟨_,Tryz.func169,rfl,by decide⟩⟩
 cases h
theorem abL(m:Nat)(hct:∀k,k<m->∀R,CallOK (R:=R) Tryz.prog (ct k)){R:Type}{args:List AV}{objs:List Ob}{K:Res->Option R}{r:R}(h:adS m args objs K=some r):∃q:Res,K q=some r∧FX Tryz.prog 170 args objs q.1 q.2∧HasBody Tryz.prog 170:=by
 unfold adS at h;split at h
 ·rename_i l hl;obtain⟨x,hx,hk⟩:=aj.1 h;obtain⟨a,b⟩:=cB hl;cases m with
  |zero=>cases hx
  |succ m=>exact⟨_,hk,(as4 m (hct m (Nat.lt_succ_self m)) _ hx).conv a b,⟨_,Tryz.func170,rfl,by decide⟩⟩
 cases h
theorem abM(m:Nat)(hct:∀k,k<m->∀R,CallOK (R:=R) Tryz.prog (ct k)){R:Type}{args:List AV}{objs:List Ob}{K:Res->Option R}{r:R}(h:adT m args objs K=some r):∃q:Res,K q=some r∧FX Tryz.prog 171 args objs q.1 q.2∧HasBody Tryz.prog 171:=by
 unfold adT at h;split at h
 ·rename_i l hl;obtain⟨x,hx,hk⟩:=aj.1 h;obtain⟨a,b⟩:=cB hl;cases m with
  |zero=>cases hx
  |succ m=>exact⟨_,hk,(atr m (hct m (Nat.lt_succ_self m)) _ hx).conv a b,⟨_,Tryz.func171,rfl,by decide⟩⟩
 cases h
theorem abN(m:Nat)(hct:∀k,k<m->∀R,CallOK (R:=R) Tryz.prog (ct k)){R:Type}{args:List AV}{objs:List Ob}{K:Res->Option R}{r:R}(h:adU m args objs K=some r):∃q:Res,K q=some r∧FX Tryz.prog 228 args objs q.1 q.2∧HasBody Tryz.prog 228:=by
 unfold adU at h;split at h
 ·rename_i l hl;obtain⟨x,hx,hk⟩:=aj.1 h;obtain⟨a,b⟩:=cB hl;cases m with
  |zero=>cases hx
  |succ m=>exact⟨_,hk,(as6 m (hct m (Nat.lt_succ_self m)) _ hx).conv a b,⟨_,Tryz.func228,rfl,by decide⟩⟩
 cases h
theorem ajE(m:Nat)(hct:∀k,k<m->∀R,CallOK (R:=R) Tryz.prog (ct k)){R:Type}{args:List AV}{objs:List Ob}{K:Res->Option R}{r:R}(h:aqM m args objs K=some r):∃q:Res,K q=some r∧FX Tryz.prog 86 args objs q.1 q.2∧HasBody Tryz.prog 86:=by
 unfold aqM at h;split at h
 ·rename_i l hl;obtain⟨x,hx,hk⟩:=aj.1 h;obtain⟨a,b⟩:=J2 hl;cases m with
  |zero=>cases hx
  |succ m=>exact⟨_,hk,(as8 m (hct m (Nat.lt_succ_self m)) _ _ hx).conv a b,⟨_,Tryz.func86,rfl,by decide⟩⟩
 cases h
theorem ajF(m:Nat)(hct:∀k,k<m->∀R,CallOK (R:=R) Tryz.prog (ct k)){R:Type}{args:List AV}{objs:List Ob}{K:Res->Option R}{r:R}(h:aqN m args objs K=some r):∃q:Res,K q=some r∧FX Tryz.prog 87 args objs q.1 q.2∧HasBody Tryz.prog 87:=by
 unfold aqN at h;split at h
 ·rename_i l hl;obtain⟨x,hx,hk⟩:=aj.1 h;obtain⟨a,b⟩:=J3 hl;exact⟨_,hk,(MZ hx).conv a b,⟨_,Tryz.func87,rfl,by decide⟩⟩
 cases h
theorem ajG(m:Nat)(hct:∀k,k<m->∀R,CallOK (R:=R) Tryz.prog (ct k)){R:Type}{args:List AV}{objs:List Ob}{K:Res->Option R}{r:R}(h:aqO m args objs K=some r):∃q:Res,K q=some r∧FX Tryz.prog 92 args objs q.1 q.2∧HasBody Tryz.prog 92:=by
 unfold aqO at h;split at h
 ·rename_i l hl;obtain⟨x,hx,hk⟩:=aj.1 h;obtain⟨a,b⟩:=rR hl;cases m with
  |zero=>cases hx
  |succ m=>exact⟨_,hk,(atc m (hct m (Nat.lt_succ_self m)) _ _ hx).conv a b,⟨_,Tryz.func92,rfl,by decide⟩⟩
 cases h
theorem ajH(m:Nat)(hct:∀k,k<m->∀R,CallOK (R:=R) Tryz.prog (ct k)){R:Type}{args:List AV}{objs:List Ob}{K:Res->Option R}{r:R}(h:aqP m args objs K=some r):∃q:Res,K q=some r∧FX Tryz.prog 93 args objs q.1 q.2∧HasBody Tryz.prog 93:=by
 unfold aqP at h;split at h
 ·rename_i l hl;obtain⟨x,hx,hk⟩:=aj.1 h;obtain⟨a,b⟩:=rR hl;cases m with
  |zero=>cases hx
  |succ m=>exact⟨_,hk,(ate m (hct m (Nat.lt_succ_self m)) _ _ hx).conv a b,⟨_,Tryz.func93,rfl,by decide⟩⟩
 cases h
theorem ajI(m:Nat)(hct:∀k,k<m->∀R,CallOK (R:=R) Tryz.prog (ct k)){R:Type}{args:List AV}{objs:List Ob}{K:Res->Option R}{r:R}(h:aqQ m args objs K=some r):∃q:Res,K q=some r∧FX Tryz.prog 94 args objs q.1 q.2∧HasBody Tryz.prog 94:=by
 unfold aqQ at h;split at h
 ·rename_i l hl;obtain⟨x,hx,hk⟩:=aj.1 h;obtain⟨a,b⟩:=jN hl;cases m with
  |zero=>cases hx
  |succ m=>exact⟨_,hk,(ath m (hct m (Nat.lt_succ_self m)) _ hx).conv a b,⟨_,Tryz.func94,rfl,by decide⟩⟩
 cases h
theorem ajJ(m:Nat)(hct:∀k,k<m->∀R,CallOK (R:=R) Tryz.prog (ct k)){R:Type}{args:List AV}{objs:List Ob}{K:Res->Option R}{r:R}(h:aqR m args objs K=some r):∃q:Res,K q=some r∧FX Tryz.prog 95 args objs q.1 q.2∧HasBody Tryz.prog 95:=by
 unfold aqR at h;split at h
 ·rename_i l hl;obtain⟨x,hx,hk⟩:=aj.1 h;obtain⟨a,b⟩:=J6 hl;cases m with
  |zero=>cases hx
  |succ m=>exact⟨_,hk,(atl m (hct m (Nat.lt_succ_self m)) _ _ hx).conv a b,⟨_,Tryz.func95,rfl,by decide⟩⟩
 cases h
theorem ajK(m:Nat)(hct:∀k,k<m->∀R,CallOK (R:=R) Tryz.prog (ct k)){R:Type}{args:List AV}{objs:List Ob}{K:Res->Option R}{r:R}(h:aqS m args objs K=some r):∃q:Res,K q=some r∧FX Tryz.prog 98 args objs q.1 q.2∧HasBody Tryz.prog 98:=by
 unfold aqS at h;split at h
 ·rename_i l hl;obtain⟨x,hx,hk⟩:=aj.1 h;obtain⟨a,b⟩:=cB hl;cases m with
  |zero=>cases hx
  |succ m=>exact⟨_,hk,(atC m (hct m (Nat.lt_succ_self m)) _ hx).conv a b,⟨_,Tryz.func98,rfl,by decide⟩⟩
 cases h
theorem abO(m:Nat)(hct:∀k,k<m->∀R,CallOK (R:=R) Tryz.prog (ct k)){R:Type}{args:List AV}{objs:List Ob}{K:Res->Option R}{r:R}(h:adV m args objs K=some r):∃q:Res,K q=some r∧FX Tryz.prog 218 args objs q.1 q.2∧HasBody Tryz.prog 218:=by
 unfold adV at h;split at h
 ·rename_i l hl;obtain⟨x,hx,hk⟩:=aj.1 h;obtain⟨a,b⟩:=rR hl;cases m with
  |zero=>cases hx
  |succ m=>exact⟨_,hk,(asZ m (hct m (Nat.lt_succ_self m)) _ _ hx).conv a b,⟨_,Tryz.func218,rfl,by decide⟩⟩
 cases h
theorem abP(m:Nat)(hct:∀k,k<m->∀R,CallOK (R:=R) Tryz.prog (ct k)){R:Type}{args:List AV}{objs:List Ob}{K:Res->Option R}{r:R}(h:adW m args objs K=some r):∃q:Res,K q=some r∧FX Tryz.prog 219 args objs q.1 q.2∧HasBody Tryz.prog 219:=by
 unfold adW at h;split at h
 ·rename_i l hl;obtain⟨x,hx,hk⟩:=aj.1 h;obtain⟨a,b⟩:=rR hl;cases m with
  |zero=>cases hx
  |succ m=>exact⟨_,hk,(as3 m (hct m (Nat.lt_succ_self m)) _ _ hx).conv a b,⟨_,Tryz.func219,rfl,by decide⟩⟩
 cases h
theorem abQ(m:Nat)(hct:∀k,k<m->∀R,CallOK (R:=R) Tryz.prog (ct k)){R:Type}{args:List AV}{objs:List Ob}{K:Res->Option R}{r:R}(h:adX m args objs K=some r):∃q:Res,K q=some r∧FX Tryz.prog 220 args objs q.1 q.2∧HasBody Tryz.prog 220:=by
 unfold adX at h;split at h
 ·rename_i l hl;obtain⟨x,hx,hk⟩:=aj.1 h;obtain⟨a,b⟩:=jN hl;exact⟨_,hk,(y5 hx).conv a b,⟨_,Tryz.func220,rfl,by decide⟩⟩
 cases h
theorem abR(m:Nat)(hct:∀k,k<m->∀R,CallOK (R:=R) Tryz.prog (ct k)){R:Type}{args:List AV}{objs:List Ob}{K:Res->Option R}{r:R}(h:adY m args objs K=some r):∃q:Res,K q=some r∧FX Tryz.prog 221 args objs q.1 q.2∧HasBody Tryz.prog 221:=by
 unfold adY at h;split at h
 ·rename_i l hl;obtain⟨x,hx,hk⟩:=aj.1 h;obtain⟨a,b⟩:=adj hl;cases m with
  |zero=>cases hx
  |succ m=>exact⟨_,hk,(att m (hct m (Nat.lt_succ_self m)) _ hx).conv a b,⟨_,Tryz.func221,rfl,by decide⟩⟩
 cases h
theorem abS(m:Nat)(hct:∀k,k<m->∀R,CallOK (R:=R) Tryz.prog (ct k)){R:Type}{args:List AV}{objs:List Ob}{K:Res->Option R}{r:R}(h:adZ m args objs K=some r):∃q:Res,K q=some r∧FX Tryz.prog 240 args objs q.1 q.2∧HasBody Tryz.prog 240:=by
 unfold adZ at h;split at h
 ·rename_i l hl;obtain⟨x,hx,hk⟩:=aj.1 h;obtain⟨a,b⟩:=rQ hl;cases m with
  |zero=>cases hx
  |succ m=>exact⟨_,hk,(as5 m (hct m (Nat.lt_succ_self m)) _ hx).conv a b,⟨_,Tryz.func240,rfl,by decide⟩⟩
 cases h
theorem abT(m:Nat)(hct:∀k,k<m->∀R,CallOK (R:=R) Tryz.prog (ct k)){R:Type}{args:List AV}{objs:List Ob}{K:Res->Option R}{r:R}(h:ad1 m args objs K=some r):∃q:Res,K q=some r∧FX Tryz.prog 128 args objs q.1 q.2∧HasBody Tryz.prog 128:=by
 unfold ad1 at h;split at h
 ·rename_i l hl;obtain⟨x,hx,hk⟩:=aj.1 h;obtain⟨a,b⟩:=rQ hl;cases m with
  |zero=>cases hx
  |succ m=>exact⟨_,hk,(as7 m (hct m (Nat.lt_succ_self m)) _ hx).conv a b,⟨_,Tryz.func128,rfl,by decide⟩⟩
 cases h
theorem abU(m:Nat)(hct:∀k,k<m->∀R,CallOK (R:=R) Tryz.prog (ct k)){R:Type}{args:List AV}{objs:List Ob}{K:Res->Option R}{r:R}(h:ad2 m args objs K=some r):∃q:Res,K q=some r∧FX Tryz.prog 133 args objs q.1 q.2∧HasBody Tryz.prog 133:=by
 unfold ad2 at h;split at h
 ·rename_i l hl;obtain⟨x,hx,hk⟩:=aj.1 h;obtain⟨a,b⟩:=cB hl;cases m with
  |zero=>cases hx
  |succ m=>exact⟨_,hk,(atb m (hct m (Nat.lt_succ_self m)) _ hx).conv a b,⟨_,Tryz.func133,rfl,by decide⟩⟩
 cases h
theorem abV(m:Nat)(hct:∀k,k<m->∀R,CallOK (R:=R) Tryz.prog (ct k)){R:Type}{args:List AV}{objs:List Ob}{K:Res->Option R}{r:R}(h:ad3 m args objs K=some r):∃q:Res,K q=some r∧FX Tryz.prog 134 args objs q.1 q.2∧HasBody Tryz.prog 134:=by
 unfold ad3 at h;split at h
 ·rename_i l hl;obtain⟨x,hx,hk⟩:=aj.1 h;obtain⟨a,b⟩:=adl hl;cases m with
  |zero=>cases hx
  |succ m=>exact⟨_,hk,(atg m (hct m (Nat.lt_succ_self m)) _ _ _ hx).conv a b,⟨_,Tryz.func134,rfl,by decide⟩⟩
 cases h
theorem abW(m:Nat)(hct:∀k,k<m->∀R,CallOK (R:=R) Tryz.prog (ct k)){R:Type}{args:List AV}{objs:List Ob}{K:Res->Option R}{r:R}(h:ad4 m args objs K=some r):∃q:Res,K q=some r∧FX Tryz.prog 135 args objs q.1 q.2∧HasBody Tryz.prog 135:=by
 unfold ad4 at h;split at h
 ·rename_i l hl;obtain⟨x,hx,hk⟩:=aj.1 h;obtain⟨a,b⟩:=jN hl;cases m with
  |zero=>cases hx
  |succ m=>exact⟨_,hk,(ati m (hct m (Nat.lt_succ_self m)) _ hx).conv a b,⟨_,Tryz.func135,rfl,by decide⟩⟩
 cases h
theorem abX(m:Nat)(hct:∀k,k<m->∀R,CallOK (R:=R) Tryz.prog (ct k)){R:Type}{args:List AV}{objs:List Ob}{K:Res->Option R}{r:R}(h:ad5 m args objs K=some r):∃q:Res,K q=some r∧FX Tryz.prog 136 args objs q.1 q.2∧HasBody Tryz.prog 136:=by
 unfold ad5 at h;split at h
 ·rename_i l hl;obtain⟨x,hx,hk⟩:=aj.1 h;obtain⟨a,b⟩:=cB hl;cases m with
  |zero=>cases hx
  |succ m=>exact⟨_,hk,(atB m (hct m (Nat.lt_succ_self m)) _ hx).conv a b,⟨_,Tryz.func136,rfl,by decide⟩⟩
 cases h
theorem abY(m:Nat)(hct:∀k,k<m->∀R,CallOK (R:=R) Tryz.prog (ct k)){R:Type}{args:List AV}{objs:List Ob}{K:Res->Option R}{r:R}(h:ad6 m args objs K=some r):∃q:Res,K q=some r∧FX Tryz.prog 234 args objs q.1 q.2∧HasBody Tryz.prog 234:=by
 unfold ad6 at h;split at h
 ·rename_i l hl;obtain⟨x,hx,hk⟩:=aj.1 h;obtain⟨a,b⟩:=ado hl;cases m with
  |zero=>cases hx
  |succ m=>exact⟨_,hk,(apG m (hct m (Nat.lt_succ_self m)) _ _ _ hx).conv a b,⟨_,Tryz.func234,rfl,by decide⟩⟩
 split at h
 ·rename_i l hl;obtain⟨x,hx,hk⟩:=aj.1 h;obtain⟨a,b⟩:=adq hl;cases m with
  |zero=>cases hx
  |succ m=>exact⟨_,hk,(apI m (hct m (Nat.lt_succ_self m)) _ _ _ hx).conv a b,⟨_,Tryz.func234,rfl,by decide⟩⟩
 cases h
theorem abZ(m:Nat)(hct:∀k,k<m->∀R,CallOK (R:=R) Tryz.prog (ct k)){R:Type}{args:List AV}{objs:List Ob}{K:Res->Option R}{r:R}(h:ad7 m args objs K=some r):∃q:Res,K q=some r∧FX Tryz.prog 235 args objs q.1 q.2∧HasBody Tryz.prog 235:=by
 unfold ad7 at h;split at h
 ·rename_i l hl;obtain⟨x,hx,hk⟩:=aj.1 h;obtain⟨a,b⟩:=J7 hl;cases m with
  |zero=>cases hx
  |succ m=>exact⟨_,hk,(apH m (hct m (Nat.lt_succ_self m)) _ _ _ hx).conv a b,⟨_,Tryz.func235,rfl,by decide⟩⟩
 cases h
theorem ab0(m:Nat)(hct:∀k,k<m->∀R,CallOK (R:=R) Tryz.prog (ct k)){R:Type}{args:List AV}{objs:List Ob}{K:Res->Option R}{r:R}(h:ad8 m args objs K=some r):∃q:Res,K q=some r∧FX Tryz.prog 236 args objs q.1 q.2∧HasBody Tryz.prog 236:=by
 unfold ad8 at h;split at h
 ·rename_i l hl;obtain⟨x,hx,hk⟩:=aj.1 h;obtain⟨a,b⟩:=J7 hl;cases m with
  |zero=>cases hx
  |succ m=>exact⟨_,hk,(apJ m (hct m (Nat.lt_succ_self m)) _ _ _ hx).conv a b,⟨_,Tryz.func236,rfl,by decide⟩⟩
 cases h
theorem ab1(m:Nat)(hct:∀k,k<m->∀R,CallOK (R:=R) Tryz.prog (ct k)){R:Type}{args:List AV}{objs:List Ob}{K:Res->Option R}{r:R}(h:ad9 m args objs K=some r):∃q:Res,K q=some r∧FX Tryz.prog 238 args objs q.1 q.2∧HasBody Tryz.prog 238:=by
 unfold ad9 at h;split at h
 ·rename_i l hl;obtain⟨x,hx,hk⟩:=aj.1 h;obtain⟨a,b⟩:=jN hl;cases m with
  |zero=>cases hx
  |succ m=>exact⟨_,hk,(atq m (hct m (Nat.lt_succ_self m)) _ hx).conv a b,⟨_,Tryz.func238,rfl,by decide⟩⟩
 cases h
theorem ab2(m:Nat)(hct:∀k,k<m->∀R,CallOK (R:=R) Tryz.prog (ct k)){R:Type}{args:List AV}{objs:List Ob}{K:Res->Option R}{r:R}(h:aea m args objs K=some r):∃q:Res,K q=some r∧FX Tryz.prog 191 args objs q.1 q.2∧HasBody Tryz.prog 191:=by
 unfold aea at h;split at h
 ·rename_i l hl;obtain⟨x,hx,hk⟩:=aj.1 h;obtain⟨a,b⟩:=rQ hl;cases m with
  |zero=>cases hx
  |succ m=>exact⟨_,hk,(atA m (hct m (Nat.lt_succ_self m)) _ hx).conv a b,⟨_,Tryz.func191,rfl,by decide⟩⟩
 cases h
set_option maxHeartbeats 4000000 in
theorem atJ:∀(m:Nat)(R:Type),CallOK (R:=R) Tryz.prog (ct m):=by
 intro m;induction m using Nat.strongRecOn with
 |_ m ih=>
  intro R f args objs K r h;unfold ct at h;rcases aL h with⟨hb,a⟩| ⟨_,h⟩
  · have e:=beq_eq hb;subst e;exact apT m ih a
  rcases aL h with⟨hb,a⟩| ⟨_,h⟩
  · have e:=beq_eq hb;subst e;exact ai8 m ih a
  rcases aL h with⟨hb,a⟩| ⟨_,h⟩
  · have e:=beq_eq hb;subst e;exact ai9 m ih a
  rcases aL h with⟨hb,a⟩| ⟨_,h⟩
  · have e:=beq_eq hb;subst e;exact aja m ih a
  rcases aL h with⟨hb,a⟩| ⟨_,h⟩
  · have e:=beq_eq hb;subst e;exact ajb m ih a
  rcases aL h with⟨hb,a⟩| ⟨_,h⟩
  · have e:=beq_eq hb;subst e;exact ajc m ih a
  rcases aL h with⟨hb,a⟩| ⟨_,h⟩
  · have e:=beq_eq hb;subst e;exact ajd m ih a
  rcases aL h with⟨hb,a⟩| ⟨_,h⟩
  · have e:=beq_eq hb;subst e;exact aje m ih a
  rcases aL h with⟨hb,a⟩| ⟨_,h⟩
  · have e:=beq_eq hb;subst e;exact ajf m ih a
  rcases aL h with⟨hb,a⟩| ⟨_,h⟩
  · have e:=beq_eq hb;subst e;exact ajg m ih a
  rcases aL h with⟨hb,a⟩| ⟨_,h⟩
  · have e:=beq_eq hb;subst e;exact ajh m ih a
  rcases aL h with⟨hb,a⟩| ⟨_,h⟩
  · have e:=beq_eq hb;subst e;exact aji m ih a
  rcases aL h with⟨hb,a⟩| ⟨_,h⟩
  · have e:=beq_eq hb;subst e;exact apU m ih a
  rcases aL h with⟨hb,a⟩| ⟨_,h⟩
  · have e:=beq_eq hb;subst e;exact ajj m ih a
  rcases aL h with⟨hb,a⟩| ⟨_,h⟩
  · have e:=beq_eq hb;subst e;exact ajk m ih a
  rcases aL h with⟨hb,a⟩| ⟨_,h⟩
  · have e:=beq_eq hb;subst e;exact ajl m ih a
  rcases aL h with⟨hb,a⟩| ⟨_,h⟩
  · have e:=beq_eq hb;subst e;exact ajm m ih a
  rcases aL h with⟨hb,a⟩| ⟨_,h⟩
  · have e:=beq_eq hb;subst e;exact ajn m ih a
  rcases aL h with⟨hb,a⟩| ⟨_,h⟩
  · have e:=beq_eq hb;subst e;exact ajo m ih a
  rcases aL h with⟨hb,a⟩| ⟨_,h⟩
  · have e:=beq_eq hb;subst e;exact ajp m ih a
  rcases aL h with⟨hb,a⟩| ⟨_,h⟩
  · have e:=beq_eq hb;subst e;exact abj m ih a
  rcases aL h with⟨hb,a⟩| ⟨_,h⟩
  · have e:=beq_eq hb;subst e;exact abk m ih a
  rcases aL h with⟨hb,a⟩| ⟨_,h⟩
  · have e:=beq_eq hb;subst e;exact abl m ih a
  rcases aL h with⟨hb,a⟩| ⟨_,h⟩
  · have e:=beq_eq hb;subst e;exact ajq m ih a
  rcases aL h with⟨hb,a⟩| ⟨_,h⟩
  · have e:=beq_eq hb;subst e;exact abm m ih a
  rcases aL h with⟨hb,a⟩| ⟨_,h⟩
  · have e:=beq_eq hb;subst e;exact abn m ih a
  rcases aL h with⟨hb,a⟩| ⟨_,h⟩
  · have e:=beq_eq hb;subst e;exact abo m ih a
  rcases aL h with⟨hb,a⟩| ⟨_,h⟩
  · have e:=beq_eq hb;subst e;exact abp m ih a
  rcases aL h with⟨hb,a⟩| ⟨_,h⟩
  · have e:=beq_eq hb;subst e;exact abq m ih a
  rcases aL h with⟨hb,a⟩| ⟨_,h⟩
  · have e:=beq_eq hb;subst e;exact abr m ih a
  rcases aL h with⟨hb,a⟩| ⟨_,h⟩
  · have e:=beq_eq hb;subst e;exact abt m ih a
  rcases aL h with⟨hb,a⟩| ⟨_,h⟩
  · have e:=beq_eq hb;subst e;exact abu m ih a
  rcases aL h with⟨hb,a⟩| ⟨_,h⟩
  · have e:=beq_eq hb;subst e;exact abv m ih a
  rcases aL h with⟨hb,a⟩| ⟨_,h⟩
  · have e:=beq_eq hb;subst e;exact abw m ih a
  rcases aL h with⟨hb,a⟩| ⟨_,h⟩
  · have e:=beq_eq hb;subst e;exact ajr m ih a
  rcases aL h with⟨hb,a⟩| ⟨_,h⟩
  · have e:=beq_eq hb;subst e;exact ajs m ih a
  rcases aL h with⟨hb,a⟩| ⟨_,h⟩
  · have e:=beq_eq hb;subst e;exact ajt m ih a
  rcases aL h with⟨hb,a⟩| ⟨_,h⟩
  · have e:=beq_eq hb;subst e;exact aju m ih a
  rcases aL h with⟨hb,a⟩| ⟨_,h⟩
  · have e:=beq_eq hb;subst e;exact ajv m ih a
  rcases aL h with⟨hb,a⟩| ⟨_,h⟩
  · have e:=beq_eq hb;subst e;exact ajw m ih a
  rcases aL h with⟨hb,a⟩| ⟨_,h⟩
  · have e:=beq_eq hb;subst e;exact ajx m ih a
  rcases aL h with⟨hb,a⟩| ⟨_,h⟩
  · have e:=beq_eq hb;subst e;exact abx m ih a
  rcases aL h with⟨hb,a⟩| ⟨_,h⟩
  · have e:=beq_eq hb;subst e;exact aby m ih a
  rcases aL h with⟨hb,a⟩| ⟨_,h⟩
  · have e:=beq_eq hb;subst e;exact abz m ih a
  rcases aL h with⟨hb,a⟩| ⟨_,h⟩
  · have e:=beq_eq hb;subst e;exact abA m ih a
  rcases aL h with⟨hb,a⟩| ⟨_,h⟩
  · have e:=beq_eq hb;subst e;exact abB m ih a
  rcases aL h with⟨hb,a⟩| ⟨_,h⟩
  · have e:=beq_eq hb;subst e;exact abC m ih a
  rcases aL h with⟨hb,a⟩| ⟨_,h⟩
  · have e:=beq_eq hb;subst e;exact abD m ih a
  rcases aL h with⟨hb,a⟩| ⟨_,h⟩
  · have e:=beq_eq hb;subst e;exact ajy m ih a
  rcases aL h with⟨hb,a⟩| ⟨_,h⟩
  · have e:=beq_eq hb;subst e;exact abE m ih a
  rcases aL h with⟨hb,a⟩| ⟨_,h⟩
  · have e:=beq_eq hb;subst e;exact abF m ih a
  rcases aL h with⟨hb,a⟩| ⟨_,h⟩
  · have e:=beq_eq hb;subst e;exact ajz m ih a
  rcases aL h with⟨hb,a⟩| ⟨_,h⟩
  · have e:=beq_eq hb;subst e;exact ajA m ih a
  rcases aL h with⟨hb,a⟩| ⟨_,h⟩
  · have e:=beq_eq hb;subst e;exact ajB m ih a
  rcases aL h with⟨hb,a⟩| ⟨_,h⟩
  · have e:=beq_eq hb;subst e;exact ajC m ih a
  rcases aL h with⟨hb,a⟩| ⟨_,h⟩
  · have e:=beq_eq hb;subst e;exact ajD m ih a
  rcases aL h with⟨hb,a⟩| ⟨_,h⟩
  · have e:=beq_eq hb;subst e;exact abG m ih a
  rcases aL h with⟨hb,a⟩| ⟨_,h⟩
  · have e:=beq_eq hb;subst e;exact abH m ih a
  rcases aL h with⟨hb,a⟩| ⟨_,h⟩
  · have e:=beq_eq hb;subst e;exact abI m ih a
  rcases aL h with⟨hb,a⟩| ⟨_,h⟩
  · have e:=beq_eq hb;subst e;exact abJ m ih a
  rcases aL h with⟨hb,a⟩| ⟨_,h⟩
  · have e:=beq_eq hb;subst e;exact abK m ih a
  rcases aL h with⟨hb,a⟩| ⟨_,h⟩
  · have e:=beq_eq hb;subst e;exact abL m ih a
  rcases aL h with⟨hb,a⟩| ⟨_,h⟩
  · have e:=beq_eq hb;subst e;exact abM m ih a
  rcases aL h with⟨hb,a⟩| ⟨_,h⟩
  · have e:=beq_eq hb;subst e;exact abN m ih a
  rcases aL h with⟨hb,a⟩| ⟨_,h⟩
  · have e:=beq_eq hb;subst e;exact ajE m ih a
  rcases aL h with⟨hb,a⟩| ⟨_,h⟩
  · have e:=beq_eq hb;subst e;exact ajF m ih a
  rcases aL h with⟨hb,a⟩| ⟨_,h⟩
  · have e:=beq_eq hb;subst e;exact ajG m ih a
  rcases aL h with⟨hb,a⟩| ⟨_,h⟩
  · have e:=beq_eq hb;subst e;exact ajH m ih a
  rcases aL h with⟨hb,a⟩| ⟨_,h⟩
  · have e:=beq_eq hb;subst e;exact ajI m ih a
  rcases aL h with⟨hb,a⟩| ⟨_,h⟩
  · have e:=beq_eq hb;subst e;exact ajJ m ih a
  rcases aL h with⟨hb,a⟩| ⟨_,h⟩
  · have e:=beq_eq hb;subst e;exact ajK m ih a
  rcases aL h with⟨hb,a⟩| ⟨_,h⟩
  · have e:=beq_eq hb;subst e;exact abO m ih a
  rcases aL h with⟨hb,a⟩| ⟨_,h⟩
  · have e:=beq_eq hb;subst e;exact abP m ih a
  rcases aL h with⟨hb,a⟩| ⟨_,h⟩
  · have e:=beq_eq hb;subst e;exact abQ m ih a
  rcases aL h with⟨hb,a⟩| ⟨_,h⟩
  · have e:=beq_eq hb;subst e;exact abR m ih a
  rcases aL h with⟨hb,a⟩| ⟨_,h⟩
  · have e:=beq_eq hb;subst e;exact abS m ih a
  rcases aL h with⟨hb,a⟩| ⟨_,h⟩
  · have e:=beq_eq hb;subst e;exact abT m ih a
  rcases aL h with⟨hb,a⟩| ⟨_,h⟩
  · have e:=beq_eq hb;subst e;exact abU m ih a
  rcases aL h with⟨hb,a⟩| ⟨_,h⟩
  · have e:=beq_eq hb;subst e;exact abV m ih a
  rcases aL h with⟨hb,a⟩| ⟨_,h⟩
  · have e:=beq_eq hb;subst e;exact abW m ih a
  rcases aL h with⟨hb,a⟩| ⟨_,h⟩
  · have e:=beq_eq hb;subst e;exact abX m ih a
  rcases aL h with⟨hb,a⟩| ⟨_,h⟩
  · have e:=beq_eq hb;subst e;exact abY m ih a
  rcases aL h with⟨hb,a⟩| ⟨_,h⟩
  · have e:=beq_eq hb;subst e;exact abZ m ih a
  rcases aL h with⟨hb,a⟩| ⟨_,h⟩
  · have e:=beq_eq hb;subst e;exact ab0 m ih a
  rcases aL h with⟨hb,a⟩| ⟨_,h⟩
  · have e:=beq_eq hb;subst e;exact ab1 m ih a
  rcases aL h with⟨hb,a⟩| ⟨_,h⟩
  · have e:=beq_eq hb;subst e;exact ab2 m ih a
  cases h
