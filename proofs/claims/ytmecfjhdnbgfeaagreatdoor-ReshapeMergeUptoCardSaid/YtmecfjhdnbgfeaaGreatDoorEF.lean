/- Generated: each function's run in the abstract machine is its shallow function.
Generated:the contracts. -/
import Derived.Test.YtmecfjhdnbgfeaaGreatDoorEQ
import Derived.Test.YtmecfjhdnbgfeaaGreatDoorAmEnv
import Derived.KernelRfl
set_option linter.all false
namespace Go.Proofs.YtmecfjhdnbgfeaaGreatDoor
open Nat (succ)
open IntKind (wrap)
open Go.Am Dt
set_option maxRecDepth 100000
def aoS:List Nat:=[1,1,1,1,1]
def FT:List Nat:=[1,1,1,0,1]
def aoT:List Nat:=[1,1,1,1,1,1]
def FU:List Nat:=[1,1,1,1,0,1]
def Cg:List Nat:=[1,1,1,1,1,0,1,0,1]
def aoU:List Nat:=Cg++[1,1,1,1,1,1,1,1,1,1,1,1,0,1]
def acF:List Nat:=Cg++[1,1,1,1,1,1,1,1,1,1,1,1,0,0,1]
def KZ:List Nat:=acF++[0]
def acG:List Nat:=KZ++[0,1,1]
def aoV:List Nat:=acG++[1]
noncomputable def e66(J:Q0)(m:Nat):=evAt Tryz.prog env (ct m) J (m+1) 171 132 Tryz.f171 d33
noncomputable def l66(J:Q0)(m:Nat):=loopAt Tryz.prog env (ct m) J (m+1) 171 132 Tryz.f171 d33
noncomputable def jJ(a:List Dt)(b c:Int):St:=⟨tsOf [(117,.dat 23 (.lst a)),(118,.dat 3 (.int b)),(119,.dat 3 (.int c))],[],0⟩
noncomputable def IC:St:=⟨tsOf [],[],0⟩
noncomputable def K3(a:Int)(b:Bool)(c:Dt):St:=⟨tsOf [(1,.ptr 0 [] 0),(70,.dat 3 (.int a)),(71,.dat 4 (.bool b))],[.box 26 (.dat 26 c)],0⟩
noncomputable def Tp(a:Dt):St:=⟨tsOf [(1,.ptr 0 [] 0)],[.box 26 (.dat 26 a)],0⟩
noncomputable def FV(a:Bool)(b:Dt):St:=⟨tsOf [(1,.ptr 0 [] 0),(68,.dat 4 (.bool a))],[.box 26 (.dat 26 b)],0⟩
noncomputable def FW(a:Bool)(b:Dt):St:=⟨tsOf [(1,.ptr 0 [] 0),(48,.dat 4 (.bool a))],[.box 26 (.dat 26 b)],0⟩
noncomputable def Tq(a b:Bool)(c:Dt):St:=⟨tsOf [(1,.ptr 0 [] 0),(3,.dat 4 (.bool a)),(4,.dat 4 (.bool b))],[.box 26 (.dat 26 c)],0⟩
noncomputable def Tt(a:Bool)(b:Dt):St:=⟨tsOf [(1,.ptr 0 [] 0),(3,.dat 4 (.bool a))],[.box 26 (.dat 26 b)],0⟩
abbrev aoW(m e:Nat)(a:Q16):Prop:=∀b c d,l66 jn m KZ [] e (jJ b c d)=a b c d
theorem Xe m b a(f:aoW m b a) c d e:e66 jn m aoV [b] (jJ c d e)=H6 m (qC m) (qH m) a c d e:=
 tq (g:=fun J=>jj J 1 25 b (jJ c d (wrap .i64 (e+1))) (l66 J m KZ [] b)) (by simp only[au,f];rfl)
theorem acH m b a(f:aoW m b a) c e d:e66 jn m acG [b] (jJ c e d)=Sn m (qC m) (qH m) a c e d:=
 tq (g:=fun J=>(idx c d).bind fun h=>(qC m h).bind fun i=>cond (!i) (some false) (jj J 0 29 0 (jJ c e d) (e66 J m aoV [b]))) (by simp only[au,Xe m b a f];rfl)
theorem Xf m:e66 jn m aoU [] IC=H7 m (qC m) (qH m):=
 tq (g:=fun J=>some true) (by rfl)
theorem K4 m:∀a d b c,l66 jn m KZ [] a (jJ d b c)=Ac m (qC m) (qH m) a d b c
 |0,_,_,_=>rfl
 |a+1,d,b,c=>
  tl (g:=fun J=>cond (c<b) (jj J 0 26 0 (jJ d b c) (e66 J m acG [a])) (jj J 0 30 0 IC (e66 J m aoU []))) (by simp only[au,acH m a (Ac m (qC m) (qH m) a) (K4 m a),Xf m];rfl)
theorem acI m a b c:e66 jn m acF [] (jJ a b c)=JV m (qC m) (qH m) a b c:=
 tq (g:=fun J=>jj J 1 25 (succ m) (jJ a b c) (l66 J m KZ [] (succ m))) (by simp only[au,K4 m];rfl)
theorem Xg m:e66 jn m aoT [] IC=Ad m (qC m) (qH m):=
 tq (g:=fun J=>some false) (by rfl)
theorem acJ m b c a:e66 jn m Cg [] (K3 b c a)=nL m (qC m) (qH m) b c a:=
 tq (g:=fun J=>cond c (some true) (cond (b==9) (cond (I a 1==0) (some true) (some (I a 1==1))) (cond (b==10) (some (decide (0<=I a 1))) (cond (b==4) (cond (((S a 2).size:Int)<=4096) ((utf8_ValidString (S a 2)).bind fun d=>some d) (some false)) (cond (b==7) (some (decide (((S a 2).size:Int)<=4096))) (cond (b==8) (some (((S a 2).size:Int)==12)) (cond (b==6) (jj J 0 25 0 (jJ (L a 3) ((L a 3).length:Int) 0) (e66 J m acF [])) (cond (b==5) ((qH m (L a 4)).bind fun e=>some e) (jj J 0 33 0 IC (e66 J m aoT [])))))))))) (by simp only[au,acI m,Xg m];rfl)
theorem acK m a:e66 jn m aoS [] (Tp a)=Ae m (qC m) (qH m) a:=
 tq (g:=fun J=>cond (I a 0==1) (jj J 0 12 0 (K3 (I a 0) (I a 0==1) a) (e66 J m Cg [])) (cond (I a 0==2) (jj J 0 12 0 (K3 (I a 0) (I a 0==2) a) (e66 J m Cg [])) (cond (I a 0==11) (jj J 0 12 0 (K3 (I a 0) (I a 0==11) a) (e66 J m Cg [])) (jj J 0 12 0 (K3 (I a 0) (I a 0==3) a) (e66 J m Cg []))))) (by simp only[au,acJ m];rfl)
theorem acL m a b:e66 jn m FU [] (FV a b)=rM m (qC m) (qH m) a b:=
 tq (g:=fun J=>cond a (some false) (jj J 0 7 0 (Tp b) (e66 J m aoS []))) (by simp only[au,acK m];rfl)
theorem acM m a:e66 jn m [1,1,1,1] [] (Tp a)=Af m (qC m) (qH m) a:=
 tq (g:=fun J=>cond (I a 0 !=6) (cond (0<((L a 3).length:Int)) (jj J 0 6 0 (FV true a) (e66 J m FU [])) (cond (I a 0 !=5) (jj J 0 6 0 (FV (decide (0<((L a 4).length:Int))) a) (e66 J m FU [])) (jj J 0 6 0 (FV false a) (e66 J m FU [])))) (cond (I a 0 !=5) (jj J 0 6 0 (FV (decide (0<((L a 4).length:Int))) a) (e66 J m FU [])) (jj J 0 6 0 (FV false a) (e66 J m FU [])))) (by simp only[au,acL m];rfl)
theorem acN m a b:e66 jn m FT [] (FW a b)=rO m (qC m) (qH m) a b:=
 tq (g:=fun J=>cond a (some false) (jj J 0 5 0 (Tp b) (e66 J m [1,1,1,1] []))) (by simp only[au,acM m];rfl)
theorem acO m c b a:e66 jn m [1,1,1] [] (Tq c b a)=rP m (qC m) (qH m) c b a:=
 tq (g:=fun J=>cond (!c) (cond (I a 1 !=0) (jj J 0 4 0 (FW true a) (e66 J m FT [])) (cond (!b) (jj J 0 4 0 (FW (!(S a 2).toList==[]) a) (e66 J m FT [])) (jj J 0 4 0 (FW false a) (e66 J m FT [])))) (cond (!b) (jj J 0 4 0 (FW (!(S a 2).toList==[]) a) (e66 J m FT [])) (jj J 0 4 0 (FW false a) (e66 J m FT [])))) (by simp only[au,acN m];rfl)
theorem acP m b a:e66 jn m [1,1] [] (Tt b a)=rQ m (qC m) (qH m) b a:=
 tq (g:=fun J=>cond (I a 0==4) (jj J 0 3 0 (Tq b true a) (e66 J m [1,1,1] [])) (cond (I a 0==7) (jj J 0 3 0 (Tq b true a) (e66 J m [1,1,1] [])) (jj J 0 3 0 (Tq b (I a 0==8) a) (e66 J m [1,1,1] [])))) (by simp only[au,acO m];rfl)
theorem au1 m a:e66 jn m [] [] ⟨[.dat 26 a],[],0⟩=qC (m+1) a:=
 tq (g:=fun J=>cond (I a 0==3) (jj J 0 2 0 (Tt true a) (e66 J m [1,1] [])) (cond (I a 0==9) (jj J 0 2 0 (Tt true a) (e66 J m [1,1] [])) (jj J 0 2 0 (Tt (I a 0==10) a) (e66 J m [1,1] [])))) (by simp only[au,acP m];rfl)
def Tw:List Nat:=[1,1,0,1,0]
def K6:List Nat:=[1,1,0,1,0,0,1,1]
def aoX:List Nat:=K6++[1]
def aoY:List Nat:=K6++[0,0,1,1]
def Tz:List Nat:=K6++[0,0,1,0,1]
noncomputable def e81(J:Q0)(m:Nat):=evAt Tryz.prog env (ct m) J (m+1) 221 33 Tryz.f221 d33
noncomputable def l81(J:Q0)(m:Nat):=loopAt Tryz.prog env (ct m) J (m+1) 221 33 Tryz.f221 d33
noncomputable def nO(a:List Dt)(b c:Int)(d:List Dt):St:=⟨tsOf [(3,.row 0),(7,.dat 24 (.lst a)),(8,.dat 3 (.int b)),(9,.dat 3 (.int c))],[(.map 223 d)],0⟩
noncomputable def aoZ(a:List Dt)(b c:Int)(d:List Dt)(e:Dt):St:=⟨tsOf [(3,.row 0),(5,.ptr 1 [] 0),(7,.dat 24 (.lst a)),(8,.dat 3 (.int b)),(9,.dat 3 (.int c))],[(.map 223 d),.box 48 (.dat 48 e)],0⟩
noncomputable def TA(a:List Dt)(b c:Int)(d:Bool)(e:List Dt)(f:Dt):St:=⟨tsOf [(3,.row 0),(5,.ptr 1 [] 0),(7,.dat 24 (.lst a)),(8,.dat 3 (.int b)),(9,.dat 3 (.int c)),(28,.dat 4 (.bool d))],[(.map 223 e),.box 48 (.dat 48 f)],0⟩
noncomputable def ao0:St:=⟨tsOf [],[],0⟩
abbrev TD(m f:Nat)(a:Q40):Prop:=∀b c d e,l81 jn m Tw [] f (nO b c d e)=a b c d e
theorem acQ m b a(h:TD m b a) c d e f:e81 jn m aoX [b] (nO c d e f)=JW m (qC m) a c d e f:=
 tq (g:=fun J=>jj J 1 3 b (nO c d (wrap .i64 (e+1)) f) (l81 J m Tw [] b)) (by simp only[au,h];rfl)
theorem acR m b a(i:TD m b a) c d e f h:e81 jn m aoY [b] (aoZ c d e f h)=JX m (qC m) a c d e f h:=
 tq (g:=fun J=>jj J 0 8 0 (nO c d e (mput f (S h 0) (bool true))) (e81 J m aoX [b])) (by simp only[au,acQ m b a i];rfl)
theorem acS m b a(j:TD m b a) c d e f h i:e81 jn m Tz [b] (TA c d e f h i)=Ag m (qC m) a c d e f h i:=
 tq (g:=fun J=>cond f (some false) (jj J 0 7 0 (aoZ c d e h i) (e81 J m aoY [b]))) (by simp only[au,acR m b a j];rfl)
theorem acT m b a(i:TD m b a) c h d e:e81 jn m K6 [b] (nO c h d e)=JY m (qC m) a c h d e:=
 tq (g:=fun J=>(idx c d).bind fun f=>(qN m (S f 0)).bind fun j=>cond (!j) (jj J 0 6 0 (TA c h d true e f) (e81 J m Tz [b])) (bif Dt.toBool (mgetD e (S f 0) (bool false))then jj J 0 6 0 (TA c h d true e f) (e81 J m Tz [b])else(qC m (fld f 1)).bind fun k=>jj J 0 6 0 (TA c h d (!k) e f) (e81 J m Tz [b]))) (by simp only[au,acS m b a i];rfl)
theorem acU m:e81 jn m [1,1,1] [] ao0=JZ m (qC m):=
 tq (g:=fun J=>some true) (by rfl)
theorem K7 m:∀a d b c e,l81 jn m Tw [] a (nO d b c e)=EK m (qC m) a d b c e
 |0,_,_,_,_=>rfl
 |a+1,d,b,c,e=>
  tl (g:=fun J=>cond (c<b) (jj J 0 4 0 (nO d b c e) (e81 J m K6 [a])) (jj J 0 9 0 ao0 (e81 J m [1,1,1] []))) (by simp only[au,acT m a (EK m (qC m) a) (K7 m a),acU m];rfl)
theorem acV m a b c d:e81 jn m [1,1,0,1] [] (nO a b c d)=J2 m (qC m) a b c d:=
 tq (g:=fun J=>jj J 1 3 (succ m) (nO a b c d) (l81 J m Tw [] (succ m))) (by simp only[au,K7 m];rfl)
theorem au2 m a:e81 jn m [] [] ⟨[.dat 24 (.lst a)],[],0⟩=qH (m+1) a:=
 tq (g:=fun J=>jj J 0 3 0 (nO a (a.length:Int) 0 []) (e81 J m [1,1,0,1] [])) (by simp only[au,acV m];rfl)
noncomputable def e45(J:Q0)(m:Nat):=evAt Tryz.prog env (ct m) J (m+1) 122 15 Tryz.f122 d33
theorem au3 m a:e45 jn m [] [] ⟨[.dat 26 a],[],0⟩=yD (m+1) a:=
 tq (g:=fun J=>(yK m a).bind fun b=>cond (b<=1024) ((yM m a).bind fun c=>cond (c<=16) ((qC m a).bind fun d=>some d) (some false)) (some false)) (by rfl)
noncomputable def e43(J:Q51)(m:Nat):=evAt Tryz.prog env (ct m) J (m+1) 137 10 Tryz.f137 d43
noncomputable def ao1(a:Dt):St:=⟨tsOf [(1,.ptr 0 [] 0)],[.box 26 (.dat 26 a)],0⟩
theorem acW m a:e43 jn m [1,1] [] (ao1 a)=abb m a:=
 tq (g:=fun J=>(i60 m a []).bind fun b=>(cond (Nat.ble b.length 137438953472) (Option.some (strOfNums (List.map toInt b))) Option.none).bind fun c=>some (c,0)) (by rfl)
theorem au4 m a:e43 jn m [] [] ⟨[.dat 26 a],[],0⟩=zX (m+1) a:=
 tq (g:=fun J=>(yD m a).bind fun b=>cond (!b) (some (ByteArray.mk (List.toArray []),8)) (jj J 0 3 0 (ao1 a) (e43 J m [1,1] []))) (by simp only[au,acW m];rfl)
def TF:List Nat:=[1,1,0,1,0]
def TG:List Nat:=[1,1,0,1,0,0,1,1]
def ao2:List Nat:=TG++[1]
def acX:List Nat:=TG++[0,0,1,1,1]
noncomputable def e15(J:Q26)(m:Nat):=evAt Tryz.prog env (ct m) J (m+1) 100 26 Tryz.f100 d15
noncomputable def l15(J:Q26)(m:Nat):=loopAt Tryz.prog env (ct m) J (m+1) 100 26 Tryz.f100 d15
noncomputable def nP(a:ByteArray)(b:List Dt)(c d:Int):St:=⟨tsOf [(3,.dat 9 (.str a)),(8,.dat 23 (.lst b)),(9,.dat 3 (.int c)),(10,.dat 3 (.int d))],[],0⟩
noncomputable def acY(a b:ByteArray)(c:List Dt)(d e:Int):St:=⟨tsOf [(3,.dat 9 (.str a)),(6,.dat 9 (.str b)),(8,.dat 23 (.lst c)),(9,.dat 3 (.int d)),(10,.dat 3 (.int e))],[],0⟩
noncomputable def ao3(a:ByteArray):St:=⟨tsOf [(3,.dat 9 (.str a))],[],0⟩
abbrev acZ(m f:Nat)(a:Q47):Prop:=∀b c d e,l15 jn m TF [] f (nP b c d e)=a b c d e
theorem ac0 m b a(h:acZ m b a) c d e f:e15 jn m ao2 [b] (nP c d e f)=abd m a c d e f:=
 tq (g:=fun J=>jj J 1 3 b (nP c d e (wrap .i64 (f+1))) (l15 J m TF [] b)) (by simp only[au,h];rfl)
theorem ac1 m b a(i:acZ m b a) c d e f h:e15 jn m acX [b] (acY c d e f h)=Ah m a c d e f h:=
 tq (g:=fun J=>cond (Nat.ble (c.size+d.size) 1152921504606846976) (jj J 0 9 0 (nP (c++d) e f h) (e15 J m ao2 [b])) none) (by simp only[au,ac0 m b a i];rfl)
theorem ac2 m b a(i:acZ m b a) e c f d:e15 jn m TG [b] (nP e c f d)=J3 m a e c f d:=
 tq (g:=fun J=>(idx c d).bind fun j=>(zX m j).bind fun h=>cond (h.2 !=0) (jj J 0 8 0 (acY e (ByteArray.mk (List.toArray [63])) c f d) (e15 J m acX [b])) (jj J 0 8 0 (acY e h.1 c f d) (e15 J m acX [b]))) (by simp only[au,ac1 m b a i];rfl)
theorem ac3 m a:e15 jn m [1,1,1] [] (ao3 a)=aoB m a:=
 tq (g:=fun J=>some a) (by rfl)
theorem K8 m:∀a b e c d,l15 jn m TF [] a (nP b e c d)=rR m a b e c d
 |0,_,_,_,_=>rfl
 |a+1,b,e,c,d=>
  tl (g:=fun J=>cond (d<c) (jj J 0 4 0 (nP b e c d) (e15 J m TG [a])) (jj J 0 10 0 (ao3 b) (e15 J m [1,1,1] []))) (by simp only[au,ac2 m a (rR m a) (K8 m a),ac3 m];rfl)
theorem ac4 m a b c d:e15 jn m [1,1,0,1] [] (nP a b c d)=aoC m a b c d:=
 tq (g:=fun J=>jj J 1 3 (succ m) (nP a b c d) (l15 J m TF [] (succ m))) (by simp only[au,K8 m];rfl)
theorem au5 m a:e15 jn m [] [] ⟨[.dat 23 (.lst a)],[],0⟩=zA (m+1) a:=
 tq (g:=fun J=>jj J 0 3 0 (nP (ByteArray.mk (List.toArray [])) a (a.length:Int) 0) (e15 J m [1,1,0,1] [])) (by simp only[au,ac4 m];rfl)
def TH:List Nat:=[1,1,0,1,0]
def ac5:List Nat:=[1,1,0,1,0,0,1,1]
def ac6:List Nat:=ac5++[1]
noncomputable def e13(J:Q26)(m:Nat):=evAt Tryz.prog env (ct m) J (m+1) 99 45 Tryz.f99 d15
noncomputable def l13(J:Q26)(m:Nat):=loopAt Tryz.prog env (ct m) J (m+1) 99 45 Tryz.f99 d15
noncomputable def lX(a:List Dt)(b c:Int)(d:Dt)(e:List Dt):St:=⟨tsOf [(3,.ptr 0 [] 0),(5,.row 1),(19,.dat 49 (.lst a)),(20,.dat 3 (.int b)),(21,.dat 3 (.int c))],[.box 26 (.dat 26 d),.row 23 e],0⟩
noncomputable def ao4(a:List Dt):St:=⟨tsOf [(5,.row 0)],[.row 23 a],0⟩
abbrev ao5(m g:Nat)(a:Q67):Prop:=∀b c d e f,l13 jn m TH [] g (lX b c d e f)=a b c d e f
theorem Xh m b a(i:ao5 m b a) c d e f h:e13 jn m ac6 [b] (lX c d e f h)=Ai m a c d e f h:=
 tq (g:=fun J=>jj J 1 3 b (lX c d (wrap .i64 (e+1)) f h) (l13 J m TH [] b)) (by simp only[au,i];rfl)
theorem Xi m e b(j:ao5 m e b) f i a h c:e13 jn m ac5 [e] (lX f i a h c)=P5 m b f i a h c:=
 tq (g:=fun J=>(idx f a).bind fun k=>(zL m h (toLst k)).bind fun d=>(inL c a).bind fun n=>(c[a.toNat]?).bind fun o=>(inL (List.set c a.toNat d) a).bind fun p=>((List.set c a.toNat d)[a.toNat]?).bind fun l=>cond (I l 0==0) ((inL (List.set c a.toNat d) a).bind fun q=>((List.set c a.toNat d)[a.toNat]?).bind fun r=>jj J 0 8 0 (lX f i a h (List.set (List.set c a.toNat d) a.toNat xI)) (e13 J m ac6 [e])) (jj J 0 8 0 (lX f i a h (List.set c a.toNat d)) (e13 J m ac6 [e]))) (by simp only[au,Xh m e b j];rfl)
theorem Xj m a:e13 jn m [1,1,1] [] (ao4 a)=P6 m a:=
 tq (g:=fun J=>(zA m a).bind fun b=>some b) (by rfl)
theorem FY m:∀a e b c f d,l13 jn m TH [] a (lX e b c f d)=lC m a e b c f d
 |0,_,_,_,_,_=>rfl
 |a+1,e,b,c,f,d=>
  tl (g:=fun J=>cond (c<b) (jj J 0 4 0 (lX e b c f d) (e13 J m ac5 [a])) (jj J 0 9 0 (ao4 d) (e13 J m [1,1,1] []))) (by simp only[au,Xi m a (lC m a) (FY m a),Xj m];rfl)
theorem Xk m a b c d e:e13 jn m [1,1,0,1] [] (lX a b c d e)=abe m a b c d e:=
 tq (g:=fun J=>jj J 1 3 (succ m) (lX a b c d e) (l13 J m TH [] (succ m))) (by simp only[au,FY m];rfl)
theorem as8 m a b:e13 jn m [] [] ⟨[.rptr 114 a,.dat 26 b],[],0⟩=i13 (m+1) a b:=
 tq (g:=fun J=>(mkL ((L (fld a 0) 1).length:Int) ((L (fld a 0) 1).length:Int) aX).bind fun c=>jj J 0 3 0 (lX (L (fld a 0) 1) ((L (fld a 0) 1).length:Int) 0 b c) (e13 J m [1,1,0,1] [])) (by simp only[au,Xk m];rfl)
noncomputable def e12(J:Q35)(m:Nat):=evAt Tryz.prog env (ct m) J (m+1) 68 49 Tryz.f68 d20
theorem as9 m d e b a f i h:e12 jn m [] [] ⟨[.ptr 0 [] 0,.dat 26 d],[.box 114 (.agg 114 [.dat 51 e,.row 1,.row 2,.row 4,.row 5]),.row 112 b,(.rowD 110 75 (some 1000001) 3 a none),(.tok 75 f),(.map 111 i),.row 54 h],6⟩=i12 (m+1) d e b a f i h:=
 tq (g:=fun J=>(i13 m (agg [e,lst b,lst [],lst [],lst h]) d).bind fun c=>(app b [agg [d,str c]]).bind fun j=>cond (mhas a c) ((mix a c).bind fun k=>(f[k]?).bind fun q=>(app (toLst q) [int (b.length:Int)]).bind fun r=>cond (mhas a c) ((mix a c).bind fun p=>cond (Nat.beq k p) ((zQ m d).bind fun s=>(zA m [s]).bind fun t=>some (e,mput i t (int (b.length:Int)),j,a,List.set (List.set f k (lst [])) p (lst r),h)) none) none) (bif mhas a c then(mix a c).bind fun u=>(zQ m d).bind fun v=>(zA m [v]).bind fun l=>some (e,mput i l (int (b.length:Int)),j,a,List.set f u (lst [int (b.length:Int)]),h)else(zQ m d).bind fun n=>(zA m [n]).bind fun o=>some (e,mput i o (int (b.length:Int)),j,mput a c (bool true),List.set (f++[lst []]) a.length (lst [int (b.length:Int)]),h))) (by rfl)
noncomputable def e23(J:Q35)(m:Nat):=evAt Tryz.prog env (ct m) J (m+1) 142 58 Tryz.f142 d20
noncomputable def lY(a:ByteArray)(b:Dt)(c d e f g:List Dt)(h:Int)(i:Dt):St:=⟨tsOf [(0,.ptr 0 [] 0),(4,.ptr 10 [] 0),(5,.ptr 11 [] 0),(7,.dat 9 (.str a))],[.box 114 (.agg 114 [.dat 51 b,.row 6,.row 7,.row 4,.row 9]),.gone,.gone,.gone,(.map 111 c),.gone,.row 112 d,(.rowD 110 75 (some 1000001) 8 e none),(.tok 75 f),.row 54 g,.box 3 (.dat 3 (.int h)),.box 26 (.dat 26 i)],6⟩
theorem Xl m c d e a f h i b j:e23 jn m [1,1,1] [] (lY c d e a f h i b j)=gF m c d e a f h i b j:=
 tq (g:=fun J=>(inL a b).bind fun k=>(a[b.toNat]?).bind fun l=>some (d,e,List.set a b.toNat (agg [j,str c]),f,h,i)) (by rfl)
theorem ata m o h i f a e k j:e23 jn m [] [] ⟨[.ptr 0 [] 0,.dat 3 (.int o),.dat 26 h],[.box 114 (.agg 114 [.dat 51 i,.row 1,.row 2,.row 4,.row 5]),.row 112 f,(.rowD 110 75 (some 1000001) 3 a none),(.tok 75 e),(.map 111 k),.row 54 j],6⟩=i23 (m+1) o h i f a e k j:=
 tq (g:=fun J=>(inL f o).bind fun K=>(f[o.toNat]?).bind fun d=>(i13 m (agg [i,lst f,lst [],lst [],lst j]) h).bind fun c=>cond (!(S d 1).toList==c.toList) (bif mhas a (S d 1)then(mix a (S d 1)).bind fun r=>(e[r]?).bind fun F=>(i24 m (toLst F) o).bind fun l=>cond (mhas a (S d 1)) ((mix a (S d 1)).bind fun s=>cond (Nat.beq r s) (cond (mhas a c) ((mix a c).bind fun w=>((List.set (List.set e r (lst [])) s (lst l.2))[w]?).bind fun G=>(app (toLst G) [int l.1]).bind fun H=>cond (mhas a c) ((mix a c).bind fun t=>cond (Nat.beq w t) (jj J 0 5 0 (lY c i k f a (List.set (List.set (List.set (List.set e r (lst [])) s (lst l.2)) w (lst [])) t (lst H)) j l.1 h) (e23 J m [1,1,1] [])) none) none) (cond (mhas a c) ((mix a c).bind fun x=>jj J 0 5 0 (lY c i k f a (List.set (List.set (List.set e r (lst [])) s (lst l.2)) x (lst [int l.1])) j l.1 h) (e23 J m [1,1,1] [])) (jj J 0 5 0 (lY c i k f (mput a c (bool true)) (List.set (List.set (List.set e r (lst [])) s (lst l.2)++[lst []]) a.length (lst [int l.1])) j l.1 h) (e23 J m [1,1,1] [])))) none) none else(i24 m [] o).bind fun b=>bif mhas a (S d 1)then(mix a (S d 1)).bind fun n=>cond (mhas a c) ((mix a c).bind fun p=>((List.set e n (lst b.2))[p]?).bind fun y=>(app (toLst y) [int b.1]).bind fun z=>cond (mhas a c) ((mix a c).bind fun u=>cond (Nat.beq p u) (jj J 0 5 0 (lY c i k f a (List.set (List.set (List.set e n (lst b.2)) p (lst [])) u (lst z)) j b.1 h) (e23 J m [1,1,1] [])) none) none) (cond (mhas a c) ((mix a c).bind fun A=>jj J 0 5 0 (lY c i k f a (List.set (List.set e n (lst b.2)) A (lst [int b.1])) j b.1 h) (e23 J m [1,1,1] [])) (jj J 0 5 0 (lY c i k f (mput a c (bool true)) (List.set (List.set e n (lst b.2)++[lst []]) a.length (lst [int b.1])) j b.1 h) (e23 J m [1,1,1] [])))else cond (mhas (mput a (S d 1) (bool true)) c) ((mix (mput a (S d 1) (bool true)) c).bind fun q=>((List.set (e++[lst []]) a.length (lst b.2))[q]?).bind fun C=>(app (toLst C) [int b.1]).bind fun D=>cond (mhas (mput a (S d 1) (bool true)) c) ((mix (mput a (S d 1) (bool true)) c).bind fun v=>cond (Nat.beq q v) (jj J 0 5 0 (lY c i k f (mput a (S d 1) (bool true)) (List.set (List.set (List.set (e++[lst []]) a.length (lst b.2)) q (lst [])) v (lst D)) j b.1 h) (e23 J m [1,1,1] [])) none) none) (cond (mhas (mput a (S d 1) (bool true)) c) ((mix (mput a (S d 1) (bool true)) c).bind fun E=>jj J 0 5 0 (lY c i k f (mput a (S d 1) (bool true)) (List.set (List.set (e++[lst []]) a.length (lst b.2)) E (lst [int b.1])) j b.1 h) (e23 J m [1,1,1] [])) (jj J 0 5 0 (lY c i k f (mput (mput a (S d 1) (bool true)) c (bool true)) (List.set (List.set (e++[lst []]) a.length (lst b.2)++[lst []]) (mput a (S d 1) (bool true)).length (lst [int b.1])) j b.1 h) (e23 J m [1,1,1] [])))) (jj J 0 5 0 (lY c i k f a e j o h) (e23 J m [1,1,1] []))) (by simp only[au,Xl m];rfl)
noncomputable def e46(J:Q25)(m:Nat):=evAt Tryz.prog env (ct m) J (m+1) 193 9 Tryz.f193 d46
noncomputable def ao6(a:Dt):St:=⟨tsOf [(1,.ptr 0 [] 0)],[.box 26 (.dat 26 a)],0⟩
theorem ac7 m a:e46 jn m [1,1] [] (ao6 a)=abf m a:=
 tq (g:=fun J=>(qF m a).bind fun b=>some (b,0)) (by rfl)
theorem au6 m a:e46 jn m [] [] ⟨[.dat 26 a],[],0⟩=z6 (m+1) a:=
 tq (g:=fun J=>(yD m a).bind fun b=>cond (!b) (some (0,8)) (jj J 0 3 0 (ao6 a) (e46 J m [1,1] []))) (by simp only[au,ac7 m];rfl)
def ao7:List Nat:=[1,1,1,1,1]
def ao8:List Nat:=[1,1,1,1,1,1]
def TK:List Nat:=[1,1,0,1,0,1]
noncomputable def e19(J:Q1)(m:Nat):=evAt Tryz.prog env (ct m) J (m+1) 139 47 Tryz.f139 d19
noncomputable def ao9:St:=⟨tsOf [],[],0⟩
noncomputable def apa(a:Int):St:=⟨tsOf [(3,.dat 3 (.int a))],[],0⟩
noncomputable def TL(a:Dt):St:=⟨tsOf [(1,.ptr 0 [] 0)],[.box 26 (.dat 26 a)],0⟩
noncomputable def TM(a:Bool)(b:Dt):St:=⟨tsOf [(1,.ptr 0 [] 0),(33,.dat 4 (.bool a))],[.box 26 (.dat 26 b)],0⟩
noncomputable def K9(a:Bool)(b:Dt):St:=⟨tsOf [(1,.ptr 0 [] 0),(26,.dat 4 (.bool a))],[.box 26 (.dat 26 b)],0⟩
theorem ac8 m:e19 jn m ao8 [] ao9=aoD m:=
 tq (g:=fun J=>some 0) (by rfl)
theorem ac9 m a:e19 jn m ao7 [] (apa a)=J4 m a:=
 tq (g:=fun J=>cond (16384<a) (some 2) (jj J 0 13 0 ao9 (e19 J m ao8 []))) (by simp only[au,ac8 m];rfl)
theorem ada m a:e19 jn m [1,1,1] [] (TL a)=abg m a:=
 tq (g:=fun J=>(z6 m a).bind fun b=>cond (b.2 !=0) (some b.2) (jj J 0 11 0 (apa b.1) (e19 J m ao7 []))) (by simp only[au,ac9 m];rfl)
theorem adb m a b:e19 jn m TK [] (TM a b)=J5 m a b:=
 tq (g:=fun J=>cond a (some 8) (jj J 0 8 0 (TL b) (e19 J m [1,1,1] []))) (by simp only[au,ada m];rfl)
theorem ade m a:e19 jn m [1,1] [] (TL a)=abh m a:=
 tq (g:=fun J=>(idx (L a 4) 0).bind fun b=>cond (I (fld b 1) 0==6) (jj J 0 7 0 (TM (I (fld b 1) 0==6) a) (e19 J m TK [])) (cond (I (fld b 1) 0==1) (jj J 0 7 0 (TM (I (fld b 1) 0==1) a) (e19 J m TK [])) (jj J 0 7 0 (TM (I (fld b 1) 0==11) a) (e19 J m TK [])))) (by simp only[au,adb m];rfl)
theorem adf m a b:e19 jn m [1,0,1] [] (K9 a b)=Aj m a b:=
 tq (g:=fun J=>cond a (some 8) (jj J 0 3 0 (TL b) (e19 J m [1,1] []))) (by simp only[au,ade m];rfl)
theorem au7 m a:e19 jn m [] [] ⟨[.dat 26 a],[],0⟩=qS (m+1) a:=
 tq (g:=fun J=>(yD m a).bind fun b=>cond (!b) (jj J 0 2 0 (K9 true a) (e19 J m [1,0,1] [])) (cond (I a 0 !=5) (jj J 0 2 0 (K9 true a) (e19 J m [1,0,1] [])) (bif ((L a 4).length:Int)==0 then jj J 0 2 0 (K9 true a) (e19 J m [1,0,1] [])else(idx (L a 4) 0).bind fun c=>jj J 0 2 0 (K9 (!(S c 0).toList==[95,105,100]) a) (e19 J m [1,0,1] [])))) (by simp only[au,adf m];rfl)
def adg:List Nat:=[1,0,1,0,1,1,1,0,1]
def apb:List Nat:=adg++[1]
noncomputable def e18(J:Q36)(m:Nat):=evAt Tryz.prog env (ct m) J (m+1) 102 43 Tryz.f102 d18
noncomputable def adh(a:Dt)(b c d e f:List Dt):St:=⟨tsOf [(0,.ptr 0 [] 0)],[.box 114 (.agg 114 [.dat 51 a,.row 6,.row 7,.row 4,.row 9]),.gone,.gone,.gone,(.map 111 b),.gone,.row 112 c,(.rowD 110 75 (some 1000001) 8 d none),(.tok 75 e),.row 54 f],6⟩
noncomputable def TN(a:Dt)(b c d e f:List Dt)(g:Dt):St:=⟨tsOf [(0,.ptr 0 [] 0),(3,.ptr 10 [] 0)],[.box 114 (.agg 114 [.dat 51 a,.row 6,.row 7,.row 4,.row 9]),.gone,.gone,.gone,(.map 111 b),.gone,.row 112 c,(.rowD 110 75 (some 1000001) 8 d none),(.tok 75 e),.row 54 f,.box 26 (.dat 26 g)],6⟩
theorem F3 m a b c d e f:e18 jn m [1,1] [] (adh a b c d e f)=P7 m a b c d e f:=
 tq (g:=fun J=>some (0,a,b,c,d,e,f)) (by rfl)
theorem Xm m d e f h i j c:e18 jn m apb [] (TN d e f h i j c)=P8 m d e f h i j c:=
 tq (g:=fun J=>(i20 m c aX d f h i e j).bind fun a=>(qB m c).bind fun k=>(i12 m k a.1 a.2.2.1 a.2.2.2.1 a.2.2.2.2.1 a.2.1 a.2.2.2.2.2).bind fun b=>jj J 0 13 0 (adh b.1 b.2.1 b.2.2.1 b.2.2.2.1 b.2.2.2.2.1 b.2.2.2.2.2) (e18 J m [1,1] [])) (by simp only[au,F3 m];rfl)
theorem Xn m b a c d e f h:e18 jn m adg [] (TN b a c d e f h)=P9 m b a c d e f h:=
 tq (g:=fun J=>(zQ m h).bind fun i=>(zA m [i]).bind fun j=>cond (mhas a j) (some (16,b,a,c,d,e,f)) (jj J 0 11 0 (TN b a c d e f h) (e18 J m apb []))) (by simp only[au,Xm m];rfl)
theorem atb m h a b c d e f:e18 jn m [] [] ⟨[.ptr 0 [] 0,.dat 26 h],[.box 114 (.agg 114 [.dat 51 a,.row 1,.row 2,.row 4,.row 5]),.row 112 b,(.rowD 110 75 (some 1000001) 3 c none),(.tok 75 d),(.map 111 e),.row 54 f],6⟩=i18 (m+1) h a b c d e f:=
 tq (g:=fun J=>cond (I a 3==4) (some (15,a,e,b,c,d,f)) (cond (I a 3==5) ((qS m h).bind fun i=>cond (i !=0) (some (i,a,e,b,c,d,f)) (jj J 0 8 0 (TN a e b c d f h) (e18 J m adg []))) (jj J 0 13 0 (adh a e b c d f) (e18 J m [1,1] [])))) (by simp only[au,Xn m,F3 m];rfl)
def TP:List Nat:=[1,1,1,1,1]
def La:List Nat:=[1,1,1,1,1,1]
def adi:List Nat:=[1,1,1,0,1,0,1,0,1,1]
def Lb:List Nat:=adi++[0]
def adj:List Nat:=[1,1,1,0,1,0,1,1,1,0,1,1]
def Lc:List Nat:=adj++[0]
def adk:List Nat:=Lb++[0,1,1]
def adl:List Nat:=adk++[1]
def adn:List Nat:=Lc++[0,1,1]
def ado:List Nat:=adn++[1]
noncomputable def e21(J:Q36)(m:Nat):=evAt Tryz.prog env (ct m) J (m+1) 103 97 Tryz.f103 d18
noncomputable def l21(J:Q36)(m:Nat):=loopAt Tryz.prog env (ct m) J (m+1) 103 97 Tryz.f103 d18
noncomputable def lZ(g:Int)(h:List Dt)(i j:Int)(k:Dt)(l m n o p:List Dt)(a:Dt)(b c:Int)(d:ByteArray)(e f:List Dt):St:=⟨tsOf [(0,.ptr 0 [] 0),(1,.dat 3 (.int g)),(7,.ptr 10 [] 0),(8,.ptr 11 [] 0),(36,.dat 24 (.lst h)),(37,.dat 3 (.int i)),(38,.dat 3 (.int j))],[.box 114 (.agg 114 [.dat 51 k,.row 6,.row 7,.row 4,.row 9]),.gone,.gone,.gone,(.map 111 l),.gone,.row 112 m,(.rowD 110 75 (some 1000001) 8 n none),(.tok 75 o),.row 54 p,.box 26 (.dat 26 a),.box 26 (.agg 26 [.dat 3 (.int b),.dat 3 (.int c),.dat 9 (.str d),.row 12,.row 13]),.row 23 e,.row 24 f],6⟩
noncomputable def Ld(a:Dt)(b c d e f:List Dt):St:=⟨tsOf [(0,.ptr 0 [] 0)],[.box 114 (.agg 114 [.dat 51 a,.row 6,.row 7,.row 4,.row 9]),.gone,.gone,.gone,(.map 111 b),.gone,.row 112 c,(.rowD 110 75 (some 1000001) 8 d none),(.tok 75 e),.row 54 f],6⟩
noncomputable def TW(d:Int)(e:Dt)(f g h i j:List Dt)(k:Dt)(l m:Int)(a:ByteArray)(b c:List Dt):St:=⟨tsOf [(0,.ptr 0 [] 0),(1,.dat 3 (.int d)),(7,.ptr 10 [] 0),(8,.ptr 11 [] 0)],[.box 114 (.agg 114 [.dat 51 e,.row 6,.row 7,.row 4,.row 9]),.gone,.gone,.gone,(.map 111 f),.gone,.row 112 g,(.rowD 110 75 (some 1000001) 8 h none),(.tok 75 i),.row 54 j,.box 26 (.dat 26 k),.box 26 (.agg 26 [.dat 3 (.int l),.dat 3 (.int m),.dat 9 (.str a),.row 12,.row 13]),.row 23 b,.row 24 c],6⟩
noncomputable def iM(c:Int)(d:List Dt)(e f:Int)(g:Dt)(h i j k l:List Dt)(a b:Dt):St:=⟨tsOf [(0,.ptr 0 [] 0),(1,.dat 3 (.int c)),(7,.ptr 10 [] 0),(8,.ptr 11 [] 0),(62,.dat 24 (.lst d)),(63,.dat 3 (.int e)),(64,.dat 3 (.int f))],[.box 114 (.agg 114 [.dat 51 g,.row 6,.row 7,.row 4,.row 9]),.gone,.gone,.gone,(.map 111 h),.gone,.row 112 i,(.rowD 110 75 (some 1000001) 8 j none),(.tok 75 k),.row 54 l,.box 26 (.dat 26 a),.box 26 (.dat 26 b)],6⟩
noncomputable def IE(a:Int)(b:Dt)(c d e f g:List Dt)(h i:Dt):St:=⟨tsOf [(0,.ptr 0 [] 0),(1,.dat 3 (.int a)),(7,.ptr 10 [] 0),(8,.ptr 11 [] 0)],[.box 114 (.agg 114 [.dat 51 b,.row 6,.row 7,.row 4,.row 9]),.gone,.gone,.gone,(.map 111 c),.gone,.row 112 d,(.rowD 110 75 (some 1000001) 8 e none),(.tok 75 f),.row 54 g,.box 26 (.dat 26 h),.box 26 (.dat 26 i)],6⟩
abbrev apc(m s:Nat)(a:Q68):Prop:=∀h i j k l n o p q r b c d e f g,l21 jn m Lb [] s (lZ h i j k l n o p q r b c d e f g)=a h i j k l n o p q r b c d e f g
theorem Xo m i a(u:apc m i a) j k l n o p q r s t b c d e f h:e21 jn m adl [i] (lZ j k l n o p q r s t b c d e f h)=Ak m a j k l n o p q r s t b c d e f h:=
 tq (g:=fun J=>jj J 1 8 i (lZ j k l (wrap .i64 (n+1)) o p q r s t b c d e f h) (l21 J m Lb [] i)) (by simp only[au,u];rfl)
theorem Xp m i a(v:apc m i a) l j n k o p q r s t b c d e f h:e21 jn m adk [i] (lZ l j n k o p q r s t b c d e f h)=Qa m a l j n k o p q r s t b c d e f h:=
 tq (g:=fun J=>(idx j k).bind fun u=>bif !(S u 0).toList==[95,105,100]then(qB m (fld u 1)).bind fun w=>(app h [agg [str (S u 0),w]]).bind fun x=>jj J 0 12 0 (lZ l j n k o p q r s t b c d e f x) (e21 J m adl [i])else jj J 0 12 0 (lZ l j n k o p q r s t b c d e f h) (e21 J m adl [i])) (by simp only[au,Xo m i a v];rfl)
theorem F4 m a b c d e f:e21 jn m La [] (Ld a b c d e f)=Al m a b c d e f:=
 tq (g:=fun J=>some (0,a,b,c,d,e,f)) (by rfl)
theorem Xq m q i j k l n o p f h b c d:e21 jn m TP [] (TW q i j k l n o p f h b c d)=abj m q i j k l n o p f h b c d:=
 tq (g:=fun J=>(yL m (agg [int f,int h,str b,lst c,lst d]) p).bind fun r=>cond (!r) ((i20 m (agg [int f,int h,str b,lst c,lst d]) p i k l n j o).bind fun e=>(i23 m q (agg [int f,int h,str b,lst c,lst d]) e.1 e.2.2.1 e.2.2.2.1 e.2.2.2.2.1 e.2.1 e.2.2.2.2.2).bind fun a=>jj J 0 29 0 (Ld a.1 a.2.1 a.2.2.1 a.2.2.2.1 a.2.2.2.2.1 a.2.2.2.2.2) (e21 J m La [])) (jj J 0 29 0 (Ld i j k l n o) (e21 J m La []))) (by simp only[au,F4 m];rfl)
theorem Xr m n d e f h i j o k l a b c:e21 jn m [1,1,1,1] [] (TW n d e f h i j o k l a b c)=abk m n d e f h i j o k l a b c:=
 tq (g:=fun J=>(qS m (agg [int k,int l,str a,lst b,lst c])).bind fun p=>cond (p !=0) (some (p,d,e,f,h,i,j)) (jj J 0 26 0 (TW n d e f h i j o k l a b c) (e21 J m TP []))) (by simp only[au,Xq m];rfl)
theorem F5 m:∀h i s j k l n o p q r a b c d e f,l21 jn m Lb [] h (lZ i s j k l n o p q r a b c d e f)=uL m h i s j k l n o p q r a b c d e f
 |0,_,_,_,_,_,_,_,_,_,_,_,_,_,_,_,_=>rfl
 |h+1,i,s,j,k,l,n,o,p,q,r,a,b,c,d,e,f=>
  tl (g:=fun J=>cond (k<j) (jj J 0 9 0 (lZ i s j k l n o p q r a b c d e f) (e21 J m adk [h])) (jj J 0 23 0 (TW i l n o p q r a b c d e f) (e21 J m [1,1,1,1] []))) (by simp only[au,Xp m h (uL m h) (F5 m h),Xr m];rfl)
theorem Xt m h i j k l n o p q r a b c d e f:e21 jn m adi [] (lZ h i j k l n o p q r a b c d e f)=abl m h i j k l n o p q r a b c d e f:=
 tq (g:=fun J=>jj J 1 8 (succ m) (lZ h i j k l n o p q r a b c d e f) (l21 J m Lb [] (succ m))) (by simp only[au,F5 m];rfl)
abbrev apd(m o:Nat)(a:Q69):Prop:=∀d e f g h i j k l n b c,l21 jn m Lc [] o (iM d e f g h i j k l n b c)=a d e f g h i j k l n b c
theorem QA m d a(q:apd m d a) e f h i j k l n o p b c:e21 jn m ado [d] (iM e f h i j k l n o p b c)=rT m a e f h i j k l n o p b c:=
 tq (g:=fun J=>jj J 1 16 d (iM e f h (wrap .i64 (i+1)) j k l n o p b c) (l21 J m Lc [] d)) (by simp only[au,q];rfl)
theorem Xu m e a(s:apd m e a) i f j h k l n o p q b c:e21 jn m adn [e] (iM i f j h k l n o p q b c)=Qb m a i f j h k l n o p q b c:=
 tq (g:=fun J=>(idx f h).bind fun d=>bif !(S d 0).toList==[95,105,100]then(zV m c (S d 0) (fld d 1)).bind fun r=>jj J 0 20 0 (iM i f j h k l n o p q b r) (e21 J m ado [e])else jj J 0 20 0 (iM i f j h k l n o p q b c) (e21 J m ado [e])) (by simp only[au,QA m e a s];rfl)
theorem QB m l d e f h i j k c:e21 jn m TP [] (IE l d e f h i j k c)=H8 m l d e f h i j k c:=
 tq (g:=fun J=>(yL m c k).bind fun n=>cond (!n) ((i20 m c k d f h i e j).bind fun a=>(i23 m l c a.1 a.2.2.1 a.2.2.2.1 a.2.2.2.2.1 a.2.1 a.2.2.2.2.2).bind fun b=>jj J 0 29 0 (Ld b.1 b.2.1 b.2.2.1 b.2.2.2.1 b.2.2.2.2.1 b.2.2.2.2.2) (e21 J m La [])) (jj J 0 29 0 (Ld d e f h i j) (e21 J m La []))) (by simp only[au,F4 m];rfl)
theorem QC m j b c d e f h k i:e21 jn m [1,1,1,1] [] (IE j b c d e f h k i)=kG m j b c d e f h k i:=
 tq (g:=fun J=>(qS m i).bind fun a=>cond (a !=0) (some (a,b,c,d,e,f,h)) (jj J 0 26 0 (IE j b c d e f h k i) (e21 J m TP []))) (by simp only[au,QB m];rfl)
theorem F6 m:∀c d o e f h i j k l n a b,l21 jn m Lc [] c (iM d o e f h i j k l n a b)=uM m c d o e f h i j k l n a b
 |0,_,_,_,_,_,_,_,_,_,_,_,_=>rfl
 |c+1,d,o,e,f,h,i,j,k,l,n,a,b=>
  tl (g:=fun J=>cond (f<e) (jj J 0 17 0 (iM d o e f h i j k l n a b) (e21 J m adn [c])) (jj J 0 23 0 (IE d h i j k l n a b) (e21 J m [1,1,1,1] []))) (by simp only[au,Xu m c (uM m c) (F6 m c),QC m];rfl)
theorem Xv m c d e f h i j k l n a b:e21 jn m adj [] (iM c d e f h i j k l n a b)=abm m c d e f h i j k l n a b:=
 tq (g:=fun J=>jj J 1 16 (succ m) (iM c d e f h i j k l n a b) (l21 J m Lc [] (succ m))) (by simp only[au,F6 m];rfl)
theorem atc m c d a b e f h i:e21 jn m [] [] ⟨[.ptr 0 [] 0,.dat 3 (.int c),.dat 26 d],[.box 114 (.agg 114 [.dat 51 a,.row 1,.row 2,.row 4,.row 5]),.row 112 b,(.rowD 110 75 (some 1000001) 3 e none),(.tok 75 f),(.map 111 h),.row 54 i],6⟩=i21 (m+1) c d a b e f h i:=
 tq (g:=fun J=>(inL b c).bind fun o=>(b[c.toNat]?).bind fun j=>cond (I a 2==1) ((zQ m (fld j 0)).bind fun l=>(qB m l).bind fun n=>jj J 0 8 0 (lZ c (L d 4) ((L d 4).length:Int) 0 a h b e f i (fld j 0) 5 0 (ByteArray.mk (List.toArray [])) [] [agg [str (ByteArray.mk (List.toArray [95,105,100])),n]]) (e21 J m adi [])) (cond (I a 2==2) ((qB m (fld j 0)).bind fun k=>jj J 0 16 0 (iM c (L d 4) ((L d 4).length:Int) 0 a h b e f i (fld j 0) k) (e21 J m adj [])) (cond (I a 2==4) (some (16,a,h,b,e,f,i)) (some (0,a,h,b,e,f,i))))) (by simp only[au,Xt m,Xv m];rfl)
noncomputable def e17(J:Q36)(m:Nat):=evAt Tryz.prog env (ct m) J (m+1) 69 29 Tryz.f69 d18
noncomputable def ape(a:Dt)(b c d e f:List Dt):St:=⟨tsOf [(0,.ptr 0 [] 0)],[.box 114 (.agg 114 [.dat 51 a,.row 6,.row 7,.row 4,.row 9]),.gone,.gone,.gone,(.map 111 b),.gone,.row 112 c,(.rowD 110 75 (some 1000001) 8 d none),(.tok 75 e),.row 54 f],6⟩
theorem Xw m a b c d e f:e17 jn m [1,1,1] [] (ape a b c d e f)=abn m a b c d e f:=
 tq (g:=fun J=>some (14,a,b,c,d,e,f)) (by rfl)
theorem atd m l b c a d n e:e17 jn m [] [] ⟨[.ptr 0 [] 0,.dat 26 l],[.box 114 (.agg 114 [.dat 51 b,.row 1,.row 2,.row 4,.row 5]),.row 112 c,(.rowD 110 75 (some 1000001) 3 a none),(.tok 75 d),(.map 111 n),.row 54 e],6⟩=i17 (m+1) l b c a d n e:=
 tq (g:=fun J=>(i13 m (agg [b,lst c,lst [],lst [],lst e]) l).bind fun o=>bif mhas a o then(mix a o).bind fun f=>(d[f]?).bind fun h=>bif ((toLst h).length:Int)==0 then(i18 m l b c a (List.set (List.set d f (lst [])) f (lst (toLst h))) n e).bind fun i=>some (i.1,i.2.1,i.2.2.1,i.2.2.2.1,i.2.2.2.2.1,i.2.2.2.2.2.1,i.2.2.2.2.2.2)else bif ((toLst h).length:Int)==1 then(inL (toLst h) 0).bind fun q=>((toLst h)[0]?).bind fun p=>(i21 m (toInt p) l b c a (List.set (List.set d f (lst [])) f (lst (toLst h))) n e).bind fun j=>some (j.1,j.2.1,j.2.2.1,j.2.2.2.1,j.2.2.2.2.1,j.2.2.2.2.2.1,j.2.2.2.2.2.2)else jj J 0 7 0 (ape b n c a (List.set (List.set d f (lst [])) f (lst (toLst h))) e) (e17 J m [1,1,1] [])else(i18 m l b c a d n e).bind fun k=>some (k.1,k.2.1,k.2.2.1,k.2.2.2.1,k.2.2.2.2.1,k.2.2.2.2.2.1,k.2.2.2.2.2.2)) (by simp only[au,Xw m];rfl)
def amQ:List Nat:=[1,1,0,1,0]
def au8:List Nat:=[1,1,1,0,1]
def adp:List Nat:=[1,1,1,0,1,0]
def ate:List Nat:=[1,1,0,1,0,0,1,1]
def au9:List Nat:=ate++[1]
def atf:List Nat:=adp++[0,1,1]
def ava:List Nat:=atf++[1]
noncomputable def e3(J:Q52)(m:Nat):=evAt Tryz.prog env (ct m) J (m+1) 27 47 Tryz.f27 d3
noncomputable def l3(J:Q52)(m:Nat):=loopAt Tryz.prog env (ct m) J (m+1) 27 47 Tryz.f27 d3
noncomputable def DR(a b:List Dt)(c d:Int)(e:Dt)(f g h i j:List Dt):St:=⟨tsOf [(2,.dat 23 (.lst a)),(8,.ptr 0 [] 0),(19,.dat 23 (.lst b)),(20,.dat 3 (.int c)),(21,.dat 3 (.int d))],[.box 114 (.agg 114 [.dat 51 e,.row 1,.row 2,.row 4,.row 5]),.row 112 f,(.rowD 110 75 (some 1000001) 3 g none),(.tok 75 h),(.map 111 i),.row 54 j],0⟩
noncomputable def DT(a:List Dt)(b c:Int)(d:Dt)(e f g h i:List Dt):St:=⟨tsOf [(8,.ptr 0 [] 0),(30,.dat 23 (.lst a)),(31,.dat 3 (.int b)),(32,.dat 3 (.int c))],[.box 114 (.agg 114 [.dat 51 d,.row 1,.row 2,.row 4,.row 5]),.row 112 e,(.rowD 110 75 (some 1000001) 3 f none),(.tok 75 g),(.map 111 h),.row 54 i],0⟩
noncomputable def avb(a:Dt)(b c d e f:List Dt):St:=⟨tsOf [(8,.ptr 0 [] 0)],[.box 114 (.agg 114 [.dat 51 a,.row 1,.row 2,.row 4,.row 5]),.row 112 b,(.rowD 110 75 (some 1000001) 3 c none),(.tok 75 d),(.map 111 e),.row 54 f],0⟩
noncomputable def avc(a:List Dt)(b:Dt)(c d e f g:List Dt):St:=⟨tsOf [(2,.dat 23 (.lst a)),(8,.ptr 0 [] 0)],[.box 114 (.agg 114 [.dat 51 b,.row 1,.row 2,.row 4,.row 5]),.row 112 c,(.rowD 110 75 (some 1000001) 3 d none),(.tok 75 e),(.map 111 f),.row 54 g],0⟩
abbrev avd(m l:Nat)(a:Q70):Prop:=∀b c d e f g h i j k,l3 jn m amQ [] l (DR b c d e f g h i j k)=a b c d e f g h i j k
theorem adq m b a(o:avd m b a) c d e f h i j k l n:e3 jn m au9 [b] (DR c d e f h i j k l n)=abo m a c d e f h i j k l n:=
 tq (g:=fun J=>jj J 1 3 b (DR c d e (wrap .i64 (f+1)) h i j k l n) (l3 J m amQ [] b)) (by simp only[au,o];rfl)
theorem adr m c a(p:avd m c a) f d h e i j k l n o:e3 jn m ate [c] (DR f d h e i j k l n o)=abp m a f d h e i j k l n o:=
 tq (g:=fun J=>(idx d e).bind fun q=>(qB m q).bind fun r=>(i12 m r i j k l n o).bind fun b=>jj J 0 6 0 (DR f d h e b.1 b.2.2.1 b.2.2.2.1 b.2.2.2.2.1 b.2.1 b.2.2.2.2.2) (e3 J m au9 [c])) (by simp only[au,adq m c a p];rfl)
abbrev ave(m k:Nat)(a:Q71):Prop:=∀b c d e f g h i j,l3 jn m adp [] k (DT b c d e f g h i j)=a b c d e f g h i j
theorem ads m b a(n:ave m b a) c d e f h i j k l:e3 jn m ava [b] (DT c d e f h i j k l)=abq m a c d e f h i j k l:=
 tq (g:=fun J=>jj J 1 8 b (DT c d (wrap .i64 (e+1)) f h i j k l) (l3 J m adp [] b)) (by simp only[au,n];rfl)
theorem adt m c a(o:ave m c a) d f e h i j k l n:e3 jn m atf [c] (DT d f e h i j k l n)=abr m a d f e h i j k l n:=
 tq (g:=fun J=>(idx d e).bind fun p=>(i17 m p h i j k l n).bind fun b=>cond (b.1 !=0) (some ([],b.1)) (jj J 0 13 0 (DT d f e b.2.1 b.2.2.2.1 b.2.2.2.2.1 b.2.2.2.2.2.1 b.2.2.1 b.2.2.2.2.2.2) (e3 J m ava [c]))) (by simp only[au,ads m c a o];rfl)
theorem adu m b c d e f a:e3 jn m [1,1,1,1] [] (avb b c d e f a)=aoE m b c d e f a:=
 tq (g:=fun J=>some (a,0)) (by rfl)
theorem Le m:∀a k b c d e f h i j,l3 jn m adp [] a (DT k b c d e f h i j)=EL m a k b c d e f h i j
 |0,_,_,_,_,_,_,_,_,_=>rfl
 |a+1,k,b,c,d,e,f,h,i,j=>
  tl (g:=fun J=>cond (c<b) (jj J 0 9 0 (DT k b c d e f h i j) (e3 J m atf [a])) (jj J 0 14 0 (avb d e f h i j) (e3 J m [1,1,1,1] []))) (by simp only[au,adt m a (EL m a) (Le m a),adu m];rfl)
theorem adv m a b c d e f h i j:e3 jn m au8 [] (DT a b c d e f h i j)=aoF m a b c d e f h i j:=
 tq (g:=fun J=>jj J 1 8 (succ m) (DT a b c d e f h i j) (l3 J m adp [] (succ m))) (by simp only[au,Le m];rfl)
theorem adw m a b c d e f h:e3 jn m [1,1,1] [] (avc a b c d e f h)=abt m a b c d e f h:=
 tq (g:=fun J=>jj J 0 8 0 (DT a (a.length:Int) 0 b c d e f h) (e3 J m au8 [])) (by simp only[au,adv m];rfl)
theorem Lf m:∀a b l c d e f h i j k,l3 jn m amQ [] a (DR b l c d e f h i j k)=EM m a b l c d e f h i j k
 |0,_,_,_,_,_,_,_,_,_,_=>rfl
 |a+1,b,l,c,d,e,f,h,i,j,k=>
  tl (g:=fun J=>cond (d<c) (jj J 0 4 0 (DR b l c d e f h i j k) (e3 J m ate [a])) (jj J 0 7 0 (avc b e f h i j k) (e3 J m [1,1,1] []))) (by simp only[au,adr m a (EM m a) (Lf m a),adw m];rfl)
theorem adx m a b c d e f h i j k:e3 jn m [1,1,0,1] [] (DR a b c d e f h i j k)=aoG m a b c d e f h i j k:=
 tq (g:=fun J=>jj J 1 3 (succ m) (DR a b c d e f h i j k) (l3 J m amQ [] (succ m))) (by simp only[au,Lf m];rfl)
theorem avf m b a c:e3 jn m [] [] ⟨[.dat 51 b,.dat 23 (.lst a),.dat 23 (.lst c)],[],0⟩=qQ (m+1) b a c:=
 tq (g:=fun J=>jj J 0 3 0 (DR c a (a.length:Int) 0 b [] [] [] [] []) (e3 J m [1,1,0,1] [])) (by simp only[au,adx m];rfl)
def ady:List Nat:=[1,1,1,1,1]
def adz:List Nat:=[1,1,1,1,0,1]
def Lg:List Nat:=adz++[0]
def adA:List Nat:=Lg++[0,1]
def apf:List Nat:=adA++[1]
noncomputable def e94(J:Q26)(m:Nat):=evAt Tryz.prog env (ct m) J (m+1) 191 37 Tryz.f191 d15
noncomputable def l94(J:Q26)(m:Nat):=loopAt Tryz.prog env (ct m) J (m+1) 191 37 Tryz.f191 d15
noncomputable def nQ(a:Int)(b:ByteArray)(c:Int):St:=⟨tsOf [(3,.dat 215 (.int a)),(4,.dat 9 (.str b)),(5,.dat 3 (.int c))],[],0⟩
noncomputable def adB(a:Int)(b:ByteArray):St:=⟨tsOf [(3,.dat 215 (.int a)),(4,.dat 9 (.str b))],[],0⟩
noncomputable def adC(a:Int):St:=⟨tsOf [(3,.dat 215 (.int a))],[],0⟩
abbrev apg(m e:Nat)(a:Q72):Prop:=∀b c d,l94 jn m Lg [] e (nQ b c d)=a b c d
theorem adD m b a(f:apg m b a) c d e:e94 jn m apf [b] (nQ c d e)=J6 m a c d e:=
 tq (g:=fun J=>jj J 1 6 b (nQ c d (wrap .i64 (e+1))) (l94 J m Lg [] b)) (by simp only[au,f];rfl)
theorem adE m c a(f:apg m c a) b d e:e94 jn m adA [c] (nQ b d e)=J7 m a b d e:=
 tq (g:=fun J=>cond (Nat.ble (d.size+(strOfNums [orI IntKind.u8 (wrap IntKind.u8 (Int.tmod b 128)) 128]).size) 1152921504606846976) (jj J 0 7 0 (nQ (wrap IntKind.u64 (Int.tdiv b 128)) (d++strOfNums [orI IntKind.u8 (wrap IntKind.u8 (Int.tmod b 128)) 128]) e) (e94 J m apf [c])) none) (by simp only[au,adD m c a f];rfl)
theorem adF m a b:e94 jn m ady [] (adB a b)=EN m a b:=
 tq (g:=fun J=>cond (Nat.ble (b.size+(strOfNums [wrap IntKind.u8 a]).size) 1152921504606846976) (some (b++strOfNums [wrap IntKind.u8 a])) none) (by rfl)
theorem Lh m:∀a b c d,l94 jn m Lg [] a (nQ b c d)=wD m a b c d
 |0,_,_,_=>rfl
 |a+1,b,c,d=>
  tl (g:=fun J=>cond (d<10) (cond (128<=b) (jj J 0 8 0 (nQ b c d) (e94 J m adA [a])) (jj J 0 10 0 (adB b c) (e94 J m ady []))) (jj J 0 10 0 (adB b c) (e94 J m ady []))) (by simp only[au,adE m a (wD m a) (Lh m a),adF m];rfl)
theorem adG m a b c:e94 jn m adz [] (nQ a b c)=J8 m a b c:=
 tq (g:=fun J=>jj J 1 6 (succ m) (nQ a b c) (l94 J m Lg [] (succ m))) (by simp only[au,Lh m];rfl)
theorem adH m a:e94 jn m [1,1,1] [] (adC a)=EO m a:=
 tq (g:=fun J=>jj J 0 6 0 (nQ a (ByteArray.mk (List.toArray [])) 0) (e94 J m adz [])) (by simp only[au,adG m];rfl)
theorem avg m a:e94 jn m [] [] ⟨[.dat 3 (.int a)],[],0⟩=zF (m+1) a:=
 tq (g:=fun J=>cond (a<0) (jj J 0 4 0 (adC (complI IntKind.u64 (shlI IntKind.u64 (wrap IntKind.u64 a) 1))) (e94 J m [1,1,1] [])) (jj J 0 4 0 (adC (shlI IntKind.u64 (wrap IntKind.u64 a) 1)) (e94 J m [1,1,1] []))) (by simp only[au,adH m];rfl)
def TY:List Nat:=[1,1,0,1,0,1]
def Li:List Nat:=TY++[1,1,1,1]
def adI:List Nat:=Li++[1,1,1,1,0,1,1]
def Lj:List Nat:=adI++[0]
def adJ:List Nat:=Li++[1,1,1,1,1,1,0,1,1]
def adK:List Nat:=Lj++[0,1]
def Ll:List Nat:=adJ++[0]
def aph:List Nat:=adK++[1]
def adL:List Nat:=Ll++[0,1]
def apj:List Nat:=adL++[1]
noncomputable def e84(J:Q26)(m:Nat):=evAt Tryz.prog env (ct m) J (m+1) 136 112 Tryz.f136 d15
noncomputable def l84(J:Q26)(m:Nat):=loopAt Tryz.prog env (ct m) J (m+1) 136 112 Tryz.f136 d15
noncomputable def wS(a:ByteArray):St:=⟨tsOf [(3,.dat 9 (.str a))],[],0⟩
noncomputable def nR(a:ByteArray)(b:Int)(c:Dt):St:=⟨tsOf [(1,.ptr 0 [] 0),(3,.dat 9 (.str a)),(4,.dat 3 (.int b))],[.box 26 (.dat 26 c)],0⟩
noncomputable def jK(a:ByteArray)(b:Int)(c:Dt):St:=⟨tsOf [(1,.ptr 0 [] 0),(3,.dat 9 (.str a)),(5,.dat 3 (.int b))],[.box 26 (.dat 26 c)],0⟩
noncomputable def adM(a:ByteArray)(b:Int)(c:Bool)(d:Dt):St:=⟨tsOf [(1,.ptr 0 [] 0),(3,.dat 9 (.str a)),(12,.dat 3 (.int b)),(30,.dat 4 (.bool c))],[.box 26 (.dat 26 d)],0⟩
noncomputable def adN(a:ByteArray)(b:Int)(c:Bool)(d:Dt):St:=⟨tsOf [(1,.ptr 0 [] 0),(3,.dat 9 (.str a)),(12,.dat 3 (.int b)),(13,.dat 4 (.bool c))],[.box 26 (.dat 26 d)],0⟩
theorem sH m a:e84 jn m [1,1,1] [] (wS a)=jU m (qI m) a:=
 tq (g:=fun J=>some a) (by rfl)
abbrev apk(m e:Nat)(a:Q32):Prop:=∀b c d,l84 jn m Lj [] e (nR b c d)=a b c d
theorem adO m b a(f:apk m b a) c d e:e84 jn m aph [b] (nR c d e)=Ao m (qI m) a c d e:=
 tq (g:=fun J=>jj J 1 16 b (nR c (wrap .i64 (d+1)) e) (l84 J m Lj [] b)) (by simp only[au,f];rfl)
theorem adP m b a(h:apk m b a) c d e:e84 jn m adK [b] (nR c d e)=Ap m (qI m) a c d e:=
 tq (g:=fun J=>(idx (L e 3) d).bind fun i=>(qI m i).bind fun f=>cond (Nat.ble (c.size+f.size) 1152921504606846976) (jj J 0 17 0 (nR (c++f) d e) (e84 J m aph [b])) none) (by simp only[au,adO m b a h];rfl)
theorem Lm m:∀a b c d,l84 jn m Lj [] a (nR b c d)=EP m (qI m) a b c d
 |0,_,_,_=>rfl
 |a+1,b,c,d=>
  tl (g:=fun J=>cond (c<((L d 3).length:Int)) (jj J 0 18 0 (nR b c d) (e84 J m adK [a])) (jj J 0 25 0 (wS b) (e84 J m [1,1,1] []))) (by simp only[au,adP m a (EP m (qI m) a) (Lm m a),sH m];rfl)
theorem adQ m a b c:e84 jn m adI [] (nR a b c)=Aq m (qI m) a b c:=
 tq (g:=fun J=>jj J 1 16 (succ m) (nR a b c) (l84 J m Lj [] (succ m))) (by simp only[au,Lm m];rfl)
abbrev apl(m e:Nat)(a:Q32):Prop:=∀b c d,l84 jn m Ll [] e (jK b c d)=a b c d
theorem Xx m b a(f:apl m b a) c d e:e84 jn m apj [b] (jK c d e)=p9 m (qI m) a c d e:=
 tq (g:=fun J=>jj J 1 22 b (jK c (wrap .i64 (d+1)) e) (l84 J m Ll [] b)) (by simp only[au,f];rfl)
theorem adR m f a(j:apl m f a) b c d:e84 jn m adL [f] (jK b c d)=Ar m (qI m) a b c d:=
 tq (g:=fun J=>(idx (L d 4) c).bind fun k=>(zF m ((S k 0).size:Int)).bind fun h=>cond (Nat.ble (b.size+h.size) 1152921504606846976) ((idx (L d 4) c).bind fun i=>cond (Nat.ble ((b++h).size+(S i 0).size) 1152921504606846976) ((idx (L d 4) c).bind fun l=>(qI m (fld l 1)).bind fun e=>cond (Nat.ble ((b++h++S i 0).size+e.size) 1152921504606846976) (jj J 0 23 0 (jK (b++h++S i 0++e) c d) (e84 J m apj [f])) none) none) none) (by simp only[au,Xx m f a j];rfl)
theorem Lp m:∀a b c d,l84 jn m Ll [] a (jK b c d)=ER m (qI m) a b c d
 |0,_,_,_=>rfl
 |a+1,b,c,d=>
  tl (g:=fun J=>cond (c<((L d 4).length:Int)) (jj J 0 24 0 (jK b c d) (e84 J m adL [a])) (jj J 0 25 0 (wS b) (e84 J m [1,1,1] []))) (by simp only[au,adR m a (ER m (qI m) a) (Lp m a),sH m];rfl)
theorem adS m a b c:e84 jn m adJ [] (jK a b c)=Au m (qI m) a b c:=
 tq (g:=fun J=>jj J 1 22 (succ m) (jK a b c) (l84 J m Ll [] (succ m))) (by simp only[au,Lp m];rfl)
theorem adT m a c d b:e84 jn m Li [] (adM a c d b)=wE m (qI m) a c d b:=
 tq (g:=fun J=>cond d ((zF m ((S b 2).size:Int)).bind fun e=>cond (Nat.ble (a.size+e.size) 1152921504606846976) (cond (Nat.ble ((a++e).size+(S b 2).size) 1152921504606846976) (jj J 0 25 0 (wS (a++e++S b 2)) (e84 J m [1,1,1] [])) none) none) (cond (c==8) (cond (Nat.ble (a.size+(S b 2).size) 1152921504606846976) (jj J 0 25 0 (wS (a++S b 2)) (e84 J m [1,1,1] [])) none) (cond (c==6) ((zF m ((L b 3).length:Int)).bind fun f=>cond (Nat.ble (a.size+f.size) 1152921504606846976) (jj J 0 16 0 (nR (a++f) 0 b) (e84 J m adI [])) none) (cond (c==5) ((zF m ((L b 4).length:Int)).bind fun h=>cond (Nat.ble (a.size+h.size) 1152921504606846976) (jj J 0 22 0 (jK (a++h) 0 b) (e84 J m adJ [])) none) (jj J 0 25 0 (wS a) (e84 J m [1,1,1] [])))))) (by simp only[au,sH m,adQ m,adS m];rfl)
theorem adU m a b d c:e84 jn m TY [] (adN a b d c)=wF m (qI m) a b d c:=
 tq (g:=fun J=>cond d ((zF m (I c 1)).bind fun e=>cond (Nat.ble (a.size+e.size) 1152921504606846976) (jj J 0 25 0 (wS (a++e)) (e84 J m [1,1,1] [])) none) (cond (b==9) (cond (Nat.ble (a.size+(strOfNums [wrap IntKind.u8 (I c 1)]).size) 1152921504606846976) (jj J 0 25 0 (wS (a++strOfNums [wrap IntKind.u8 (I c 1)])) (e84 J m [1,1,1] [])) none) (cond (b==4) (jj J 0 10 0 (adM a b (b==4) c) (e84 J m Li [])) (jj J 0 10 0 (adM a b (b==7) c) (e84 J m Li []))))) (by simp only[au,sH m,adT m];rfl)
theorem avh m a:e84 jn m [] [] ⟨[.dat 26 a],[],0⟩=qI (m+1) a:=
 tq (g:=fun J=>cond (I a 0==3) (jj J 0 5 0 (adN (strOfNums [wrap IntKind.u8 (I a 0)]) (I a 0) (I a 0==3) a) (e84 J m TY [])) (jj J 0 5 0 (adN (strOfNums [wrap IntKind.u8 (I a 0)]) (I a 0) (I a 0==10) a) (e84 J m TY []))) (by simp only[au,adU m];rfl)
def adV:List Nat:=[1,1,0,1,0,1]
def Lr:List Nat:=adV++[0]
def adW:List Nat:=[1,1,1,0,1,0,1]
def Ls:List Nat:=adW++[0]
def adX:List Nat:=Lr++[0,1]
def apm:List Nat:=adX++[1]
def adY:List Nat:=Ls++[0,1]
def apn:List Nat:=adY++[1]
noncomputable def e95(J:Q24)(m:Nat):=evAt Tryz.prog env (ct m) J (m+1) 133 44 Tryz.f133 d95
noncomputable def l95(J:Q24)(m:Nat):=loopAt Tryz.prog env (ct m) J (m+1) 133 44 Tryz.f133 d95
noncomputable def nS(a:Int)(b:Dt)(c:List Dt):St:=⟨tsOf [(1,.ptr 0 [] 0),(3,.row 1),(4,.dat 3 (.int a))],[.box 26 (.dat 26 b),.row 23 c],0⟩
noncomputable def nT(a:Int)(b:Dt)(c:List Dt):St:=⟨tsOf [(1,.ptr 0 [] 0),(3,.row 1),(5,.dat 3 (.int a))],[.box 26 (.dat 26 b),.row 23 c],0⟩
noncomputable def adZ(a:List Dt):St:=⟨tsOf [(3,.row 0)],[.row 23 a],0⟩
noncomputable def ad1(a:Dt)(b:List Dt):St:=⟨tsOf [(1,.ptr 0 [] 0),(3,.row 1)],[.box 26 (.dat 26 a),.row 23 b],0⟩
abbrev apo(m e:Nat)(a:Q33):Prop:=∀b c d,l95 jn m Lr [] e (nS b c d)=a b c d
theorem ad2 m b a(f:apo m b a) c d e:e95 jn m apm [b] (nS c d e)=abu m a c d e:=
 tq (g:=fun J=>jj J 1 4 b (nS (wrap .i64 (c+1)) d e) (l95 J m Lr [] b)) (by simp only[au,f];rfl)
theorem ad3 m b a(f:apo m b a) c d e:e95 jn m adX [b] (nS c d e)=abv m a c d e:=
 tq (g:=fun J=>(idx (L d 3) c).bind fun h=>(app e [h]).bind fun i=>jj J 0 5 0 (nS c d i) (e95 J m apm [b])) (by simp only[au,ad2 m b a f];rfl)
abbrev apq(m e:Nat)(a:Q33):Prop:=∀b c d,l95 jn m Ls [] e (nT b c d)=a b c d
theorem ad4 m b a(f:apq m b a) c d e:e95 jn m apn [b] (nT c d e)=abw m a c d e:=
 tq (g:=fun J=>jj J 1 9 b (nT (wrap .i64 (c+1)) d e) (l95 J m Ls [] b)) (by simp only[au,f];rfl)
theorem ad5 m b a(f:apq m b a) c d e:e95 jn m adY [b] (nT c d e)=abx m a c d e:=
 tq (g:=fun J=>(idx (L d 4) c).bind fun h=>(app e [fld h 1]).bind fun i=>jj J 0 10 0 (nT c d i) (e95 J m apn [b])) (by simp only[au,ad4 m b a f];rfl)
theorem Lu m a:e95 jn m [1,1,1,1] [] (adZ a)=J9 m a:=
 tq (g:=fun J=>some a) (by rfl)
theorem Lv m:∀a b c d,l95 jn m Ls [] a (nT b c d)=Av m a b c d
 |0,_,_,_=>rfl
 |a+1,b,c,d=>
  tl (g:=fun J=>cond (b<((L c 4).length:Int)) (jj J 0 11 0 (nT b c d) (e95 J m adY [a])) (jj J 0 12 0 (adZ d) (e95 J m [1,1,1,1] []))) (by simp only[au,ad5 m a (Av m a) (Lv m a),Lu m];rfl)
theorem ad6 m a b c:e95 jn m adW [] (nT a b c)=aby m a b c:=
 tq (g:=fun J=>jj J 1 9 (succ m) (nT a b c) (l95 J m Ls [] (succ m))) (by simp only[au,Lv m];rfl)
theorem Lx m a b:e95 jn m [1,1,1] [] (ad1 a b)=ES m a b:=
 tq (g:=fun J=>cond (I a 0==5) (jj J 0 9 0 (nT 0 a b) (e95 J m adW [])) (jj J 0 12 0 (adZ b) (e95 J m [1,1,1,1] []))) (by simp only[au,ad6 m,Lu m];rfl)
theorem LA m:∀a c b d,l95 jn m Lr [] a (nS c b d)=Ay m a c b d
 |0,_,_,_=>rfl
 |a+1,c,b,d=>
  tl (g:=fun J=>cond (c<((L b 3).length:Int)) (jj J 0 6 0 (nS c b d) (e95 J m adX [a])) (jj J 0 7 0 (ad1 b d) (e95 J m [1,1,1] []))) (by simp only[au,ad3 m a (Ay m a) (LA m a),Lx m];rfl)
theorem ad7 m a b c:e95 jn m adV [] (nS a b c)=abz m a b c:=
 tq (g:=fun J=>jj J 1 4 (succ m) (nS a b c) (l95 J m Lr [] (succ m))) (by simp only[au,LA m];rfl)
theorem avi m a:e95 jn m [] [] ⟨[.dat 26 a],[],0⟩=qR (m+1) a:=
 tq (g:=fun J=>cond (I a 0==6) (jj J 0 4 0 (nS 0 a []) (e95 J m adV [])) (jj J 0 7 0 (ad1 a []) (e95 J m [1,1,1] []))) (by simp only[au,ad7 m,Lx m];rfl)
def apr:List Nat:=[1,1,1,1,1]
def ad8:List Nat:=[1,1,1,1,0,1]
def LB:List Nat:=ad8++[0]
def ad9:List Nat:=LB++[0,1]
def apt:List Nat:=ad9++[1]
noncomputable def e85(J:Q1)(m:Nat):=evAt Tryz.prog env (ct m) J (m+1) 92 34 Tryz.f92 d40
noncomputable def l85(J:Q1)(m:Nat):=loopAt Tryz.prog env (ct m) J (m+1) 92 34 Tryz.f92 d40
noncomputable def nU(a:Int)(b:List Dt)(c d:Int):St:=⟨tsOf [(1,.dat 3 (.int a)),(5,.dat 23 (.lst b)),(6,.dat 3 (.int c)),(7,.dat 3 (.int d))],[],0⟩
noncomputable def apu(a:Int):St:=⟨tsOf [(6,.dat 3 (.int a))],[],0⟩
noncomputable def apv(a:Int)(b:List Dt):St:=⟨tsOf [(1,.dat 3 (.int a)),(5,.dat 23 (.lst b))],[],0⟩
noncomputable def aea(a:Int)(b:List Dt)(c:Bool):St:=⟨tsOf [(1,.dat 3 (.int a)),(5,.dat 23 (.lst b)),(16,.dat 4 (.bool c))],[],0⟩
abbrev apw(m f:Nat)(a:Q21):Prop:=∀b c d e,l85 jn m LB [] f (nU b c d e)=a b c d e
theorem aeb m b a(h:apw m b a) c d e f:e85 jn m apt [b] (nU c d e f)=Az m (qO m) a c d e f:=
 tq (g:=fun J=>jj J 1 6 b (nU c d e (wrap .i64 (f+1))) (l85 J m LB [] b)) (by simp only[au,h];rfl)
theorem aec m b a(i:apw m b a) c d e f:e85 jn m ad9 [b] (nU c d e f)=AA m (qO m) a c d e f:=
 tq (g:=fun J=>(idx d f).bind fun j=>(qO m j (wrap .i64 (c-1))).bind fun h=>jj J 0 7 0 (nU c d (cond (e<h) h e) f) (e85 J m apt [b])) (by simp only[au,aeb m b a i];rfl)
theorem aed m a:e85 jn m apr [] (apu a)=AB m (qO m) a:=
 tq (g:=fun J=>some (wrap .i64 (a+1))) (by rfl)
theorem LC m:∀a e b c d,l85 jn m LB [] a (nU e b c d)=AJ m (qO m) a e b c d
 |0,_,_,_,_=>rfl
 |a+1,e,b,c,d=>
  tl (g:=fun J=>cond (d<(b.length:Int)) (jj J 0 8 0 (nU e b c d) (e85 J m ad9 [a])) (jj J 0 9 0 (apu c) (e85 J m apr []))) (by simp only[au,aec m a (AJ m (qO m) a) (LC m a),aed m];rfl)
theorem aee m a b c d:e85 jn m ad8 [] (nU a b c d)=AL m (qO m) a b c d:=
 tq (g:=fun J=>jj J 1 6 (succ m) (nU a b c d) (l85 J m LB [] (succ m))) (by simp only[au,LC m];rfl)
theorem aef m a b:e85 jn m [1,1,1] [] (apv a b)=AO m (qO m) a b:=
 tq (g:=fun J=>jj J 0 6 0 (nU a b 0 0) (e85 J m ad8 [])) (by simp only[au,aee m];rfl)
theorem aeg m a b c:e85 jn m [1,1,0,1] [] (aea a b c)=wG m (qO m) a b c:=
 tq (g:=fun J=>cond c (some 1) (jj J 0 4 0 (apv a b) (e85 J m [1,1,1] []))) (by simp only[au,aef m];rfl)
theorem avj m b a:e85 jn m [] [] ⟨[.dat 26 b,.dat 3 (.int a)],[],0⟩=qO (m+1) b a:=
 tq (g:=fun J=>(qR m b).bind fun c=>cond (a<2) (jj J 0 3 0 (aea a c true) (e85 J m [1,1,0,1] [])) (jj J 0 3 0 (aea a c ((c.length:Int)==0)) (e85 J m [1,1,0,1] []))) (by simp only[au,aeg m];rfl)
noncomputable def e75(J:Q1)(m:Nat):=evAt Tryz.prog env (ct m) J (m+1) 54 5 Tryz.f54 d40
theorem avk m a:e75 jn m [] [] ⟨[.dat 26 a],[],0⟩=yN (m+1) a:=
 tq (g:=fun J=>(qO m a 17).bind fun b=>some b) (by rfl)
def apx:List Nat:=[1,1,1,0,1]
def LD:List Nat:=[1,1,1,0,1,0]
def aeh:List Nat:=LD++[0,1]
def apy:List Nat:=aeh++[1]
noncomputable def e86(J:Q1)(m:Nat):=evAt Tryz.prog env (ct m) J (m+1) 93 32 Tryz.f93 d40
noncomputable def l86(J:Q1)(m:Nat):=loopAt Tryz.prog env (ct m) J (m+1) 93 32 Tryz.f93 d40
noncomputable def nV(a b:Int)(c:List Dt)(d:Int):St:=⟨tsOf [(1,.dat 3 (.int a)),(5,.dat 3 (.int b)),(6,.dat 23 (.lst c)),(7,.dat 3 (.int d))],[],0⟩
noncomputable def aei(a:Int):St:=⟨tsOf [(5,.dat 3 (.int a))],[],0⟩
abbrev apz(m f:Nat)(a:Q73):Prop:=∀b c d e,l86 jn m LD [] f (nV b c d e)=a b c d e
theorem aej m b a(h:apz m b a) c d e f:e86 jn m apy [b] (nV c d e f)=abA m (zE m) a c d e f:=
 tq (g:=fun J=>jj J 1 4 b (nV c d e (wrap .i64 (f+1))) (l86 J m LD [] b)) (by simp only[au,h];rfl)
theorem aek m b a(h:apz m b a) c d e f:e86 jn m aeh [b] (nV c d e f)=abB m (zE m) a c d e f:=
 tq (g:=fun J=>(idx e f).bind fun i=>(zE m i (wrap .i64 (c-d))).bind fun j=>jj J 0 5 0 (nV c (wrap .i64 (d+j)) e f) (e86 J m apy [b])) (by simp only[au,aej m b a h];rfl)
theorem ael m a:e86 jn m [1,1,1,1] [] (aei a)=ET m (zE m) a:=
 tq (g:=fun J=>some a) (by rfl)
theorem LG m:∀a c b d e,l86 jn m LD [] a (nV c b d e)=EU m (zE m) a c b d e
 |0,_,_,_,_=>rfl
 |a+1,c,b,d,e=>
  tl (g:=fun J=>cond (e<(d.length:Int)) (cond (b<c) (jj J 0 6 0 (nV c b d e) (e86 J m aeh [a])) (jj J 0 7 0 (aei b) (e86 J m [1,1,1,1] []))) (jj J 0 7 0 (aei b) (e86 J m [1,1,1,1] []))) (by simp only[au,aek m a (EU m (zE m) a) (LG m a),ael m];rfl)
theorem aem m a b c d:e86 jn m apx [] (nV a b c d)=Sq m (zE m) a b c d:=
 tq (g:=fun J=>jj J 1 4 (succ m) (nV a b c d) (l86 J m LD [] (succ m))) (by simp only[au,LG m];rfl)
theorem avl m a b:e86 jn m [] [] ⟨[.dat 26 a,.dat 3 (.int b)],[],0⟩=zE (m+1) a b:=
 tq (g:=fun J=>(qR m a).bind fun c=>jj J 0 4 0 (nV b 1 c 0) (e86 J m apx [])) (by simp only[au,aem m];rfl)
noncomputable def e76(J:Q1)(m:Nat):=evAt Tryz.prog env (ct m) J (m+1) 55 5 Tryz.f55 d40
theorem avm m a:e76 jn m [] [] ⟨[.dat 26 a],[],0⟩=yO (m+1) a:=
 tq (g:=fun J=>(zE m a 1025).bind fun b=>some b) (by rfl)
def Ua:List Nat:=[1,1,0,1,0]
def Ub:List Nat:=[1,1,0,1,0,0,1]
def apA:List Nat:=Ub++[1]
def aen:List Nat:=Ub++[0,0,1]
noncomputable def e96(J:Q0)(m:Nat):=evAt Tryz.prog env (ct m) J (m+1) 134 33 Tryz.f134 d33
noncomputable def l96(J:Q0)(m:Nat):=loopAt Tryz.prog env (ct m) J (m+1) 134 33 Tryz.f134 d33
noncomputable def nW(a:ByteArray)(b c d:Int):St:=⟨tsOf [(0,.dat 9 (.str a)),(1,.dat 3 (.int b)),(2,.dat 3 (.int c)),(7,.dat 3 (.int d))],[],0⟩
noncomputable def aeo(a:ByteArray)(b c d:Int)(e:Bool):St:=⟨tsOf [(0,.dat 9 (.str a)),(1,.dat 3 (.int b)),(2,.dat 3 (.int c)),(7,.dat 3 (.int d)),(32,.dat 4 (.bool e))],[],0⟩
noncomputable def apB:St:=⟨tsOf [],[],0⟩
noncomputable def apC(a:ByteArray)(b c:Int):St:=⟨tsOf [(0,.dat 9 (.str a)),(1,.dat 3 (.int b)),(2,.dat 3 (.int c))],[],0⟩
abbrev aep(m f:Nat)(a:Q48):Prop:=∀b c d e,l96 jn m Ua [] f (nW b c d e)=a b c d e
theorem aer m b a(h:aep m b a) c d e f:e96 jn m apA [b] (nW c d e f)=Ka m a c d e f:=
 tq (g:=fun J=>jj J 1 4 b (nW c d e (wrap .i64 (f+1))) (l96 J m Ua [] b)) (by simp only[au,h];rfl)
theorem aes m b a(i:aep m b a) c d e f h:e96 jn m aen [b] (aeo c d e f h)=EW m a c d e f h:=
 tq (g:=fun J=>cond h (some false) (jj J 0 5 0 (nW c d e f) (e96 J m apA [b]))) (by simp only[au,aer m b a i];rfl)
theorem aeu m e a(h:aep m e a) b c f d:e96 jn m Ub [e] (nW b c f d)=Kc m a b c f d:=
 tq (g:=fun J=>(idxS b (wrap .i64 (c+d))).bind fun i=>cond (i<128) (jj J 0 7 0 (aeo b c f d true) (e96 J m aen [e])) ((idxS b (wrap .i64 (c+d))).bind fun j=>jj J 0 7 0 (aeo b c f d (decide (191<j))) (e96 J m aen [e]))) (by simp only[au,aes m e a h];rfl)
theorem aev m:e96 jn m [1,1,1] [] apB=Ke m:=
 tq (g:=fun J=>some true) (by rfl)
theorem LH m:∀a d e b c,l96 jn m Ua [] a (nW d e b c)=EX m a d e b c
 |0,_,_,_,_=>rfl
 |a+1,d,e,b,c=>
  tl (g:=fun J=>cond (c<b) (jj J 0 6 0 (nW d e b c) (e96 J m Ub [a])) (jj J 0 8 0 apB (e96 J m [1,1,1] []))) (by simp only[au,aeu m a (EX m a) (LH m a),aev m];rfl)
theorem aew m a b c d:e96 jn m [1,1,0,1] [] (nW a b c d)=Kg m a b c d:=
 tq (g:=fun J=>jj J 1 4 (succ m) (nW a b c d) (l96 J m Ua [] (succ m))) (by simp only[au,LH m];rfl)
theorem aex m a b c:e96 jn m [1,1] [] (apC a b c)=Kh m a b c:=
 tq (g:=fun J=>jj J 0 4 0 (nW a b c 0) (e96 J m [1,1,0,1] [])) (by simp only[au,aew m];rfl)
theorem avn m a b c:e96 jn m [] [] ⟨[.dat 9 (.str a),.dat 3 (.int b),.dat 3 (.int c)],[],0⟩=zC (m+1) a b c:=
 tq (g:=fun J=>cond ((a.size:Int)<wrap .i64 (b+c)) (some false) (jj J 0 3 0 (apC a b c) (e96 J m [1,1] []))) (by simp only[au,aex m];rfl)
def Uc:List Nat:=[1,0,1,0,0,1]
def F7:List Nat:=Uc++[0,1,1,1]
def Ud:List Nat:=F7++[1]
def apD:List Nat:=Ud++[1]
def eY:List Nat:=Ud++[0,1]
def Ue:List Nat:=Uc++[0,1,1,0,0,1,1,1]
def Uf:List Nat:=Ue++[1,1]
def aey:List Nat:=Uf++[1,1]
noncomputable def e87(J:Q0)(m:Nat):=evAt Tryz.prog env (ct m) J (m+1) 94 89 Tryz.f94 d33
noncomputable def l87(J:Q0)(m:Nat):=loopAt Tryz.prog env (ct m) J (m+1) 94 89 Tryz.f94 d33
noncomputable def apE(a:ByteArray)(b c:Int):St:=⟨tsOf [(0,.dat 9 (.str a)),(3,.dat 3 (.int b)),(5,.dat 3 (.int c))],[],0⟩
noncomputable def eZ(a:ByteArray)(b c:Int)(d:Bool):St:=⟨tsOf [(0,.dat 9 (.str a)),(3,.dat 3 (.int b)),(5,.dat 3 (.int c)),(84,.dat 4 (.bool d))],[],0⟩
noncomputable def Ch(a:ByteArray)(b c d:Int):St:=⟨tsOf [(0,.dat 9 (.str a)),(3,.dat 3 (.int b)),(4,.dat 5 (.int c)),(5,.dat 3 (.int d))],[],0⟩
noncomputable def aez(a:ByteArray)(b c:Int)(d:Bool):St:=⟨tsOf [(0,.dat 9 (.str a)),(3,.dat 3 (.int b)),(4,.dat 5 (.int c)),(30,.dat 4 (.bool d))],[],0⟩
noncomputable def aeA(a:ByteArray)(b c:Int)(d:Bool):St:=⟨tsOf [(0,.dat 9 (.str a)),(3,.dat 3 (.int b)),(4,.dat 5 (.int c)),(23,.dat 4 (.bool d))],[],0⟩
noncomputable def aeB(a:ByteArray)(b c:Int)(d:Bool):St:=⟨tsOf [(0,.dat 9 (.str a)),(3,.dat 3 (.int b)),(4,.dat 5 (.int c)),(16,.dat 4 (.bool d))],[],0⟩
noncomputable def wT(a:ByteArray)(b:Int):St:=⟨tsOf [(0,.dat 9 (.str a)),(3,.dat 3 (.int b))],[],0⟩
noncomputable def aeC:St:=⟨tsOf [],[],0⟩
abbrev wU(m d:Nat)(a:Q7):Prop:=∀b c,l87 jn m [1,0,1,0] [] d (wT b c)=a b c
theorem aeD m b a(f:wU m b a) c d e:e87 jn m apD [b] (apE c d e)=abC m a c d e:=
 tq (g:=fun J=>jj J 1 2 b (wT c (wrap .i64 (wrap .i64 (d+e)+1))) (l87 J m [1,0,1,0] [] b)) (by simp only[au,f];rfl)
theorem aeE m b a(h:wU m b a) c d e f:e87 jn m eY [b] (eZ c d e f)=eF m a c d e f:=
 tq (g:=fun J=>cond f (some false) (jj J 0 17 0 (apE c d e) (e87 J m apD [b]))) (by simp only[au,aeD m b a h];rfl)
theorem aeF m c f(p:wU m c f) a b e d:e87 jn m Ud [c] (Ch a b e d)=Sr m f a b e d:=
 tq (g:=fun J=>cond (e==224) ((idxS a (wrap .i64 (b+1))).bind fun q=>cond (q<160) (jj J 0 16 0 (eZ a b d true) (e87 J m eY [c])) (cond (e==237) ((idxS a (wrap .i64 (b+1))).bind fun r=>cond (159<r) (jj J 0 16 0 (eZ a b d true) (e87 J m eY [c])) (cond (e==240) ((idxS a (wrap .i64 (b+1))).bind fun s=>cond (s<144) (jj J 0 16 0 (eZ a b d true) (e87 J m eY [c])) (cond (e==244) ((idxS a (wrap .i64 (b+1))).bind fun t=>jj J 0 16 0 (eZ a b d (decide (143<t))) (e87 J m eY [c])) (jj J 0 16 0 (eZ a b d false) (e87 J m eY [c])))) (cond (e==244) ((idxS a (wrap .i64 (b+1))).bind fun u=>jj J 0 16 0 (eZ a b d (decide (143<u))) (e87 J m eY [c])) (jj J 0 16 0 (eZ a b d false) (e87 J m eY [c]))))) (cond (e==240) ((idxS a (wrap .i64 (b+1))).bind fun v=>cond (v<144) (jj J 0 16 0 (eZ a b d true) (e87 J m eY [c])) (cond (e==244) ((idxS a (wrap .i64 (b+1))).bind fun w=>jj J 0 16 0 (eZ a b d (decide (143<w))) (e87 J m eY [c])) (jj J 0 16 0 (eZ a b d false) (e87 J m eY [c])))) (cond (e==244) ((idxS a (wrap .i64 (b+1))).bind fun x=>jj J 0 16 0 (eZ a b d (decide (143<x))) (e87 J m eY [c])) (jj J 0 16 0 (eZ a b d false) (e87 J m eY [c])))))) (cond (e==237) ((idxS a (wrap .i64 (b+1))).bind fun h=>cond (159<h) (jj J 0 16 0 (eZ a b d true) (e87 J m eY [c])) (cond (e==240) ((idxS a (wrap .i64 (b+1))).bind fun i=>cond (i<144) (jj J 0 16 0 (eZ a b d true) (e87 J m eY [c])) (cond (e==244) ((idxS a (wrap .i64 (b+1))).bind fun j=>jj J 0 16 0 (eZ a b d (decide (143<j))) (e87 J m eY [c])) (jj J 0 16 0 (eZ a b d false) (e87 J m eY [c])))) (cond (e==244) ((idxS a (wrap .i64 (b+1))).bind fun k=>jj J 0 16 0 (eZ a b d (decide (143<k))) (e87 J m eY [c])) (jj J 0 16 0 (eZ a b d false) (e87 J m eY [c]))))) (cond (e==240) ((idxS a (wrap .i64 (b+1))).bind fun l=>cond (l<144) (jj J 0 16 0 (eZ a b d true) (e87 J m eY [c])) (cond (e==244) ((idxS a (wrap .i64 (b+1))).bind fun n=>jj J 0 16 0 (eZ a b d (decide (143<n))) (e87 J m eY [c])) (jj J 0 16 0 (eZ a b d false) (e87 J m eY [c])))) (cond (e==244) ((idxS a (wrap .i64 (b+1))).bind fun o=>jj J 0 16 0 (eZ a b d (decide (143<o))) (e87 J m eY [c])) (jj J 0 16 0 (eZ a b d false) (e87 J m eY [c])))))) (by simp only[au,aeE m c f p];rfl)
theorem sI m b a(h:wU m b a) c d f e:e87 jn m F7 [b] (Ch c d f e)=AP m a c d f e:=
 tq (g:=fun J=>(zC m c (wrap .i64 (d+1)) e).bind fun i=>cond (!i) (some false) (jj J 0 15 0 (Ch c d f e) (e87 J m Ud [b]))) (by simp only[au,aeF m b a h];rfl)
theorem aeG m b a(h:wU m b a) c d e f:e87 jn m aey [b] (aez c d e f)=Sv m a c d e f:=
 tq (g:=fun J=>cond f (jj J 0 13 0 (Ch c d e 3) (e87 J m F7 [b])) (some false)) (by simp only[au,sI m b a h];rfl)
theorem aeH m b a(h:wU m b a) d e c f:e87 jn m Uf [b] (aeA d e c f)=Sw m a d e c f:=
 tq (g:=fun J=>cond f (jj J 0 13 0 (Ch d e c 2) (e87 J m F7 [b])) (cond (240<=c) (jj J 0 12 0 (aez d e c (decide (c<=244))) (e87 J m aey [b])) (jj J 0 12 0 (aez d e c false) (e87 J m aey [b])))) (by simp only[au,sI m b a h,aeG m b a h];rfl)
theorem aeI m b a(h:wU m b a) d e c f:e87 jn m Ue [b] (aeB d e c f)=Sy m a d e c f:=
 tq (g:=fun J=>cond f (jj J 0 13 0 (Ch d e c 1) (e87 J m F7 [b])) (cond (224<=c) (jj J 0 10 0 (aeA d e c (decide (c<=239))) (e87 J m Uf [b])) (jj J 0 10 0 (aeA d e c false) (e87 J m Uf [b])))) (by simp only[au,sI m b a h,aeH m b a h];rfl)
theorem aeJ m b a(f:wU m b a) c d:e87 jn m Uc [b] (wT c d)=Sz m a c d:=
 tq (g:=fun J=>(idxS c d).bind fun e=>cond (e<128) (jj J 0 13 0 (Ch c d e 0) (e87 J m F7 [b])) (cond (194<=e) (jj J 0 8 0 (aeB c d e (decide (e<=223))) (e87 J m Ue [b])) (jj J 0 8 0 (aeB c d e false) (e87 J m Ue [b])))) (by simp only[au,sI m b a f,aeI m b a f];rfl)
theorem Xy m:e87 jn m [1,1] [] aeC=Qc m:=
 tq (g:=fun J=>some true) (by rfl)
theorem LJ m:∀a b c,l87 jn m [1,0,1,0] [] a (wT b c)=AQ m a b c
 |0,_,_=>rfl
 |a+1,b,c=>
  tl (g:=fun J=>cond (c<(b.size:Int)) (jj J 0 3 0 (wT b c) (e87 J m Uc [a])) (jj J 0 18 0 aeC (e87 J m [1,1] []))) (by simp only[au,aeJ m a (AQ m a) (LJ m a),Xy m];rfl)
theorem aeK m a b:e87 jn m [1,0,1] [] (wT a b)=aoH m a b:=
 tq (g:=fun J=>jj J 1 2 (succ m) (wT a b) (l87 J m [1,0,1,0] [] (succ m))) (by simp only[au,LJ m];rfl)
theorem avo m a:e87 jn m [] [] ⟨[.dat 9 (.str a)],[],0⟩=qP (m+1) a:=
 tq (g:=fun J=>jj J 0 2 0 (wT a 0) (e87 J m [1,0,1] [])) (by simp only[au,aeK m];rfl)
def Ug:List Nat:=[1,1,0,1,0]
def Uh:List Nat:=[1,1,0,1,0,0,1]
def apF:List Nat:=Uh++[1]
def aeL:List Nat:=Uh++[0,0,1]
noncomputable def e97(J:Q0)(m:Nat):=evAt Tryz.prog env (ct m) J (m+1) 135 28 Tryz.f135 d33
noncomputable def l97(J:Q0)(m:Nat):=loopAt Tryz.prog env (ct m) J (m+1) 135 28 Tryz.f135 d33
noncomputable def nX(a:ByteArray)(b:Int):St:=⟨tsOf [(0,.dat 9 (.str a)),(3,.dat 3 (.int b))],[],0⟩
noncomputable def aeM(a:ByteArray)(b:Int)(c:Bool):St:=⟨tsOf [(0,.dat 9 (.str a)),(3,.dat 3 (.int b)),(27,.dat 4 (.bool c))],[],0⟩
noncomputable def apG:St:=⟨tsOf [],[],0⟩
noncomputable def apH(a:ByteArray):St:=⟨tsOf [(0,.dat 9 (.str a))],[],0⟩
noncomputable def aeN(a:ByteArray)(b:Bool):St:=⟨tsOf [(0,.dat 9 (.str a)),(11,.dat 4 (.bool b))],[],0⟩
abbrev aeO(m d:Nat)(a:Q7):Prop:=∀b c,l97 jn m Ug [] d (nX b c)=a b c
theorem aeP m b a(e:aeO m b a) c d:e97 jn m apF [b] (nX c d)=AR m a c d:=
 tq (g:=fun J=>jj J 1 4 b (nX c (wrap .i64 (d+1))) (l97 J m Ug [] b)) (by simp only[au,e];rfl)
theorem aeQ m b a(f:aeO m b a) c d e:e97 jn m aeL [b] (aeM c d e)=wH m a c d e:=
 tq (g:=fun J=>cond e (some false) (jj J 0 5 0 (nX c d) (e97 J m apF [b]))) (by simp only[au,aeP m b a f];rfl)
theorem aeR m d a(e:aeO m d a) b c:e97 jn m Uh [d] (nX b c)=AU m a b c:=
 tq (g:=fun J=>(idxS b c).bind fun f=>cond (f<32) (jj J 0 7 0 (aeM b c true) (e97 J m aeL [d])) ((idxS b c).bind fun h=>jj J 0 7 0 (aeM b c (decide (126<h))) (e97 J m aeL [d]))) (by simp only[au,aeQ m d a e];rfl)
theorem aeS m:e97 jn m [1,1,1] [] apG=AX m:=
 tq (g:=fun J=>some true) (by rfl)
theorem LK m:∀a b c,l97 jn m Ug [] a (nX b c)=AY m a b c
 |0,_,_=>rfl
 |a+1,b,c=>
  tl (g:=fun J=>cond (c<(b.size:Int)) (jj J 0 6 0 (nX b c) (e97 J m Uh [a])) (jj J 0 8 0 apG (e97 J m [1,1,1] []))) (by simp only[au,aeR m a (AY m a) (LK m a),aeS m];rfl)
theorem aeT m a b:e97 jn m [1,1,0,1] [] (nX a b)=AZ m a b:=
 tq (g:=fun J=>jj J 1 4 (succ m) (nX a b) (l97 J m Ug [] (succ m))) (by simp only[au,LK m];rfl)
theorem aeU m a:e97 jn m [1,1] [] (apH a)=A8 m a:=
 tq (g:=fun J=>jj J 0 4 0 (nX a 0) (e97 J m [1,1,0,1] [])) (by simp only[au,aeT m];rfl)
theorem aeV m a b:e97 jn m [1,0,1] [] (aeN a b)=wI m a b:=
 tq (g:=fun J=>cond b (some false) (jj J 0 3 0 (apH a) (e97 J m [1,1] []))) (by simp only[au,aeU m];rfl)
theorem avp m a:e97 jn m [] [] ⟨[.dat 9 (.str a)],[],0⟩=qV (m+1) a:=
 tq (g:=fun J=>cond ((a.size:Int)<1) (jj J 0 2 0 (aeN a true) (e97 J m [1,0,1] [])) (jj J 0 2 0 (aeN a (decide (128<(a.size:Int)))) (e97 J m [1,0,1] []))) (by simp only[au,aeV m];rfl)
def apI:List Nat:=[1,1,1,1,1]
def Ui:List Nat:=[1,1,1,1,1,1]
def kU:List Nat:=[1,1,1,1,0,1]
def apJ:List Nat:=Ui++[1]
def aeW:List Nat:=Ui++[0,1]
def LM:List Nat:=aeW++[0]
def aeX:List Nat:=LM++[0,1]
def apK:List Nat:=aeX++[1]
noncomputable def e77(J:Q0)(m:Nat):=evAt Tryz.prog env (ct m) J (m+1) 56 138 Tryz.f56 d33
noncomputable def l77(J:Q0)(m:Nat):=loopAt Tryz.prog env (ct m) J (m+1) 56 138 Tryz.f56 d33
noncomputable def jL(a:Bool)(b:Int)(c:Dt):St:=⟨tsOf [(1,.dat 4 (.bool a)),(2,.ptr 0 [] 0),(7,.dat 3 (.int b))],[.box 26 (.dat 26 c)],0⟩
noncomputable def l5(a:Bool)(b:Dt):St:=⟨tsOf [(1,.dat 4 (.bool a)),(2,.ptr 0 [] 0)],[.box 26 (.dat 26 b)],0⟩
noncomputable def kV(a b:Bool)(c:Dt):St:=⟨tsOf [(1,.dat 4 (.bool a)),(2,.ptr 0 [] 0),(79,.dat 4 (.bool b))],[.box 26 (.dat 26 c)],0⟩
noncomputable def Uj(a b c:Bool)(d:Dt):St:=⟨tsOf [(1,.dat 4 (.bool a)),(2,.ptr 0 [] 0),(5,.dat 4 (.bool b)),(6,.dat 4 (.bool c))],[.box 26 (.dat 26 d)],0⟩
noncomputable def Uk(a b:Bool)(c:Dt):St:=⟨tsOf [(1,.dat 4 (.bool a)),(2,.ptr 0 [] 0),(5,.dat 4 (.bool b))],[.box 26 (.dat 26 c)],0⟩
noncomputable def F8(a b:Bool)(c:Dt):St:=⟨tsOf [(1,.dat 4 (.bool a)),(2,.ptr 0 [] 0),(27,.dat 4 (.bool b))],[.box 26 (.dat 26 c)],0⟩
abbrev apL(m e:Nat)(a:Q13):Prop:=∀b c d,l77 jn m LM [] e (jL b c d)=a b c d
theorem Xz m b a(f:apL m b a) c d e:e77 jn m apK [b] (jL c d e)=Qd m (qD m) (qG m) a c d e:=
 tq (g:=fun J=>jj J 1 19 b (jL c (wrap .i64 (d+1)) e) (l77 J m LM [] b)) (by simp only[au,f];rfl)
theorem aeY m b a(f:apL m b a) c d e:e77 jn m aeX [b] (jL c d e)=abD m (qD m) (qG m) a c d e:=
 tq (g:=fun J=>(idx (L e 3) d).bind fun h=>(qD m h c).bind fun i=>cond (!i) (some false) (jj J 0 20 0 (jL c d e) (e77 J m apK [b]))) (by simp only[au,Xz m b a f];rfl)
theorem XA m a b:e77 jn m apJ [] (l5 a b)=Qe m (qD m) (qG m) a b:=
 tq (g:=fun J=>(qG m b a).bind fun c=>some c) (by rfl)
theorem LP m:∀a c d b,l77 jn m LM [] a (jL c d b)=EY m (qD m) (qG m) a c d b
 |0,_,_,_=>rfl
 |a+1,c,d,b=>
  tl (g:=fun J=>cond (d<((L b 3).length:Int)) (jj J 0 21 0 (jL c d b) (e77 J m aeX [a])) (jj J 0 23 0 (l5 c b) (e77 J m apJ []))) (by simp only[au,aeY m a (EY m (qD m) (qG m) a) (LP m a),XA m];rfl)
theorem aeZ m a b c:e77 jn m aeW [] (jL a b c)=aoI m (qD m) (qG m) a b c:=
 tq (g:=fun J=>jj J 1 19 (succ m) (jL a b c) (l77 J m LM [] (succ m))) (by simp only[au,LP m];rfl)
theorem ae0 m a b:e77 jn m Ui [] (l5 a b)=abE m (qD m) (qG m) a b:=
 tq (g:=fun J=>jj J 0 19 0 (jL a 0 b) (e77 J m aeW [])) (by simp only[au,aeZ m];rfl)
theorem ae1 m b a:e77 jn m apI [] (l5 b a)=Ki m (qD m) (qG m) b a:=
 tq (g:=fun J=>cond (I a 0==9) (cond (I a 1==0) (some true) (some (I a 1==1))) (cond (I a 0==10) (some (decide (0<=I a 1))) (cond (I a 0==4) (cond (((S a 2).size:Int)<=4096) ((qP m (S a 2)).bind fun c=>some c) (some false)) (cond (I a 0==7) (some (decide (((S a 2).size:Int)<=4096))) (cond (I a 0==8) (some (((S a 2).size:Int)==12)) (jj J 0 18 0 (l5 b a) (e77 J m Ui []))))))) (by simp only[au,ae0 m];rfl)
theorem ae2 m a b c:e77 jn m kU [] (kV a b c)=jV m (qD m) (qG m) a b c:=
 tq (g:=fun J=>cond b (some false) (jj J 0 7 0 (l5 a c) (e77 J m apI []))) (by simp only[au,ae1 m];rfl)
theorem ae3 m b d c a:e77 jn m [1,1,1,1] [] (Uj b d c a)=A9 m (qD m) (qG m) b d c a:=
 tq (g:=fun J=>cond (!d) (cond (!(S a 2).toList==[]) (jj J 0 6 0 (kV b true a) (e77 J m kU [])) (cond (!c) (cond (I a 1 !=0) (jj J 0 6 0 (kV b true a) (e77 J m kU [])) (cond (I a 0<1) (jj J 0 6 0 (kV b true a) (e77 J m kU [])) (jj J 0 6 0 (kV b (decide (11<I a 0)) a) (e77 J m kU [])))) (cond (I a 0<1) (jj J 0 6 0 (kV b true a) (e77 J m kU [])) (jj J 0 6 0 (kV b (decide (11<I a 0)) a) (e77 J m kU []))))) (cond (!c) (cond (I a 1 !=0) (jj J 0 6 0 (kV b true a) (e77 J m kU [])) (cond (I a 0<1) (jj J 0 6 0 (kV b true a) (e77 J m kU [])) (jj J 0 6 0 (kV b (decide (11<I a 0)) a) (e77 J m kU [])))) (cond (I a 0<1) (jj J 0 6 0 (kV b true a) (e77 J m kU [])) (jj J 0 6 0 (kV b (decide (11<I a 0)) a) (e77 J m kU []))))) (by simp only[au,ae2 m];rfl)
theorem ae4 m b c a:e77 jn m [1,1,1] [] (Uk b c a)=Ba m (qD m) (qG m) b c a:=
 tq (g:=fun J=>cond (I a 0==3) (jj J 0 5 0 (Uj b c true a) (e77 J m [1,1,1,1] [])) (cond (I a 0==9) (jj J 0 5 0 (Uj b c true a) (e77 J m [1,1,1,1] [])) (jj J 0 5 0 (Uj b c (I a 0==10) a) (e77 J m [1,1,1,1] [])))) (by simp only[au,ae3 m];rfl)
theorem ae5 m b a:e77 jn m [1,1] [] (l5 b a)=Kj m (qD m) (qG m) b a:=
 tq (g:=fun J=>cond (I a 0==4) (jj J 0 4 0 (Uk b true a) (e77 J m [1,1,1] [])) (cond (I a 0==7) (jj J 0 4 0 (Uk b true a) (e77 J m [1,1,1] [])) (jj J 0 4 0 (Uk b (I a 0==8) a) (e77 J m [1,1,1] [])))) (by simp only[au,ae4 m];rfl)
theorem ae6 m a b c:e77 jn m [1,0,1] [] (F8 a b c)=Bb m (qD m) (qG m) a b c:=
 tq (g:=fun J=>cond b (some false) (jj J 0 3 0 (l5 a c) (e77 J m [1,1] []))) (by simp only[au,ae5 m];rfl)
theorem avq m a b:e77 jn m [] [] ⟨[.dat 26 a,.dat 4 (.bool b)],[],0⟩=qD (m+1) a b:=
 tq (g:=fun J=>cond (I a 0 !=6) (cond (0<((L a 3).length:Int)) (jj J 0 2 0 (F8 b true a) (e77 J m [1,0,1] [])) (cond (I a 0 !=5) (jj J 0 2 0 (F8 b (decide (0<((L a 4).length:Int))) a) (e77 J m [1,0,1] [])) (jj J 0 2 0 (F8 b false a) (e77 J m [1,0,1] [])))) (cond (I a 0 !=5) (jj J 0 2 0 (F8 b (decide (0<((L a 4).length:Int))) a) (e77 J m [1,0,1] [])) (jj J 0 2 0 (F8 b false a) (e77 J m [1,0,1] [])))) (by simp only[au,ae6 m];rfl)
def LQ:List Nat:=[1,0,1,0,0,1]
def apM:List Nat:=LQ++[1]
def ae7:List Nat:=LQ++[0,0,1,1]
def ae8:List Nat:=ae7++[1]
def wV:List Nat:=LQ++[0,0,1,0,1]
def LU:List Nat:=ae8++[0]
def ae9:List Nat:=LU++[0,1]
def apN:List Nat:=ae9++[1]
noncomputable def e88(J:Q0)(m:Nat):=evAt Tryz.prog env (ct m) J (m+1) 95 58 Tryz.f95 d33
noncomputable def l88(J:Q0)(m:Nat):=loopAt Tryz.prog env (ct m) J (m+1) 95 58 Tryz.f95 d33
noncomputable def nY(a:Bool)(b c:Int)(d e:Dt):St:=⟨tsOf [(1,.dat 4 (.bool a)),(2,.ptr 0 [] 0),(5,.dat 3 (.int b)),(6,.ptr 1 [] 0),(7,.dat 3 (.int c))],[.box 26 (.dat 26 d),.box 48 (.dat 48 e)],0⟩
noncomputable def nZ(a:Bool)(b:Int)(c:Dt):St:=⟨tsOf [(1,.dat 4 (.bool a)),(2,.ptr 0 [] 0),(5,.dat 3 (.int b))],[.box 26 (.dat 26 c)],0⟩
noncomputable def apO(a:Bool)(b:Int)(c d:Dt):St:=⟨tsOf [(1,.dat 4 (.bool a)),(2,.ptr 0 [] 0),(5,.dat 3 (.int b)),(6,.ptr 1 [] 0)],[.box 26 (.dat 26 c),.box 48 (.dat 48 d)],0⟩
noncomputable def wW(a:Bool)(b:Int)(c:Bool)(d e:Dt):St:=⟨tsOf [(1,.dat 4 (.bool a)),(2,.ptr 0 [] 0),(5,.dat 3 (.int b)),(6,.ptr 1 [] 0),(43,.dat 4 (.bool c))],[.box 26 (.dat 26 d),.box 48 (.dat 48 e)],0⟩
noncomputable def afa:St:=⟨tsOf [],[],0⟩
abbrev wX(m e:Nat)(a:Q13):Prop:=∀b c d,l88 jn m [1,0,1,0] [] e (nZ b c d)=a b c d
abbrev apP(m g h:Nat)(a:Q74):Prop:=∀b c d e f,l88 jn m LU [g] h (nY b c d e f)=a b c d e f
theorem afb m c a(l:wX m c a) d b(k:apP m c d b) e f h i j:e88 jn m apN [c,d] (nY e f h i j)=EZ m (qD m) a b e f h i j:=
 tq (g:=fun J=>jj J 1 8 d (nY e f (wrap .i64 (h+1)) i j) (l88 J m LU [c] d)) (by simp only[au,k];rfl)
theorem afc m c a(k:wX m c a) d b(l:apP m c d b) i j e f h:e88 jn m ae9 [c,d] (nY i j e f h)=E8 m (qD m) a b i j e f h:=
 tq (g:=fun J=>(idx (L f 4) e).bind fun n=>cond ((S n 0).toList==(S h 0).toList) (some false) (jj J 0 9 0 (nY i j e f h) (e88 J m apN [c,d]))) (by simp only[au,afb m c a k d b l];rfl)
theorem afd m b a(f:wX m b a) c d e:e88 jn m apM [b] (nZ c d e)=E9 m (qD m) a c d e:=
 tq (g:=fun J=>jj J 1 2 b (nZ c (wrap .i64 (d+1)) e) (l88 J m [1,0,1,0] [] b)) (by simp only[au,f];rfl)
theorem LV m b a(j:wX m b a):∀c e d f h i,l88 jn m LU [b] c (nY e d f h i)=Bc m (qD m) a c e d f h i
 |0,_,_,_,_,_=>rfl
 |c+1,e,d,f,h,i=>
  tl (g:=fun J=>cond (f<d) (jj J 0 10 0 (nY e d f h i) (e88 J m ae9 [b,c])) (jj J 0 3 0 (nZ e d h) (e88 J m apM [b]))) (by simp only[au,afc m b a j c (Bc m (qD m) a c) (LV m b a j c),afd m b a j];rfl)
theorem afe m b a(i:wX m b a) c d e f h:e88 jn m ae8 [b] (nY c d e f h)=Fa m (qD m) a c d e f h:=
 tq (g:=fun J=>jj J 1 8 (succ m) (nY c d e f h) (l88 J m LU [b] (succ m))) (by simp only[au,LV m b a i];rfl)
theorem aff m b a(h:wX m b a) c d e f:e88 jn m ae7 [b] (apO c d e f)=Fb m (qD m) a c d e f:=
 tq (g:=fun J=>jj J 0 8 0 (nY c d 0 e f) (e88 J m ae8 [b])) (by simp only[au,afe m b a h];rfl)
theorem afg m b a(i:wX m b a) c d e f h:e88 jn m wV [b] (wW c d e f h)=kQ m (qD m) a c d e f h:=
 tq (g:=fun J=>cond e (some false) (jj J 0 7 0 (apO c d f h) (e88 J m ae7 [b]))) (by simp only[au,aff m b a i];rfl)
theorem afh m d c(h:wX m d c) a e f:e88 jn m LQ [d] (nZ a e f)=Fe m (qD m) c a e f:=
 tq (g:=fun J=>(idx (L f 4) e).bind fun b=>cond a ((qT m (S b 0)).bind fun i=>cond (!i) (jj J 0 6 0 (wW a e true f b) (e88 J m wV [d])) (bif !a then(qV m (S b 0)).bind fun j=>cond (!j) (jj J 0 6 0 (wW a e true f b) (e88 J m wV [d])) ((qD m (fld b 1) a).bind fun k=>jj J 0 6 0 (wW a e (!k) f b) (e88 J m wV [d]))else(qD m (fld b 1) a).bind fun l=>jj J 0 6 0 (wW a e (!l) f b) (e88 J m wV [d]))) (bif !a then(qV m (S b 0)).bind fun n=>cond (!n) (jj J 0 6 0 (wW a e true f b) (e88 J m wV [d])) ((qD m (fld b 1) a).bind fun o=>jj J 0 6 0 (wW a e (!o) f b) (e88 J m wV [d]))else(qD m (fld b 1) a).bind fun p=>jj J 0 6 0 (wW a e (!p) f b) (e88 J m wV [d]))) (by simp only[au,afg m d c h];rfl)
theorem XB m:e88 jn m [1,1] [] afa=uN m (qD m):=
 tq (g:=fun J=>some true) (by rfl)
theorem LX m:∀a d b c,l88 jn m [1,0,1,0] [] a (nZ d b c)=wJ m (qD m) a d b c
 |0,_,_,_=>rfl
 |a+1,d,b,c=>
  tl (g:=fun J=>cond (b<((L c 4).length:Int)) (jj J 0 4 0 (nZ d b c) (e88 J m LQ [a])) (jj J 0 12 0 afa (e88 J m [1,1] []))) (by simp only[au,afh m a (wJ m (qD m) a) (LX m a),XB m];rfl)
theorem afi m a b c:e88 jn m [1,0,1] [] (nZ a b c)=Bd m (qD m) a b c:=
 tq (g:=fun J=>jj J 1 2 (succ m) (nZ a b c) (l88 J m [1,0,1,0] [] (succ m))) (by simp only[au,LX m];rfl)
theorem avr m a b:e88 jn m [] [] ⟨[.dat 26 a,.dat 4 (.bool b)],[],0⟩=qG (m+1) a b:=
 tq (g:=fun J=>jj J 0 2 0 (nZ b 0 a) (e88 J m [1,0,1] [])) (by simp only[au,afi m];rfl)
noncomputable def e58(J:Q0)(m:Nat):=evAt Tryz.prog env (ct m) J (m+1) 18 15 Tryz.f18 d33
theorem avt m a:e58 jn m [] [] ⟨[.dat 26 a],[],0⟩=yC (m+1) a:=
 tq (g:=fun J=>(yN m a).bind fun b=>cond (b<=16) ((yO m a).bind fun c=>cond (c<=1024) ((qD m a true).bind fun d=>some d) (some false)) (some false)) (by rfl)
noncomputable def e38(J:Q0)(m:Nat):=evAt Tryz.prog env (ct m) J (m+1) 33 11 Tryz.f33 d33
theorem avu m a:e38 jn m [] [] ⟨[.dat 26 a],[],0⟩=yG (m+1) a:=
 tq (g:=fun J=>cond (I a 0 !=5) (some true) ((yC m a).bind fun b=>some (!b))) (by rfl)
def afj:List Nat:=[1,0,1,0,0,1,1]
def apQ:List Nat:=afj++[1]
noncomputable def e37(J:Q1)(m:Nat):=evAt Tryz.prog env (ct m) J (m+1) 53 19 Tryz.f53 d40
noncomputable def l37(J:Q1)(m:Nat):=loopAt Tryz.prog env (ct m) J (m+1) 53 19 Tryz.f53 d40
noncomputable def og(a:List Dt)(b c:Int):St:=⟨tsOf [(0,.dat 23 (.lst a)),(1,.fn 33 []),(7,.dat 3 (.int b)),(8,.dat 3 (.int c))],[],0⟩
noncomputable def apR:St:=⟨tsOf [],[],0⟩
abbrev apS(m e:Nat)(a:Q30):Prop:=∀b c d,l37 jn m [1,0,1,0] [] e (og b c d)=a b c d
theorem XC m b a(f:apS m b a) c d e:e37 jn m apQ [b] (og c d e)=Qf m a c d e:=
 tq (g:=fun J=>jj J 1 2 b (og c d (wrap .i64 (e+1))) (l37 J m [1,0,1,0] [] b)) (by simp only[au,f];rfl)
theorem XD m c a(f:apS m c a) d e b:e37 jn m afj [c] (og d e b)=Qg m a d e b:=
 tq (g:=fun J=>(idx d b).bind fun h=>(yG m h).bind fun i=>cond i (some b) (jj J 0 6 0 (og d e b) (e37 J m apQ [c]))) (by simp only[au,XC m c a f];rfl)
theorem XE m:e37 jn m [1,1] [] apR=abF m:=
 tq (g:=fun J=>some (-1)) (by rfl)
theorem F9 m:∀a d b c,l37 jn m [1,0,1,0] [] a (og d b c)=uO m a d b c
 |0,_,_,_=>rfl
 |a+1,d,b,c=>
  tl (g:=fun J=>cond (c<b) (jj J 0 3 0 (og d b c) (e37 J m afj [a])) (jj J 0 7 0 apR (e37 J m [1,1] []))) (by simp only[au,XD m a (uO m a) (F9 m a),XE m];rfl)
theorem XF m a b c:e37 jn m [1,0,1] [] (og a b c)=abG m a b c:=
 tq (g:=fun J=>jj J 1 2 (succ m) (og a b c) (l37 J m [1,0,1,0] [] (succ m))) (by simp only[au,F9 m];rfl)
theorem atg m a:e37 jn m [] [] ⟨[.dat 23 (.lst a),.fn 33 []],[],0⟩=i37 (m+1) a:=
 tq (g:=fun J=>jj J 0 2 0 (og a (a.length:Int) 0) (e37 J m [1,0,1] [])) (by simp only[au,XF m];rfl)
noncomputable def e36(J:Q0)(m:Nat):=evAt Tryz.prog env (ct m) J (m+1) 16 9 Tryz.f16 d33
theorem ath m a:e36 jn m [] [] ⟨[.dat 23 (.lst a),.fn 33 []],[],0⟩=i36 (m+1) a:=
 tq (g:=fun J=>(i37 m a).bind fun b=>some (decide (0<=b))) (by rfl)
noncomputable def e6(J:Q0)(m:Nat):=evAt Tryz.prog env (ct m) J (m+1) 8 11 Tryz.f8 d33
theorem avv m a:e6 jn m [] [] ⟨[.dat 23 (.lst a)],[],0⟩=yH (m+1) a:=
 tq (g:=fun J=>bif (a.length:Int)<=30 then(i36 m a).bind fun b=>some (!b)else some false) (by rfl)
def Ul:List Nat:=[1,1,1,0,1]
noncomputable def e55(J:Q34)(m:Nat):=evAt Tryz.prog env (ct m) J (m+1) 30 43 Tryz.f30 d44
noncomputable def apT(a b:Dt):St:=⟨tsOf [(2,.ptr 0 [] 0),(4,.ptr 1 [] 0)],[.box 26 (.dat 26 a),.box 26 (.dat 26 b)],0⟩
noncomputable def Um(a:Bool)(b c:Dt):St:=⟨tsOf [(2,.ptr 0 [] 0),(4,.ptr 1 [] 0),(40,.dat 4 (.bool a))],[.box 26 (.dat 26 b),.box 26 (.dat 26 c)],0⟩
noncomputable def apU(a b:Dt):St:=⟨tsOf [(1,.ptr 0 [] 0),(2,.ptr 1 [] 0)],[.box 26 (.dat 26 a),.box 26 (.dat 26 b)],0⟩
noncomputable def Un(a:Bool)(b c:Dt):St:=⟨tsOf [(1,.ptr 0 [] 0),(2,.ptr 1 [] 0),(21,.dat 4 (.bool a))],[.box 26 (.dat 26 b),.box 26 (.dat 26 c)],0⟩
theorem afk m b a:e55 jn m [1,1,1,1] [] (apT b a)=SB m b a:=
 tq (g:=fun J=>some (a,true)) (by rfl)
theorem afl m a b c:e55 jn m Ul [] (Um a b c)=Fg m a b c:=
 tq (g:=fun J=>cond a (some (aX,false)) (jj J 0 6 0 (apT b c) (e55 J m [1,1,1,1] []))) (by simp only[au,afk m];rfl)
theorem afm m c b:e55 jn m [1,1] [] (apU c b)=SC m c b:=
 tq (g:=fun J=>(idx (L c 4) 0).bind fun a=>cond (I (fld a 1) 0==6) (jj J 0 5 0 (Um true b (fld a 1)) (e55 J m Ul [])) (cond (I (fld a 1) 0==1) (jj J 0 5 0 (Um true b (fld a 1)) (e55 J m Ul [])) (jj J 0 5 0 (Um (I (fld a 1) 0==11) b (fld a 1)) (e55 J m Ul [])))) (by simp only[au,afl m];rfl)
theorem afn m a b c:e55 jn m [1,0,1] [] (Un a b c)=Bf m a b c:=
 tq (g:=fun J=>cond a (some (aX,false)) (jj J 0 3 0 (apU b c) (e55 J m [1,1] []))) (by simp only[au,afm m];rfl)
theorem avw m a:e55 jn m [] [] ⟨[.dat 26 a],[],0⟩=zT (m+1) a:=
 tq (g:=fun J=>(yC m a).bind fun b=>cond (!b) (jj J 0 2 0 (Un true a aX) (e55 J m [1,0,1] [])) (bif ((L a 4).length:Int)==0 then jj J 0 2 0 (Un true a aX) (e55 J m [1,0,1] [])else(idx (L a 4) 0).bind fun c=>jj J 0 2 0 (Un (!(S c 0).toList==[95,105,100]) a aX) (e55 J m [1,0,1] []))) (by simp only[au,afn m];rfl)
noncomputable def e73(J:Q51)(m:Nat):=evAt Tryz.prog env (ct m) J (m+1) 98 9 Tryz.f98 d43
noncomputable def apV(a:Dt):St:=⟨tsOf [(1,.ptr 0 [] 0)],[.box 26 (.dat 26 a)],0⟩
theorem afo m a:e73 jn m [1,1] [] (apV a)=SE m a:=
 tq (g:=fun J=>(qI m a).bind fun b=>some (b,0)) (by rfl)
theorem avx m a:e73 jn m [] [] ⟨[.dat 26 a],[],0⟩=zY (m+1) a:=
 tq (g:=fun J=>(yC m a).bind fun b=>cond (!b) (some (ByteArray.mk (List.toArray []),8)) (jj J 0 3 0 (apV a) (e73 J m [1,1] []))) (by simp only[au,afo m];rfl)
noncomputable def e56(J:Q25)(m:Nat):=evAt Tryz.prog env (ct m) J (m+1) 67 14 Tryz.f67 d46
theorem avy m a:e56 jn m [] [] ⟨[.dat 26 a],[],0⟩=yE (m+1) a:=
 tq (g:=fun J=>(zY m a).bind fun b=>some (((b.1).size:Int),b.2)) (by rfl)
def apW:List Nat:=[1,1,1,1,1]
noncomputable def e32(J:Q1)(m:Nat):=evAt Tryz.prog env (ct m) J (m+1) 26 24 Tryz.f26 d19
noncomputable def apX:St:=⟨tsOf [],[],0⟩
noncomputable def apY(a:Int):St:=⟨tsOf [(5,.dat 3 (.int a))],[],0⟩
noncomputable def apZ(a:Dt):St:=⟨tsOf [(1,.ptr 0 [] 0)],[.box 26 (.dat 26 a)],0⟩
theorem afp m:e32 jn m apW [] apX=aoJ m:=
 tq (g:=fun J=>some 0) (by rfl)
theorem afq m a:e32 jn m [1,1,1,1] [] (apY a)=Fj m a:=
 tq (g:=fun J=>cond (16384<a) (some 2) (jj J 0 9 0 apX (e32 J m apW []))) (by simp only[au,afp m];rfl)
theorem afr m a:e32 jn m [1,1] [] (apZ a)=Bg m a:=
 tq (g:=fun J=>(yE m a).bind fun b=>cond (b.2 !=0) (some b.2) (jj J 0 7 0 (apY b.1) (e32 J m [1,1,1,1] []))) (by simp only[au,afq m];rfl)
theorem avz m a:e32 jn m [] [] ⟨[.dat 26 a],[],0⟩=zI (m+1) a:=
 tq (g:=fun J=>(zT m a).bind fun b=>cond (!b.2) (some 8) (jj J 0 4 0 (apZ a) (e32 J m [1,1] []))) (by simp only[au,afr m];rfl)
def ap0:List Nat:=[1,1,1,1,1]
def afs:List Nat:=[1,1,1,1,0,1]
def aft:List Nat:=afs++[0]
def LY:List Nat:=aft++[0,1]
def afu:List Nat:=LY++[1]
def amR:List Nat:=LY++[0,0,1,1,1]
def amS:List Nat:=amR++[1]
def ati:List Nat:=amS++[1,1]
def atj:List Nat:=ati++[1]
def atl:List Nat:=amS++[1,0,1]
def amT:List Nat:=LY++[0,0,1,1,0,0,1,1,1]
def amU:List Nat:=amT++[1,1]
def XG:List Nat:=amU++[1,1]
noncomputable def e4(J:Q52)(m:Nat):=evAt Tryz.prog env (ct m) J (m+1) 31 153 Tryz.f31 d3
noncomputable def l4(J:Q52)(m:Nat):=loopAt Tryz.prog env (ct m) J (m+1) 31 153 Tryz.f31 d3
noncomputable def vH(a:List Dt)(b:Int)(c:Dt)(d e:List Dt):St:=⟨tsOf [(2,.dat 23 (.lst a)),(3,.ptr 0 [] 0),(8,.row 1),(9,.row 2),(10,.dat 3 (.int b))],[.box 51 (.dat 51 c),.row 54 d,.row 23 e],0⟩
noncomputable def oh(a:List Dt)(b:Int)(c:List Dt)(d:Dt)(e f:List Dt)(g:Dt):St:=⟨tsOf [(2,.dat 23 (.lst a)),(3,.ptr 0 [] 0),(8,.row 1),(9,.row 2),(10,.dat 3 (.int b)),(11,.dat 75 (.lst c)),(12,.ptr 3 [] 0)],[.box 51 (.dat 51 d),.row 54 e,.row 23 f,.box 77 (.dat 77 g)],0⟩
noncomputable def atm(a:List Dt)(b:Int)(c:List Dt)(d:Bool)(e:Dt)(f g:List Dt)(h:Dt):St:=⟨tsOf [(2,.dat 23 (.lst a)),(3,.ptr 0 [] 0),(8,.row 1),(9,.row 2),(10,.dat 3 (.int b)),(11,.dat 75 (.lst c)),(12,.ptr 3 [] 0),(121,.dat 4 (.bool d))],[.box 51 (.dat 51 e),.row 54 f,.row 23 g,.box 77 (.dat 77 h)],0⟩
noncomputable def XH(a:List Dt)(b:Int)(c:List Dt)(d:Bool)(e:Dt)(f g:List Dt)(h:Dt):St:=⟨tsOf [(2,.dat 23 (.lst a)),(3,.ptr 0 [] 0),(8,.row 1),(9,.row 2),(10,.dat 3 (.int b)),(11,.dat 75 (.lst c)),(12,.ptr 3 [] 0),(60,.dat 4 (.bool d))],[.box 51 (.dat 51 e),.row 54 f,.row 23 g,.box 77 (.dat 77 h)],0⟩
noncomputable def atn(a:List Dt)(b:Int)(c:List Dt)(d:Bool)(e:Dt)(f g:List Dt)(h:Dt):St:=⟨tsOf [(2,.dat 23 (.lst a)),(3,.ptr 0 [] 0),(8,.row 1),(9,.row 2),(10,.dat 3 (.int b)),(11,.dat 75 (.lst c)),(12,.ptr 3 [] 0),(51,.dat 4 (.bool d))],[.box 51 (.dat 51 e),.row 54 f,.row 23 g,.box 77 (.dat 77 h)],0⟩
noncomputable def ato(a:List Dt)(b:Int)(c:List Dt)(d:Bool)(e:Dt)(f g:List Dt)(h:Dt):St:=⟨tsOf [(2,.dat 23 (.lst a)),(3,.ptr 0 [] 0),(8,.row 1),(9,.row 2),(10,.dat 3 (.int b)),(11,.dat 75 (.lst c)),(12,.ptr 3 [] 0),(42,.dat 4 (.bool d))],[.box 51 (.dat 51 e),.row 54 f,.row 23 g,.box 77 (.dat 77 h)],0⟩
noncomputable def ap1(a:List Dt):St:=⟨tsOf [(8,.row 0)],[.row 54 a],0⟩
abbrev DU(m g:Nat)(a:Q18):Prop:=∀b c d e f,l4 jn m aft [] g (vH b c d e f)=a b c d e f
theorem Ci m b a(i:DU m b a) c d e f h:e4 jn m afu [b] (vH c d e f h)=Bh m a c d e f h:=
 tq (g:=fun J=>jj J 1 5 b (vH c (wrap .i64 (d+1)) e f h) (l4 J m aft [] b)) (by simp only[au,i];rfl)
theorem XI m e a(o:DU m e a) i j k l f d b:e4 jn m atj [e] (oh i j k l f d b)=qb m a i j k l f d b:=
 tq (g:=fun J=>(cond false (app f [b]) (cond true (ite (f.length+([b]).length<=2147483648) (Option.some (f++[b])) Option.none) Option.none)).bind fun h=>bif (k.length:Int)==1 then(idx k 0).bind fun c=>(inL d (toInt c)).bind fun p=>(d[(toInt c).toNat]?).bind fun q=>jj J 0 6 0 (vH i j l h (List.set d (toInt c).toNat (fld b 3))) (e4 J m afu [e])else(app d [fld b 3]).bind fun n=>jj J 0 6 0 (vH i j l h n) (e4 J m afu [e])) (by simp only[au,Ci m e a o];rfl)
theorem XJ m b a(l:DU m b a) d e f h i j c:e4 jn m ati [b] (oh d e f h i j c)=H9 m a d e f h i j c:=
 tq (g:=fun J=>bif (f.length:Int)==1 then(qA m (fld c 4) (fld c 3)).bind fun k=>cond (k==0) (jj J 0 6 0 (vH d e h i j) (e4 J m afu [b])) (jj J 0 26 0 (oh d e f h i j c) (e4 J m atj [b]))else jj J 0 26 0 (oh d e f h i j c) (e4 J m atj [b])) (by simp only[au,Ci m b a l,XI m b a l];rfl)
theorem afv m b a(l:DU m b a) c d e f h i j k:e4 jn m atl [b] (atm c d e f h i j k)=Bj m a c d e f h i j k:=
 tq (g:=fun J=>cond f (some ([],16)) (jj J 0 25 0 (oh c d e h i j k) (e4 J m ati [b]))) (by simp only[au,XJ m b a l];rfl)
theorem afw m d b(n:DU m d b) h i e j k f a:e4 jn m amS [d] (oh h i e j k f a)=SF m b h i e j k f a:=
 tq (g:=fun J=>(idx (L (fld a 3) 4) 0).bind fun c=>bif (e.length:Int)==0 then(zN m f (fld c 1)).bind fun l=>jj J 0 24 0 (atm h i e l j k f (agg [int (I a 0),str (S a 1),fld c 1,fld a 3,fld a 4,fld a 5,fld a 6,str (S a 7),int (I a 8),lst (L a 9),lst (L a 10),bool (Dt.B a 11)])) (e4 J m atl [d])else jj J 0 24 0 (atm h i e false j k f (agg [int (I a 0),str (S a 1),fld c 1,fld a 3,fld a 4,fld a 5,fld a 6,str (S a 7),int (I a 8),lst (L a 9),lst (L a 10),bool (Dt.B a 11)])) (e4 J m atl [d])) (by simp only[au,afv m d b n];rfl)
theorem afx m b a(l:DU m b a) d e f h i j c:e4 jn m amR [b] (oh d e f h i j c)=Bl m a d e f h i j c:=
 tq (g:=fun J=>(zI m (fld c 3)).bind fun k=>cond (k !=0) (some ([],k)) (jj J 0 22 0 (oh d e f h i j c) (e4 J m amS [b]))) (by simp only[au,afw m b a l];rfl)
theorem afy m c a(l:DU m c a) e f h k i j d b:e4 jn m XG [c] (XH e f h k i j d b)=lD m a e f h k i j d b:=
 tq (g:=fun J=>cond k (jj J 0 6 0 (vH e f i j d) (e4 J m afu [c])) (bif (h.length:Int)==1 then(idx h 0).bind fun n=>(inL d (toInt n)).bind fun r=>(d[(toInt n).toNat]?).bind fun o=>(idx e f).bind fun p=>(qM m (I i 2) o p).bind fun q=>jj J 0 19 0 (oh e f h i j d (agg [int (I b 0),str (S b 1),fld b 2,q,o,fld b 5,fld b 6,str (S b 7),int (I b 8),lst (L b 9),lst (L b 10),bool (Dt.B b 11)])) (e4 J m amR [c])else jj J 0 19 0 (oh e f h i j d b) (e4 J m amR [c]))) (by simp only[au,Ci m c a l,afx m c a l];rfl)
theorem afz m d a(l:DU m d a) e f b k c h i j:e4 jn m amU [d] (atn e f b k c h i j)=Kk m a e f b k c h i j:=
 tq (g:=fun J=>cond k (some ([],15)) (cond ((b.length:Int)==1) (cond (I c 2==3) (jj J 0 16 0 (XH e f b true c h i j) (e4 J m XG [d])) (cond ((b.length:Int)==0) (jj J 0 16 0 (XH e f b (I c 3==6) c h i j) (e4 J m XG [d])) (jj J 0 16 0 (XH e f b false c h i j) (e4 J m XG [d])))) (cond ((b.length:Int)==0) (jj J 0 16 0 (XH e f b (I c 3==6) c h i j) (e4 J m XG [d])) (jj J 0 16 0 (XH e f b false c h i j) (e4 J m XG [d]))))) (by simp only[au,afy m d a l];rfl)
theorem afA m b a(l:DU m b a) e f c k d h i j:e4 jn m amT [b] (ato e f c k d h i j)=Fp m a e f c k d h i j:=
 tq (g:=fun J=>cond k (some ([],16)) (cond ((c.length:Int)==0) (jj J 0 14 0 (atn e f c (I d 3==4) d h i j) (e4 J m amU [b])) (jj J 0 14 0 (atn e f c false d h i j) (e4 J m amU [b])))) (by simp only[au,afz m b a l];rfl)
theorem afB m f a(k:DU m f a) c d b h i:e4 jn m LY [f] (vH c d b h i)=SG m a c d b h i:=
 tq (g:=fun J=>(idx c d).bind fun l=>(i28 m (L b 1) l i).bind fun e=>(idx c d).bind fun j=>cond (1<((e.1).length:Int)) (some ([],14)) (cond (((e.1).length:Int)==1) (jj J 0 12 0 (ato c d e.1 (I b 2==4) b h e.2 (agg [int 2,str (S b 0),aX,j,aX,iV,iW,str (ByteArray.mk (List.toArray [])),int 0,lst [],lst [],bool false])) (e4 J m amT [f])) (jj J 0 12 0 (ato c d e.1 false b h e.2 (agg [int 2,str (S b 0),aX,j,aX,iV,iW,str (ByteArray.mk (List.toArray [])),int 0,lst [],lst [],bool false])) (e4 J m amT [f])))) (by simp only[au,afA m f a k];rfl)
theorem XK m a:e4 jn m ap0 [] (ap1 a)=abH m a:=
 tq (g:=fun J=>some (a,0)) (by rfl)
theorem LZ m:∀a b c e d f,l4 jn m aft [] a (vH b c e d f)=Fq m a b c e d f
 |0,_,_,_,_,_=>rfl
 |a+1,b,c,e,d,f=>
  tl (g:=fun J=>cond (c<(b.length:Int)) (jj J 0 7 0 (vH b c e d f) (e4 J m LY [a])) (jj J 0 30 0 (ap1 d) (e4 J m ap0 []))) (by simp only[au,afB m a (Fq m a) (LZ m a),XK m];rfl)
theorem afC m a b c d e:e4 jn m afs [] (vH a b c d e)=aoK m a b c d e:=
 tq (g:=fun J=>jj J 1 5 (succ m) (vH a b c d e) (l4 J m aft [] (succ m))) (by simp only[au,LZ m];rfl)
theorem avA m a b c:e4 jn m [] [] ⟨[.dat 51 a,.dat 23 (.lst b),.dat 23 (.lst c)],[],0⟩=qL (m+1) a b c:=
 tq (g:=fun J=>(app [] b).bind fun d=>jj J 0 5 0 (vH c 0 a [] d) (e4 J m afs [])) (by simp only[au,afC m];rfl)
def amV:List Nat:=[1,0,1,0,0,1,1]
def avB:List Nat:=amV++[1]
def atp:List Nat:=amV++[0,0,1,1]
def atq:List Nat:=atp++[1]
def afD:List Nat:=atq++[0]
def atr:List Nat:=afD++[0,1,1]
def avD:List Nat:=atr++[1]
noncomputable def e7(J:Q0)(m:Nat):=evAt Tryz.prog env (ct m) J (m+1) 66 40 Tryz.f66 d33
noncomputable def l7(J:Q0)(m:Nat):=loopAt Tryz.prog env (ct m) J (m+1) 66 40 Tryz.f66 d33
noncomputable def DV(a:List Dt)(b c d e f:Int):St:=⟨tsOf [(0,.dat 23 (.lst a)),(3,.dat 3 (.int b)),(6,.dat 3 (.int c)),(7,.dat 3 (.int d)),(16,.dat 3 (.int e)),(17,.dat 3 (.int f))],[],0⟩
noncomputable def DW(a:List Dt)(b c:Int):St:=⟨tsOf [(0,.dat 23 (.lst a)),(6,.dat 3 (.int b)),(7,.dat 3 (.int c))],[],0⟩
noncomputable def avE(a:List Dt)(b c d:Int):St:=⟨tsOf [(0,.dat 23 (.lst a)),(3,.dat 3 (.int b)),(6,.dat 3 (.int c)),(7,.dat 3 (.int d))],[],0⟩
noncomputable def avG:St:=⟨tsOf [],[],0⟩
abbrev QD(m e:Nat)(a:Q16):Prop:=∀b c d,l7 jn m [1,0,1,0] [] e (DW b c d)=a b c d
abbrev avH(m h i:Nat)(a:Q75):Prop:=∀b c d e f g,l7 jn m afD [h] i (DV b c d e f g)=a b c d e f g
theorem afE m c a(n:QD m c a) d b(l:avH m c d b) e f h i j k:e7 jn m avD [c,d] (DV e f h i j k)=abI m a b e f h i j k:=
 tq (g:=fun J=>jj J 1 7 d (DV e f h i j (wrap .i64 (k+1))) (l7 J m afD [c] d)) (by simp only[au,l];rfl)
theorem afF m c a(l:QD m c a) e b(n:avH m c e b) d f i j k h:e7 jn m atr [c,e] (DV d f i j k h)=abJ m a b d f i j k h:=
 tq (g:=fun J=>(idx d h).bind fun o=>(idx (L o 4) 0).bind fun p=>(idx d f).bind fun q=>(idx (L q 4) 0).bind fun r=>(qA m (fld p 1) (fld r 1)).bind fun s=>cond (s==0) (some false) (jj J 0 11 0 (DV d f i j k h) (e7 J m avD [c,e]))) (by simp only[au,afE m c a l e b n];rfl)
theorem afG m b a(f:QD m b a) c d e:e7 jn m avB [b] (DW c d e)=abK m a c d e:=
 tq (g:=fun J=>jj J 1 2 b (DW c d (wrap .i64 (e+1))) (l7 J m [1,0,1,0] [] b)) (by simp only[au,f];rfl)
theorem L6 m b a(k:QD m b a):∀c d j e f h i,l7 jn m afD [b] c (DV d j e f h i)=Fu m a c d j e f h i
 |0,_,_,_,_,_,_=>rfl
 |c+1,d,j,e,f,h,i=>
  tl (g:=fun J=>cond (i<h) (jj J 0 8 0 (DV d j e f h i) (e7 J m atr [b,c])) (jj J 0 12 0 (DW d e f) (e7 J m avB [b]))) (by simp only[au,afF m b a k c (Fu m a c) (L6 m b a k c),afG m b a k];rfl)
theorem afH m b a(j:QD m b a) c d e f h i:e7 jn m atq [b] (DV c d e f h i)=aoL m a c d e f h i:=
 tq (g:=fun J=>jj J 1 7 (succ m) (DV c d e f h i) (l7 J m afD [b] (succ m))) (by simp only[au,L6 m b a j];rfl)
theorem afI m b a(h:QD m b a) d c e f:e7 jn m atp [b] (avE d c e f)=aoM m a d c e f:=
 tq (g:=fun J=>jj J 0 7 0 (DV d c e f c 0) (e7 J m atq [b])) (by simp only[au,afH m b a h];rfl)
theorem afJ m c a(f:QD m c a) d e b:e7 jn m amV [c] (DW d e b)=abL m a d e b:=
 tq (g:=fun J=>(idx d b).bind fun h=>(zI m h).bind fun i=>cond (i !=0) (some false) (jj J 0 6 0 (avE d b e b) (e7 J m atp [c]))) (by simp only[au,afI m c a f];rfl)
theorem afK m:e7 jn m [1,1] [] avG=aoN m:=
 tq (g:=fun J=>some true) (by rfl)
theorem L8 m:∀a d b c,l7 jn m [1,0,1,0] [] a (DW d b c)=Bn m a d b c
 |0,_,_,_=>rfl
 |a+1,d,b,c=>
  tl (g:=fun J=>cond (c<b) (jj J 0 3 0 (DW d b c) (e7 J m amV [a])) (jj J 0 13 0 avG (e7 J m [1,1] []))) (by simp only[au,afJ m a (Bn m a) (L8 m a),afK m];rfl)
theorem afL m a b c:e7 jn m [1,0,1] [] (DW a b c)=aoO m a b c:=
 tq (g:=fun J=>jj J 1 2 (succ m) (DW a b c) (l7 J m [1,0,1,0] [] (succ m))) (by simp only[au,L8 m];rfl)
theorem avI m a:e7 jn m [] [] ⟨[.dat 23 (.lst a)],[],0⟩=qW (m+1) a:=
 tq (g:=fun J=>jj J 0 2 0 (DW a (a.length:Int) 0) (e7 J m [1,0,1] [])) (by simp only[au,afL m];rfl)
noncomputable def e1(J:Q0)(m:Nat):=evAt Tryz.prog env (ct m) J (m+1) 24 46 Tryz.f24 d33
noncomputable def l1(J:Q0)(m:Nat):=loopAt Tryz.prog env (ct m) J (m+1) 24 46 Tryz.f24 d33
noncomputable def avJ(a b:List Dt):St:=⟨tsOf [(1,.dat 23 (.lst a)),(2,.dat 23 (.lst b))],[],0⟩
noncomputable def QE(a b:List Dt)(c:Bool):St:=⟨tsOf [(1,.dat 23 (.lst a)),(2,.dat 23 (.lst b)),(35,.dat 4 (.bool c))],[],0⟩
theorem afM m a b:e1 jn m [1,1] [] (avJ a b)=abM m a b:=
 tq (g:=fun J=>(yH m a).bind fun c=>cond c ((yH m b).bind fun d=>cond d ((qW m a).bind fun e=>some e) (some false)) (some false)) (by rfl)
theorem afN m a b c:e1 jn m [1,0,1] [] (QE a b c)=wK m a b c:=
 tq (g:=fun J=>cond c (some false) (jj J 0 3 0 (avJ a b) (e1 J m [1,1] []))) (by simp only[au,afM m];rfl)
theorem avK m a b c:e1 jn m [] [] ⟨[.dat 51 a,.dat 23 (.lst b),.dat 23 (.lst c)],[],0⟩=zP (m+1) a b c:=
 tq (g:=fun J=>cond (I a 2<1) (jj J 0 2 0 (QE b c true) (e1 J m [1,0,1] [])) (cond (4<I a 2) (jj J 0 2 0 (QE b c true) (e1 J m [1,0,1] [])) (cond (I a 3<4) (jj J 0 2 0 (QE b c true) (e1 J m [1,0,1] [])) (cond (6<I a 3) (jj J 0 2 0 (QE b c true) (e1 J m [1,0,1] [])) (bif 8<((L a 1).length:Int)then jj J 0 2 0 (QE b c true) (e1 J m [1,0,1] [])else(i8 m (L a 1)).bind fun d=>jj J 0 2 0 (QE b c d) (e1 J m [1,0,1] [])))))) (by simp only[au,afN m];rfl)
noncomputable def e0(J:Q0)(m:Nat):=evAt Tryz.prog env (ct m) J (m+1) 7 42 Tryz.f7 d33
noncomputable def l0(J:Q0)(m:Nat):=loopAt Tryz.prog env (ct m) J (m+1) 7 42 Tryz.f7 d33
noncomputable def avL(a b:List Dt)(c:Dt):St:=⟨tsOf [(1,.dat 23 (.lst a)),(2,.dat 23 (.lst b)),(3,.ptr 0 [] 0)],[.box 51 (.dat 51 c)],0⟩
theorem afO m a b c:e0 jn m [1,1] [] (avL a b c)=abN m a b c:=
 tq (g:=fun J=>(qQ m c a b).bind fun d=>(qL m c a b).bind fun e=>cond (d.2==e.2) ((zZ m d.1 e.1).bind fun f=>cond f ((qx).bind fun h=>some h) (some false)) (some false)) (by rfl)
theorem avM m a b c:e0 jn m [] [] ⟨[.dat 51 a,.dat 23 (.lst b),.dat 23 (.lst c)],[],0⟩=zU (m+1) a b c:=
 tq (g:=fun J=>(zP m a b c).bind fun d=>cond (!d) ((qx).bind fun e=>some e) (jj J 0 3 0 (avL b c a) (e0 J m [1,1] []))) (by simp only[au,afO m];rfl)
end Go.Proofs.YtmecfjhdnbgfeaaGreatDoor
namespace Go.Proofs.YtmecfjhdnbgfeaaGreatDoor
open Go.Am
set_option maxRecDepth 100000
theorem mixed:Tryz.prog.follows .mixedOrders=true:=by kernel_rfl
abbrev CtH(m:Nat):Prop:=∀R,CallOK (R:=R) Tryz.prog (ct m)
abbrev CtK(m:Nat):Prop:=∀k,k<m->CtH k
abbrev FQ{R:Type}(f:Nat)(args:List AV)(objs:List Ob)(K:Res->Option R)(r:R):Prop:=∃q:Res,K q=some r∧FX Tryz.prog f args objs q.1 q.2∧HasBody Tryz.prog f
theorem fo{R:Type}{m f:Nat}{fn:Func}{c:Code}{args:List AV}{objs:List Ob}{res:AV}{ro:List Ob}{dec:Res->Option R}{r:R}(hct:CtH m)(hf:Tryz.prog.funcs[f]? =some fn)(hc:fn.body=some c)(hl:Nat.ble args.length fn.ntmps=true)(hd:∀{b:Res},dec b=some r->Sim Tryz.prog b (res,ro))(h:ev Tryz.prog env (ct m) jn (m+1) f fn.ntmps c ⟨args,objs,objs.length⟩ (fun e σ=>(Mh Tryz.prog env f fn e σ).bind dec)=some r):FX Tryz.prog f args objs res ro:=
 FX_of (q:=(res,ro)) (E:=env) (m:=m+1) (dec:=dec) jn_ok (hct _) mixed hf hc (aI hl) (fun _ hb=>hd hb) h
abbrev FE(f:FuncId)(s:SR)(sh:List SA)(F:CF sh (Option s.T)):Prop:=FG Tryz.prog f s sh F fun l=>l
theorem fe{f:FuncId}{s:SR}{sh:List SA}{X:Nat->CF sh (Option s.T)}(m:Nat)(ck:CtK m)(ho:oksA Tryz.prog sh)(hb:HasBody Tryz.prog f)(a:∀m,CtH m->FE f s sh (X (m+1)))(b:FZ sh (X 0)):EOK Tryz.prog f ⟨sh,s,X m⟩:=
 ⟨ho,match m,ck with
  |0,_=>b.fg
  |m+1,ck=>a m (ck m (Nat.lt_succ_self m)),hb⟩
section
variable{R:Type}{args:List AV}{objs:List Ob}{K:Res->Option R}{r:R}
theorem avN m(hct:CtH m):FE 58 iU dV (qB (m+1)):=fun a r h=>
 fo hct Tryz.func58 (dec:=d11) rfl rfl (SR.sim gL) ((axn m a).trans h)
theorem att m(hct:CtH m)(a b:Int){r:Bool×Int}(h:i26 (m+1) a b=some r):FX Tryz.prog 195 [.dat 3 (.int a),.ptr 0 [] 0] [.box 3 (.dat 3 (.int b))] (.dat 4 (.bool r.1)) [.box 3 (.dat 3 (.int r.2))]:=
 fo hct Tryz.func195 rfl rfl anJ ((aup m a b).trans h)
theorem atu m(hct:CtH m)(a:List Dt)(b:Int){r:Int×List Dt×Int}(h:i25 (m+1) a b=some r):FX Tryz.prog 229 [.row 0,(.fn 195 [.ptr 1 [] 0])] [.row 75 a,.box 3 (.dat 3 (.int b))] (.dat 3 (.int r.1)) [.row 75 r.2.1,.box 3 (.dat 3 (.int r.2.2))]:=
 fo hct Tryz.func229 rfl rfl anK ((auq m a b).trans h)
theorem atv m(hct:CtH m)(a:List Dt)(b:Int){r:Int×List Dt}(h:i24 (m+1) a b=some r):FX Tryz.prog 194 [.row 0,(.fn 195 [.ptr 1 [] 0])] [.row 75 a,.box 3 (.dat 3 (.int b))] (.row 2) [.gone,.box 3 (.dat 3 (.int r.1)),.row 75 r.2]:=
 fo hct Tryz.func194 rfl rfl anL ((aur m a b).trans h)
theorem avO m(hct:CtH m):FE 144 res1 ahg (zM (m+1)):=fun a b r h=>
 fo hct Tryz.func144 (dec:=d40) rfl rfl (SR.sim dI) ((axo m a b).trans h)
theorem avP m(hct:CtH m):FE 145 res2 jB (zB (m+1)):=fun a r h=>
 fo hct Tryz.func145 (dec:=d41) rfl rfl (SR.sim Ve) ((axp m a).trans h)
theorem avQ m(hct:CtH m):FE 146 iU dV (qJ (m+1)):=fun a r h=>
 fo hct Tryz.func146 (dec:=d11) rfl rfl (SR.sim gL) ((axq m a).trans h)
theorem avR m(hct:CtH m):FE 109 iU RI (zL (m+1)):=fun a b r h=>
 fo hct Tryz.func109 (dec:=d11) rfl rfl (SR.sim gL) ((axr m a b).trans h)
theorem avS m(hct:CtH m)(a:Dt){r:Int×Int×ByteArray×List Dt×List Dt}(h:qK (m+1) a=some r):FX Tryz.prog 156 [.dat 26 a] [] (.agg 26 [.dat 3 (.int r.1),.dat 3 (.int r.2.1),.dat 9 (.str r.2.2.1),.row 0,.row 1]) [.row 23 r.2.2.2.1,.row 24 r.2.2.2.2]:=
 fo hct Tryz.func156 rfl rfl anM ((axt m a).trans h)
theorem avT m(hct:CtH m):FE 157 res1 tC (zG (m+1)):=fun a b r h=>
 fo hct Tryz.func157 (dec:=d40) rfl rfl (SR.sim dI) ((axu m a b).trans h)
theorem avU m(hct:CtH m):FE 119 iU ahb (zV (m+1)):=fun a b c r h=>
 fo hct Tryz.func119 (dec:=d11) rfl rfl (SR.sim gL) ((axv m a b c).trans h)
theorem avV m(hct:CtH m):FE 138 M9 tC (yJ (m+1)):=fun a b r h=>
 fo hct Tryz.func138 (dec:=d44) rfl rfl (SR.sim Js) ((axw m a b).trans h)
theorem avW m(hct:CtH m):FE 101 iU dV (zQ (m+1)):=fun a r h=>
 fo hct Tryz.func101 (dec:=d11) rfl rfl (SR.sim gL) ((axx m a).trans h)
theorem atw m(hct:CtH m)(a b c:Dt)(d e f g i:List Dt){r:Dt×List Dt×List Dt×List Dt×List Dt×List Dt}(h:i20 (m+1) a b c d e f g i=some r):FX Tryz.prog 140 [.ptr 0 [] 0,.dat 26 a,.dat 26 b] [.box 114 (.agg 114 [.dat 51 c,.row 1,.row 2,.row 4,.row 5]),.row 112 d,(.rowD 110 75 (some 1000001) 3 e none),(.tok 75 f),(.map 111 g),.row 54 i] (.tup []) [.box 114 (.agg 114 [.dat 51 r.1,.row 6,.row 7,.row 4,.row 9]),.gone,.gone,.gone,(.map 111 r.2.1),.gone,.row 112 r.2.2.1,(.rowD 110 75 (some 1000001) 8 r.2.2.2.1 none),(.tok 75 r.2.2.2.2.1),.row 54 r.2.2.2.2.2]:=
 fo hct Tryz.func140 rfl rfl Jt ((aus m a b c d e f g i).trans h)
theorem avX m(hct:CtH m):FE 59 iU anF (yQ (m+1)):=fun r h=>
 fo hct Tryz.func59 (dec:=d11) rfl rfl (SR.sim gL) ((axy m).trans h)
theorem avY m(hct:CtH m):FE 60 res1 M7 (zS (m+1)):=fun a b r h=>
 fo hct Tryz.func60 (dec:=d40) rfl rfl (SR.sim dI) ((axz m a b).trans h)
theorem avZ m(hct:CtH m):FE 61 res1 U7 (zK (m+1)):=fun a b r h=>
 fo hct Tryz.func61 (dec:=d40) rfl rfl (SR.sim dI) ((axA m a b).trans h)
theorem av0 m(hct:CtH m):FE 21 res1 Jp (qA (m+1)):=fun a b r h=>
 fo hct Tryz.func21 (dec:=d40) rfl rfl (SR.sim dI) ((axB m a b).trans h)
theorem av1 m(hct:CtH m):FE 72 cK ahd (zN (m+1)):=fun a b r h=>
 fo hct Tryz.func72 (dec:=d33) rfl rfl (SR.sim bW) ((axC m a b).trans h)
theorem av2 m(hct:CtH m):FE 42 cK Jp (qU (m+1)):=fun a b r h=>
 fo hct Tryz.func42 (dec:=d33) rfl rfl (SR.sim bW) ((axD m a b).trans h)
theorem av3 m(hct:CtH m):FE 13 cK ahh (qX (m+1)):=fun a b r h=>
 fo hct Tryz.func13 (dec:=d33) rfl rfl (SR.sim bW) ((axE m a b).trans h)
theorem av4 m(hct:CtH m):FE 74 cK ahf (zW (m+1)):=fun a b r h=>
 fo hct Tryz.func74 (dec:=d33) rfl rfl (SR.sim bW) ((axF m a b).trans h)
theorem atx m(hct:CtH m):FE 73 cK ahe (i34 (m+1)):=fun a b r h=>
 fo hct Tryz.func73 (dec:=d33) rfl rfl (SR.sim bW) ((aut m a b).trans h)
theorem av5 m(hct:CtH m):FE 32 cK auk (zZ (m+1)):=fun a b r h=>
 fo hct Tryz.func32 (dec:=d33) rfl rfl (SR.sim bW) ((axG m a b).trans h)
theorem av6 m(hct:CtH m):FE 97 cK jB (qT (m+1)):=fun a r h=>
 fo hct Tryz.func97 (dec:=d33) rfl rfl (SR.sim bW) ((axH m a).trans h)
theorem av7 m(hct:CtH m):FE 65 cK aha (zH (m+1)):=fun a r h=>
 fo hct Tryz.func65 (dec:=d33) rfl rfl (SR.sim bW) ((axI m a).trans h)
theorem av8 m(hct:CtH m):FE 64 cK aha (yB (m+1)):=fun a r h=>
 fo hct Tryz.func64 (dec:=d33) rfl rfl (SR.sim bW) ((axJ m a).trans h)
theorem av9 m(hct:CtH m):FE 96 res1 ag9 (i9 (m+1)):=fun a r h=>
 fo hct Tryz.func96 (dec:=d40) rfl rfl (SR.sim dI) ((axN m a).trans h)
theorem awc m(hct:CtH m):FE 63 cK ag9 (i8 (m+1)):=fun a r h=>
 fo hct Tryz.func63 (dec:=d33) rfl rfl (SR.sim bW) ((axO m a).trans h)
theorem awd m(hct:CtH m):FE 239 anG tF (yF (m+1)):=fun a r h=>
 fo hct Tryz.func239 (dec:=d62) rfl rfl (SR.sim anI) ((axP m a).trans h)
theorem aty m(hct:CtH m)(a:Int)(b:List Dt){r:List Dt}(h:i61 (m+1) a b=some r):FX Tryz.prog 226 [.row 0,.dat 3 (.int a)] [.row 193 b] (.row 1) [.gone,.row 193 r]:=
 fo hct Tryz.func226 rfl rfl Ju ((auv m a b).trans h)
theorem atz m(hct:CtH m)(a:ByteArray)(b:List Dt){r:List Dt}(h:i63 (m+1) a b=some r):FX Tryz.prog 227 [.row 0,.dat 9 (.str a)] [.row 193 b] (.row 1) [.gone,.row 193 r]:=
 fo hct Tryz.func227 rfl rfl Ju ((auw m a b).trans h)
theorem atA m(hct:CtH m)(a:Dt)(b:List Dt){r:List Dt}(h:i60 (m+1) a b=some r):FX Tryz.prog 192 [.row 0,.dat 26 a] [.row 193 b] (.row 1) [.gone,.row 193 r]:=
 fo hct Tryz.func192 rfl rfl Ju ((auy m a b).trans h)
theorem awe m(hct:CtH m):FE 196 res2 jB (qY (m+1)):=fun a r h=>
 fo hct Tryz.func196 (dec:=d41) rfl rfl (SR.sim Ve) ((axR m a).trans h)
theorem awf m(hct:CtH m):FE 62 res1 tC (zR (m+1)):=fun a b r h=>
 fo hct Tryz.func62 (dec:=d40) rfl rfl (SR.sim dI) ((axS m a b).trans h)
theorem awg m(hct:CtH m):FE 105 iU ahb (zD (m+1)):=fun a b c r h=>
 fo hct Tryz.func105 (dec:=d11) rfl rfl (SR.sim gL) ((axT m a b c).trans h)
theorem awh m(hct:CtH m):FE 71 iU ahc (qM (m+1)):=fun a b c r h=>
 fo hct Tryz.func71 (dec:=d11) rfl rfl (SR.sim gL) ((axU m a b c).trans h)
theorem awi m(hct:CtH m):FE 23 M9 tC (yI (m+1)):=fun a b r h=>
 fo hct Tryz.func23 (dec:=d44) rfl rfl (SR.sim Js) ((axV m a b).trans h)
theorem awj m(hct:CtH m):FE 143 iU RI (zO (m+1)):=fun a b r h=>
 fo hct Tryz.func143 (dec:=d11) rfl rfl (SR.sim gL) ((axW m a b).trans h)
theorem awk m(hct:CtH m):FE 104 iU RI (yA (m+1)):=fun a b r h=>
 fo hct Tryz.func104 (dec:=d11) rfl rfl (SR.sim gL) ((axX m a b).trans h)
theorem atB m(hct:CtH m)(a:List Dt)(b:Dt)(c:List Dt){r:List Dt×List Dt}(h:i28 (m+1) a b c=some r):FX Tryz.prog 70 [.dat 49 (.lst a),.row 0,.dat 26 b] [.row 23 c] (.dat 75 (.lst r.1)) [.row 23 r.2]:=
 fo hct Tryz.func70 rfl rfl anN ((auz m a b c).trans h)
theorem awl m(hct:CtH m):FE 218 res1 tH (z7 (m+1)):=fun a b r h=>
 fo hct Tryz.func218 (dec:=d40) rfl rfl (SR.sim dI) ((axY m a b).trans h)
theorem atC m(hct:CtH m)(a:Dt)(b c:Int){r:Int×Int}(h:i89 (m+1) a b c=some r):FX Tryz.prog 234 [.dat 26 a,(.fn 235 [.ptr 0 [] 0,.ptr 1 [] 0])] [.box 3 (.dat 3 (.int b)),.box 3 (.dat 3 (.int c))] (.tup []) [.box 3 (.dat 3 (.int r.1)),.box 3 (.dat 3 (.int r.2))]:=
 fo hct Tryz.func234 rfl rfl Vl ((auA m a b c).trans h)
theorem atD m(hct:CtH m)(a:Dt)(b c:Int){r:Bool×Int×Int}(h:i90 (m+1) a b c=some r):FX Tryz.prog 235 [.dat 26 a,.ptr 0 [] 0,.ptr 1 [] 0] [.box 3 (.dat 3 (.int b)),.box 3 (.dat 3 (.int c))] (.dat 4 (.bool r.1)) [.box 3 (.dat 3 (.int r.2.1)),.box 3 (.dat 3 (.int r.2.2))]:=
 fo hct Tryz.func235 rfl rfl Vm ((auB m a b c).trans h)
theorem awm m(hct:CtH m):FE 169 res1 dV (yK (m+1)):=fun a r h=>
 fo hct Tryz.func169 (dec:=d40) rfl rfl (SR.sim dI) ((axZ m a).trans h)
theorem awn m(hct:CtH m):FE 219 res1 tH (z8 (m+1)):=fun a b r h=>
 fo hct Tryz.func219 (dec:=d40) rfl rfl (SR.sim dI) ((ax0 m a b).trans h)
theorem atE m(hct:CtH m)(a:Dt)(b c:Int){r:Int×Int}(h:i91 (m+1) a b c=some r):FX Tryz.prog 234 [.dat 26 a,(.fn 236 [.ptr 0 [] 0,.ptr 1 [] 0])] [.box 3 (.dat 3 (.int b)),.box 3 (.dat 3 (.int c))] (.tup []) [.box 3 (.dat 3 (.int r.1)),.box 3 (.dat 3 (.int r.2))]:=
 fo hct Tryz.func234 rfl rfl Vl ((auC m a b c).trans h)
theorem atF m(hct:CtH m)(a:Dt)(b c:Int){r:Bool×Int×Int}(h:i92 (m+1) a b c=some r):FX Tryz.prog 236 [.dat 26 a,.ptr 0 [] 0,.ptr 1 [] 0] [.box 3 (.dat 3 (.int b)),.box 3 (.dat 3 (.int c))] (.dat 4 (.bool r.1)) [.box 3 (.dat 3 (.int r.2.1)),.box 3 (.dat 3 (.int r.2.2))]:=
 fo hct Tryz.func236 rfl rfl Vm ((auD m a b c).trans h)
theorem awo m(hct:CtH m):FE 170 res1 dV (yM (m+1)):=fun a r h=>
 fo hct Tryz.func170 (dec:=d40) rfl rfl (SR.sim dI) ((ax1 m a).trans h)
theorem awp m(hct:CtH m):FE 240 res1 tF (qZ (m+1)):=fun a r h=>
 fo hct Tryz.func240 (dec:=d40) rfl rfl (SR.sim dI) ((ax2 m a).trans h)
theorem awq m(hct:CtH m):FE 228 res1 dV (qF (m+1)):=fun a r h=>
 fo hct Tryz.func228 (dec:=d40) rfl rfl (SR.sim dI) ((ax3 m a).trans h)
theorem awr m(hct:CtH m):FE 128 cK tF (yP (m+1)):=fun a r h=>
 fo hct Tryz.func128 (dec:=d33) rfl rfl (SR.sim bW) ((ax4 m a).trans h)
theorem aws m(hct:CtH m):FE 86 res1 M7 (zJ (m+1)):=fun a b r h=>
 fo hct Tryz.func86 (dec:=d40) rfl rfl (SR.sim dI) ((ax5 m a b).trans h)
theorem awt m(hct:CtH m):FE 45 res1 Jp (qE (m+1)):=fun a b r h=>
 fo hct Tryz.func45 (dec:=d40) rfl rfl (SR.sim dI) ((ax6 m a b).trans h)
theorem awu m(hct:CtH m):FE 141 cK Jp (yL (m+1)):=fun a b r h=>
 fo hct Tryz.func141 (dec:=d33) rfl rfl (SR.sim bW) ((ax7 m a b).trans h)
theorem awv m(hct:CtH m):FE 238 cK jB (qN (m+1)):=fun a r h=>
 fo hct Tryz.func238 (dec:=d33) rfl rfl (SR.sim bW) ((ax8 m a).trans h)
theorem aww m(hct:CtH m):FE 171 cK dV (qC (m+1)):=fun a r h=>
 fo hct Tryz.func171 (dec:=d33) rfl rfl (SR.sim bW) ((au1 m a).trans h)
theorem awx m(hct:CtH m):FE 221 cK ahi (qH (m+1)):=fun a r h=>
 fo hct Tryz.func221 (dec:=d33) rfl rfl (SR.sim bW) ((au2 m a).trans h)
theorem awy m(hct:CtH m):FE 122 cK dV (yD (m+1)):=fun a r h=>
 fo hct Tryz.func122 (dec:=d33) rfl rfl (SR.sim bW) ((au3 m a).trans h)
theorem awz m(hct:CtH m):FE 137 Yq dV (zX (m+1)):=fun a r h=>
 fo hct Tryz.func137 (dec:=d43) rfl rfl (SR.sim Vf) ((au4 m a).trans h)
theorem awC m(hct:CtH m):FE 100 Na RH (zA (m+1)):=fun a r h=>
 fo hct Tryz.func100 (dec:=d15) rfl rfl (SR.sim yj) ((au5 m a).trans h)
theorem atG m(hct:CtH m)(a b:Dt){r:ByteArray}(h:i13 (m+1) a b=some r):FX Tryz.prog 99 [.rptr 114 a,.dat 26 b] [] (.dat 9 (.str r)) []:=
 fo hct Tryz.func99 (dec:=d15) rfl rfl (SR.sim yj) ((as8 m a b).trans h)
theorem atH m(hct:CtH m)(a b:Dt)(c d e f g:List Dt){r:Dt×List Dt×List Dt×List Dt×List Dt×List Dt}(h:i12 (m+1) a b c d e f g=some r):FX Tryz.prog 68 [.ptr 0 [] 0,.dat 26 a] [.box 114 (.agg 114 [.dat 51 b,.row 1,.row 2,.row 4,.row 5]),.row 112 c,(.rowD 110 75 (some 1000001) 3 d none),(.tok 75 e),(.map 111 f),.row 54 g] (.tup []) [.box 114 (.agg 114 [.dat 51 r.1,.row 6,.row 7,.row 4,.row 9]),.gone,.gone,.gone,(.map 111 r.2.1),.gone,.row 112 r.2.2.1,(.rowD 110 75 (some 1000001) 8 r.2.2.2.1 none),(.tok 75 r.2.2.2.2.1),.row 54 r.2.2.2.2.2]:=
 fo hct Tryz.func68 rfl rfl Jt ((as9 m a b c d e f g).trans h)
theorem atI m(hct:CtH m)(a:Int)(b c:Dt)(d e f g i:List Dt){r:Dt×List Dt×List Dt×List Dt×List Dt×List Dt}(h:i23 (m+1) a b c d e f g i=some r):FX Tryz.prog 142 [.ptr 0 [] 0,.dat 3 (.int a),.dat 26 b] [.box 114 (.agg 114 [.dat 51 c,.row 1,.row 2,.row 4,.row 5]),.row 112 d,(.rowD 110 75 (some 1000001) 3 e none),(.tok 75 f),(.map 111 g),.row 54 i] (.tup []) [.box 114 (.agg 114 [.dat 51 r.1,.row 6,.row 7,.row 4,.row 9]),.gone,.gone,.gone,(.map 111 r.2.1),.gone,.row 112 r.2.2.1,(.rowD 110 75 (some 1000001) 8 r.2.2.2.1 none),(.tok 75 r.2.2.2.2.1),.row 54 r.2.2.2.2.2]:=
 fo hct Tryz.func142 rfl rfl Jt ((ata m a b c d e f g i).trans h)
theorem awD m(hct:CtH m):FE 193 Yr dV (z6 (m+1)):=fun a r h=>
 fo hct Tryz.func193 (dec:=d46) rfl rfl (SR.sim Vg) ((au6 m a).trans h)
theorem awE m(hct:CtH m):FE 139 Yt dV (qS (m+1)):=fun a r h=>
 fo hct Tryz.func139 (dec:=d19) rfl rfl (SR.sim Vh) ((au7 m a).trans h)
theorem atJ m(hct:CtH m)(a b:Dt)(c d e f g:List Dt){r:Int×Dt×List Dt×List Dt×List Dt×List Dt×List Dt}(h:i18 (m+1) a b c d e f g=some r):FX Tryz.prog 102 [.ptr 0 [] 0,.dat 26 a] [.box 114 (.agg 114 [.dat 51 b,.row 1,.row 2,.row 4,.row 5]),.row 112 c,(.rowD 110 75 (some 1000001) 3 d none),(.tok 75 e),(.map 111 f),.row 54 g] (.dat 31 (.int r.1)) [.box 114 (.agg 114 [.dat 51 r.2.1,.row 6,.row 7,.row 4,.row 9]),.gone,.gone,.gone,(.map 111 r.2.2.1),.gone,.row 112 r.2.2.2.1,(.rowD 110 75 (some 1000001) 8 r.2.2.2.2.1 none),(.tok 75 r.2.2.2.2.2.1),.row 54 r.2.2.2.2.2.2]:=
 fo hct Tryz.func102 rfl rfl Jv ((atb m a b c d e f g).trans h)
theorem atK m(hct:CtH m)(a:Int)(b c:Dt)(d e f g i:List Dt){r:Int×Dt×List Dt×List Dt×List Dt×List Dt×List Dt}(h:i21 (m+1) a b c d e f g i=some r):FX Tryz.prog 103 [.ptr 0 [] 0,.dat 3 (.int a),.dat 26 b] [.box 114 (.agg 114 [.dat 51 c,.row 1,.row 2,.row 4,.row 5]),.row 112 d,(.rowD 110 75 (some 1000001) 3 e none),(.tok 75 f),(.map 111 g),.row 54 i] (.dat 31 (.int r.1)) [.box 114 (.agg 114 [.dat 51 r.2.1,.row 6,.row 7,.row 4,.row 9]),.gone,.gone,.gone,(.map 111 r.2.2.1),.gone,.row 112 r.2.2.2.1,(.rowD 110 75 (some 1000001) 8 r.2.2.2.2.1 none),(.tok 75 r.2.2.2.2.2.1),.row 54 r.2.2.2.2.2.2]:=
 fo hct Tryz.func103 rfl rfl Jv ((atc m a b c d e f g i).trans h)
theorem atL m(hct:CtH m)(a b:Dt)(c d e f g:List Dt){r:Int×Dt×List Dt×List Dt×List Dt×List Dt×List Dt}(h:i17 (m+1) a b c d e f g=some r):FX Tryz.prog 69 [.ptr 0 [] 0,.dat 26 a] [.box 114 (.agg 114 [.dat 51 b,.row 1,.row 2,.row 4,.row 5]),.row 112 c,(.rowD 110 75 (some 1000001) 3 d none),(.tok 75 e),(.map 111 f),.row 54 g] (.dat 31 (.int r.1)) [.box 114 (.agg 114 [.dat 51 r.2.1,.row 6,.row 7,.row 4,.row 9]),.gone,.gone,.gone,(.map 111 r.2.2.1),.gone,.row 112 r.2.2.2.1,(.rowD 110 75 (some 1000001) 8 r.2.2.2.2.1 none),(.tok 75 r.2.2.2.2.2.1),.row 54 r.2.2.2.2.2.2]:=
 fo hct Tryz.func69 rfl rfl Jv ((atd m a b c d e f g).trans h)
theorem awF m(hct:CtH m):FE 27 Gx Jo (qQ (m+1)):=fun a b c r h=>
 fo hct Tryz.func27 (dec:=d3) rfl rfl (SR.sim Nh) ((avf m a b c).trans h)
theorem awG m(hct:CtH m):FE 191 Na tF (zF (m+1)):=fun a r h=>
 fo hct Tryz.func191 (dec:=d15) rfl rfl (SR.sim yj) ((avg m a).trans h)
theorem awH m(hct:CtH m):FE 136 Na dV (qI (m+1)):=fun a r h=>
 fo hct Tryz.func136 (dec:=d15) rfl rfl (SR.sim yj) ((avh m a).trans h)
theorem awI m(hct:CtH m):FE 133 U8 dV (qR (m+1)):=fun a r h=>
 fo hct Tryz.func133 (dec:=d95) rfl rfl (SR.sim ahs) ((avi m a).trans h)
theorem awJ m(hct:CtH m):FE 92 res1 tH (qO (m+1)):=fun a b r h=>
 fo hct Tryz.func92 (dec:=d40) rfl rfl (SR.sim dI) ((avj m a b).trans h)
theorem awK m(hct:CtH m):FE 54 res1 dV (yN (m+1)):=fun a r h=>
 fo hct Tryz.func54 (dec:=d40) rfl rfl (SR.sim dI) ((avk m a).trans h)
theorem awL m(hct:CtH m):FE 93 res1 tH (zE (m+1)):=fun a b r h=>
 fo hct Tryz.func93 (dec:=d40) rfl rfl (SR.sim dI) ((avl m a b).trans h)
theorem awM m(hct:CtH m):FE 55 res1 dV (yO (m+1)):=fun a r h=>
 fo hct Tryz.func55 (dec:=d40) rfl rfl (SR.sim dI) ((avm m a).trans h)
theorem awN m(hct:CtH m):FE 134 cK ahj (zC (m+1)):=fun a b c r h=>
 fo hct Tryz.func134 (dec:=d33) rfl rfl (SR.sim bW) ((avn m a b c).trans h)
theorem awO m(hct:CtH m):FE 94 cK jB (qP (m+1)):=fun a r h=>
 fo hct Tryz.func94 (dec:=d33) rfl rfl (SR.sim bW) ((avo m a).trans h)
theorem awP m(hct:CtH m):FE 135 cK jB (qV (m+1)):=fun a r h=>
 fo hct Tryz.func135 (dec:=d33) rfl rfl (SR.sim bW) ((avp m a).trans h)
theorem awQ m(hct:CtH m):FE 56 cK M8 (qD (m+1)):=fun a b r h=>
 fo hct Tryz.func56 (dec:=d33) rfl rfl (SR.sim bW) ((avq m a b).trans h)
theorem awR m(hct:CtH m):FE 95 cK M8 (qG (m+1)):=fun a b r h=>
 fo hct Tryz.func95 (dec:=d33) rfl rfl (SR.sim bW) ((avr m a b).trans h)
theorem awS m(hct:CtH m):FE 18 cK dV (yC (m+1)):=fun a r h=>
 fo hct Tryz.func18 (dec:=d33) rfl rfl (SR.sim bW) ((avt m a).trans h)
theorem awT m(hct:CtH m):FE 33 cK dV (yG (m+1)):=fun a r h=>
 fo hct Tryz.func33 (dec:=d33) rfl rfl (SR.sim bW) ((avu m a).trans h)
theorem atM m(hct:CtH m):FE 53 res1 M6 (i37 (m+1)):=fun a r h=>
 fo hct Tryz.func53 (dec:=d40) rfl rfl (SR.sim dI) ((atg m a).trans h)
theorem atN m(hct:CtH m):FE 16 cK M6 (i36 (m+1)):=fun a r h=>
 fo hct Tryz.func16 (dec:=d33) rfl rfl (SR.sim bW) ((ath m a).trans h)
theorem awU m(hct:CtH m):FE 8 cK RH (yH (m+1)):=fun a r h=>
 fo hct Tryz.func8 (dec:=d33) rfl rfl (SR.sim bW) ((avv m a).trans h)
theorem awV m(hct:CtH m):FE 30 M9 dV (zT (m+1)):=fun a r h=>
 fo hct Tryz.func30 (dec:=d44) rfl rfl (SR.sim Js) ((avw m a).trans h)
theorem awW m(hct:CtH m):FE 98 Yq dV (zY (m+1)):=fun a r h=>
 fo hct Tryz.func98 (dec:=d43) rfl rfl (SR.sim Vf) ((avx m a).trans h)
theorem awX m(hct:CtH m):FE 67 Yr dV (yE (m+1)):=fun a r h=>
 fo hct Tryz.func67 (dec:=d46) rfl rfl (SR.sim Vg) ((avy m a).trans h)
theorem awY m(hct:CtH m):FE 26 Yt dV (zI (m+1)):=fun a r h=>
 fo hct Tryz.func26 (dec:=d19) rfl rfl (SR.sim Vh) ((avz m a).trans h)
theorem awZ m(hct:CtH m):FE 31 Gx Jo (qL (m+1)):=fun a b c r h=>
 fo hct Tryz.func31 (dec:=d3) rfl rfl (SR.sim Nh) ((avA m a b c).trans h)
theorem aw0 m(hct:CtH m):FE 66 cK RH (qW (m+1)):=fun a r h=>
 fo hct Tryz.func66 (dec:=d33) rfl rfl (SR.sim bW) ((avI m a).trans h)
theorem aw1 m(hct:CtH m):FE 24 cK Jo (zP (m+1)):=fun a b c r h=>
 fo hct Tryz.func24 (dec:=d33) rfl rfl (SR.sim bW) ((avK m a b c).trans h)
theorem ap2 m(hct:CtH m):FE 7 cK Jo (zU (m+1)):=fun a b c r h=>
 fo hct Tryz.func7 (dec:=d33) rfl rfl (SR.sim bW) ((avM m a b c).trans h)
theorem amW m(hct:CtK m)(h:aul m args objs K=some r):FQ 68 args objs K r:=by
 unfold aul at h;split at h
 ·rename_i l hl;obtain⟨x,hx,hk⟩:=aj.1 h;obtain⟨a,b⟩:=Dj hl;cases m with
  |zero=>cases hx
  |succ m=>exact⟨_,hk,(atH m (hct m (Nat.lt_succ_self m)) _ _ _ _ _ _ _ hx).conv a b,⟨_,Tryz.func68,rfl,by decide⟩⟩
 cases h
theorem amX m(hct:CtK m)(h:aum m args objs K=some r):FQ 99 args objs K r:=by
 unfold aum at h;split at h
 ·rename_i l hl;obtain⟨x,hx,hk⟩:=aj.1 h;obtain⟨a,b⟩:=ahw hl;cases m with
  |zero=>cases hx
  |succ m=>exact⟨_,hk,(atG m (hct m (Nat.lt_succ_self m)) _ _ hx).conv a b,⟨_,Tryz.func99,rfl,by decide⟩⟩
 cases h
theorem amY m(hct:CtK m)(h:aun m args objs K=some r):FQ 69 args objs K r:=by
 unfold aun at h;split at h
 ·rename_i l hl;obtain⟨x,hx,hk⟩:=aj.1 h;obtain⟨a,b⟩:=Dj hl;cases m with
  |zero=>cases hx
  |succ m=>exact⟨_,hk,(atL m (hct m (Nat.lt_succ_self m)) _ _ _ _ _ _ _ hx).conv a b,⟨_,Tryz.func69,rfl,by decide⟩⟩
 cases h
theorem afP m(hct:CtK m)(h:ahN m args objs K=some r):FQ 102 args objs K r:=by
 unfold ahN at h;split at h
 ·rename_i l hl;obtain⟨x,hx,hk⟩:=aj.1 h;obtain⟨a,b⟩:=Dj hl;cases m with
  |zero=>cases hx
  |succ m=>exact⟨_,hk,(atJ m (hct m (Nat.lt_succ_self m)) _ _ _ _ _ _ _ hx).conv a b,⟨_,Tryz.func102,rfl,by decide⟩⟩
 cases h
theorem afQ m(hct:CtK m)(h:ahO m args objs K=some r):FQ 140 args objs K r:=by
 unfold ahO at h;split at h
 ·rename_i l hl;obtain⟨x,hx,hk⟩:=aj.1 h;obtain⟨a,b⟩:=ahy hl;cases m with
  |zero=>cases hx
  |succ m=>exact⟨_,hk,(atw m (hct m (Nat.lt_succ_self m)) _ _ _ _ _ _ _ _ hx).conv a b,⟨_,Tryz.func140,rfl,by decide⟩⟩
 cases h
theorem afR m(hct:CtK m)(h:ahP m args objs K=some r):FQ 103 args objs K r:=by
 unfold ahP at h;split at h
 ·rename_i l hl;obtain⟨x,hx,hk⟩:=aj.1 h;obtain⟨a,b⟩:=Nj hl;cases m with
  |zero=>cases hx
  |succ m=>exact⟨_,hk,(atK m (hct m (Nat.lt_succ_self m)) _ _ _ _ _ _ _ _ hx).conv a b,⟨_,Tryz.func103,rfl,by decide⟩⟩
 cases h
theorem afS m(hct:CtK m)(h:ahQ m args objs K=some r):FQ 142 args objs K r:=by
 unfold ahQ at h;split at h
 ·rename_i l hl;obtain⟨x,hx,hk⟩:=aj.1 h;obtain⟨a,b⟩:=Nj hl;cases m with
  |zero=>cases hx
  |succ m=>exact⟨_,hk,(atI m (hct m (Nat.lt_succ_self m)) _ _ _ _ _ _ _ _ hx).conv a b,⟨_,Tryz.func142,rfl,by decide⟩⟩
 cases h
theorem afT m(hct:CtK m)(h:ahR m args objs K=some r):FQ 194 args objs K r:=by
 unfold ahR at h;split at h
 ·rename_i l hl;obtain⟨x,hx,hk⟩:=aj.1 h;obtain⟨a,b⟩:=Nk hl;cases m with
  |zero=>cases hx
  |succ m=>exact⟨_,hk,(atv m (hct m (Nat.lt_succ_self m)) _ _ hx).conv a b,⟨_,Tryz.func194,rfl,by decide⟩⟩
 cases h
theorem afU m(hct:CtK m)(h:ahS m args objs K=some r):FQ 229 args objs K r:=by
 unfold ahS at h;split at h
 ·rename_i l hl;obtain⟨x,hx,hk⟩:=aj.1 h;obtain⟨a,b⟩:=Nk hl;cases m with
  |zero=>cases hx
  |succ m=>exact⟨_,hk,(atu m (hct m (Nat.lt_succ_self m)) _ _ hx).conv a b,⟨_,Tryz.func229,rfl,by decide⟩⟩
 cases h
theorem afV m(hct:CtK m)(h:ahT m args objs K=some r):FQ 195 args objs K r:=by
 unfold ahT at h;split at h
 ·rename_i l hl;obtain⟨x,hx,hk⟩:=aj.1 h;obtain⟨a,b⟩:=ahA hl;cases m with
  |zero=>cases hx
  |succ m=>exact⟨_,hk,(att m (hct m (Nat.lt_succ_self m)) _ _ hx).conv a b,⟨_,Tryz.func195,rfl,by decide⟩⟩
 cases h
theorem amZ m(hct:CtK m)(h:auo m args objs K=some r):FQ 70 args objs K r:=by
 unfold auo at h;split at h
 ·rename_i l hl;obtain⟨x,hx,hk⟩:=aj.1 h;obtain⟨a,b⟩:=ahC hl;cases m with
  |zero=>cases hx
  |succ m=>exact⟨_,hk,(atB m (hct m (Nat.lt_succ_self m)) _ _ _ hx).conv a b,⟨_,Tryz.func70,rfl,by decide⟩⟩
 cases h
theorem afW m(hct:CtK m)(h:ahU m args objs K=some r):FQ 156 args objs K r:=by
 unfold ahU at h;split at h
 ·rename_i l hl;obtain⟨x,hx,hk⟩:=aj.1 h;obtain⟨a,b⟩:=ahu hl;cases m with
  |zero=>cases hx
  |succ m=>exact⟨_,hk,(avS m (hct m (Nat.lt_succ_self m)) _ hx).conv a b,⟨_,Tryz.func156,rfl,by decide⟩⟩
 cases h
theorem afX m(hct:CtK m)(h:ahV m args objs K=some r):FQ 192 args objs K r:=by
 unfold ahV at h;split at h
 ·rename_i l hl;obtain⟨x,hx,hk⟩:=aj.1 h;obtain⟨a,b⟩:=ahE hl;cases m with
  |zero=>cases hx
  |succ m=>exact⟨_,hk,(atA m (hct m (Nat.lt_succ_self m)) _ _ hx).conv a b,⟨_,Tryz.func192,rfl,by decide⟩⟩
 cases h
theorem afY m(hct:CtK m)(h:ahW m args objs K=some r):FQ 226 args objs K r:=by
 unfold ahW at h;split at h
 ·rename_i l hl;obtain⟨x,hx,hk⟩:=aj.1 h;obtain⟨a,b⟩:=ahG hl;cases m with
  |zero=>cases hx
  |succ m=>exact⟨_,hk,(aty m (hct m (Nat.lt_succ_self m)) _ _ hx).conv a b,⟨_,Tryz.func226,rfl,by decide⟩⟩
 cases h
theorem afZ m(hct:CtK m)(h:ahX m args objs K=some r):FQ 227 args objs K r:=by
 unfold ahX at h;split at h
 ·rename_i l hl;obtain⟨x,hx,hk⟩:=aj.1 h;obtain⟨a,b⟩:=ahI hl;cases m with
  |zero=>cases hx
  |succ m=>exact⟨_,hk,(atz m (hct m (Nat.lt_succ_self m)) _ _ hx).conv a b,⟨_,Tryz.func227,rfl,by decide⟩⟩
 cases h
theorem af0 m(hct:CtK m)(h:ahY m args objs K=some r):FQ 234 args objs K r:=by
 unfold ahY at h;split at h
 ·rename_i l hl;obtain⟨x,hx,hk⟩:=aj.1 h;obtain⟨a,b⟩:=ahK hl;cases m with
  |zero=>cases hx
  |succ m=>exact⟨_,hk,(atC m (hct m (Nat.lt_succ_self m)) _ _ _ hx).conv a b,⟨_,Tryz.func234,rfl,by decide⟩⟩
 split at h
 ·rename_i l hl;obtain⟨x,hx,hk⟩:=aj.1 h;obtain⟨a,b⟩:=ahM hl;cases m with
  |zero=>cases hx
  |succ m=>exact⟨_,hk,(atE m (hct m (Nat.lt_succ_self m)) _ _ _ hx).conv a b,⟨_,Tryz.func234,rfl,by decide⟩⟩
 cases h
theorem af2 m(hct:CtK m)(h:ahZ m args objs K=some r):FQ 235 args objs K r:=by
 unfold ahZ at h;split at h
 ·rename_i l hl;obtain⟨x,hx,hk⟩:=aj.1 h;obtain⟨a,b⟩:=Nl hl;cases m with
  |zero=>cases hx
  |succ m=>exact⟨_,hk,(atD m (hct m (Nat.lt_succ_self m)) _ _ _ hx).conv a b,⟨_,Tryz.func235,rfl,by decide⟩⟩
 cases h
theorem af3 m(hct:CtK m)(h:ah0 m args objs K=some r):FQ 236 args objs K r:=by
 unfold ah0 at h;split at h
 ·rename_i l hl;obtain⟨x,hx,hk⟩:=aj.1 h;obtain⟨a,b⟩:=Nl hl;cases m with
  |zero=>cases hx
  |succ m=>exact⟨_,hk,(atF m (hct m (Nat.lt_succ_self m)) _ _ _ hx).conv a b,⟨_,Tryz.func236,rfl,by decide⟩⟩
 cases h
end
theorem atO m(ck:CtK m)(f:FuncId)(e:Ent):ctE m f=some e->EOK Tryz.prog f e:=
 .st (fe m ck yg ⟨_,Tryz.func7,rfl,by decide⟩ ap2 (fun _ _ _=>rfl))<|
 .st (fe m ck yg ⟨_,Tryz.func24,rfl,by decide⟩ aw1 (fun _ _ _=>rfl))<|
 .st ⟨U9,fun r h=>Xd h,⟨_,Tryz.func10,rfl,by decide⟩⟩<|
 .st (fe m ck yg ⟨_,Tryz.func27,rfl,by decide⟩ awF (fun _ _ _=>rfl))<|
 .st (fe m ck yg ⟨_,Tryz.func31,rfl,by decide⟩ awZ (fun _ _ _=>rfl))<|
 .st (fe m ck anH ⟨_,Tryz.func32,rfl,by decide⟩ av5 (fun _ _=>rfl))<|
 .st (fe m ck Jq ⟨_,Tryz.func8,rfl,by decide⟩ awU (fun _=>rfl))<|
 .st (fe m ck Jq ⟨_,Tryz.func66,rfl,by decide⟩ aw0 (fun _=>rfl))<|
 .st (fe m ck Va ⟨_,Tryz.func63,rfl,by decide⟩ awc (fun _=>rfl))<|
 .st (fe m ck Va ⟨_,Tryz.func96,rfl,by decide⟩ av9 (fun _=>rfl))<|
 .st (fe m ck Vb ⟨_,Tryz.func64,rfl,by decide⟩ av8 (fun _=>rfl))<|
 .st (fe m ck dz ⟨_,Tryz.func58,rfl,by decide⟩ avN (fun _=>rfl))<|
 .st (fe m ck Jr ⟨_,Tryz.func109,rfl,by decide⟩ avR (fun _ _=>rfl))<|
 .st (fe m ck Jq ⟨_,Tryz.func100,rfl,by decide⟩ awC (fun _=>rfl))<|
 .st (fe m ck dz ⟨_,Tryz.func101,rfl,by decide⟩ avW (fun _=>rfl))<|
 .st (fe m ck dz ⟨_,Tryz.func139,rfl,by decide⟩ awE (fun _=>rfl))<|
 .st (fe m ck yh ⟨_,Tryz.func141,rfl,by decide⟩ awu (fun _ _=>rfl))<|
 .st (fe m ck Vd ⟨_,Tryz.func119,rfl,by decide⟩ avU (fun _ _ _=>rfl))<|
 .st (fe m ck Jr ⟨_,Tryz.func104,rfl,by decide⟩ awk (fun _ _=>rfl))<|
 .st (fe m ck yh ⟨_,Tryz.func21,rfl,by decide⟩ av0 (fun _ _=>rfl))<|
 .st (fe m ck ahk ⟨_,Tryz.func71,rfl,by decide⟩ awh (fun _ _ _=>rfl))<|
 .st (fe m ck dz ⟨_,Tryz.func26,rfl,by decide⟩ awY (fun _=>rfl))<|
 .st (fe m ck ahl ⟨_,Tryz.func72,rfl,by decide⟩ av1 (fun _ _=>rfl))<|
 .st (fe m ck ahm ⟨_,Tryz.func73,rfl,by decide⟩ atx (fun _ _=>rfl))<|
 .st (fe m ck ahn ⟨_,Tryz.func74,rfl,by decide⟩ av4 (fun _ _=>rfl))<|
 .st (fe m ck Nb ⟨_,Tryz.func16,rfl,by decide⟩ atN (fun _=>rfl))<|
 .st (fe m ck Nb ⟨_,Tryz.func53,rfl,by decide⟩ atM (fun _=>rfl))<|
 .st (fe m ck dz ⟨_,Tryz.func33,rfl,by decide⟩ awT (fun _=>rfl))<|
 .st (fe m ck Vb ⟨_,Tryz.func65,rfl,by decide⟩ av7 (fun _=>rfl))<|
 .st (fe m ck aho ⟨_,Tryz.func144,rfl,by decide⟩ avO (fun _ _=>rfl))<|
 .st (fe m ck iN ⟨_,Tryz.func145,rfl,by decide⟩ avP (fun _=>rfl))<|
 .st (fe m ck dz ⟨_,Tryz.func146,rfl,by decide⟩ avQ (fun _=>rfl))<|
 .st (fe m ck dz ⟨_,Tryz.func137,rfl,by decide⟩ awz (fun _=>rfl))<|
 .st (fe m ck tJ ⟨_,Tryz.func138,rfl,by decide⟩ avV (fun _ _=>rfl))<|
 .st (fe m ck dz ⟨_,Tryz.func122,rfl,by decide⟩ awy (fun _=>rfl))<|
 .st (fe m ck dz ⟨_,Tryz.func193,rfl,by decide⟩ awD (fun _=>rfl))<|
 .st (fe m ck yh ⟨_,Tryz.func45,rfl,by decide⟩ awt (fun _ _=>rfl))<|
 .st (fe m ck tJ ⟨_,Tryz.func157,rfl,by decide⟩ avT (fun _ _=>rfl))<|
 .st (fe m ck Jr ⟨_,Tryz.func143,rfl,by decide⟩ awj (fun _ _=>rfl))<|
 .st (fe m ck U9 ⟨_,Tryz.func59,rfl,by decide⟩ avX (rfl))<|
 .st (fe m ck Nc ⟨_,Tryz.func60,rfl,by decide⟩ avY (fun _ _=>rfl))<|
 .st (fe m ck Nf ⟨_,Tryz.func61,rfl,by decide⟩ avZ (fun _ _=>rfl))<|
 .st (fe m ck Vd ⟨_,Tryz.func105,rfl,by decide⟩ awg (fun _ _ _=>rfl))<|
 .st (fe m ck dz ⟨_,Tryz.func30,rfl,by decide⟩ awV (fun _=>rfl))<|
 .st (fe m ck dz ⟨_,Tryz.func67,rfl,by decide⟩ awX (fun _=>rfl))<|
 .st (fe m ck yh ⟨_,Tryz.func42,rfl,by decide⟩ av2 (fun _ _=>rfl))<|
 .st (fe m ck dz ⟨_,Tryz.func18,rfl,by decide⟩ awS (fun _=>rfl))<|
 .st (fe m ck iN ⟨_,Tryz.func97,rfl,by decide⟩ av6 (fun _=>rfl))<|
 .st (fe m ck tK ⟨_,Tryz.func239,rfl,by decide⟩ awd (fun _=>rfl))<|
 .st (fe m ck dz ⟨_,Tryz.func169,rfl,by decide⟩ awm (fun _=>rfl))<|
 .st (fe m ck dz ⟨_,Tryz.func170,rfl,by decide⟩ awo (fun _=>rfl))<|
 .st (fe m ck dz ⟨_,Tryz.func171,rfl,by decide⟩ aww (fun _=>rfl))<|
 .st (fe m ck dz ⟨_,Tryz.func228,rfl,by decide⟩ awq (fun _=>rfl))<|
 .st (fe m ck Nc ⟨_,Tryz.func86,rfl,by decide⟩ aws (fun _ _=>rfl))<|
 .st ⟨Nf,fun _ _ r h=>Qn h,⟨_,Tryz.func87,rfl,by decide⟩⟩<|
 .st (fe m ck tJ ⟨_,Tryz.func23,rfl,by decide⟩ awi (fun _ _=>rfl))<|
 .st (fe m ck iN ⟨_,Tryz.func196,rfl,by decide⟩ awe (fun _=>rfl))<|
 .st (fe m ck tJ ⟨_,Tryz.func62,rfl,by decide⟩ awf (fun _ _=>rfl))<|
 .st (fe m ck dz ⟨_,Tryz.func98,rfl,by decide⟩ awW (fun _=>rfl))<|
 .st (fe m ck ahp ⟨_,Tryz.func13,rfl,by decide⟩ av3 (fun _ _=>rfl))<|
 .st (fe m ck dz ⟨_,Tryz.func54,rfl,by decide⟩ awK (fun _=>rfl))<|
 .st (fe m ck dz ⟨_,Tryz.func55,rfl,by decide⟩ awM (fun _=>rfl))<|
 .st (fe m ck Ng ⟨_,Tryz.func56,rfl,by decide⟩ awQ (fun _ _=>rfl))<|
 .st (fe m ck tL ⟨_,Tryz.func218,rfl,by decide⟩ awl (fun _ _=>rfl))<|
 .st (fe m ck tL ⟨_,Tryz.func219,rfl,by decide⟩ awn (fun _ _=>rfl))<|
 .st ⟨iN,fun _ r h=>Bw h,⟨_,Tryz.func220,rfl,by decide⟩⟩<|
 .st (fe m ck ahq ⟨_,Tryz.func221,rfl,by decide⟩ awx (fun _=>rfl))<|
 .st (fe m ck tK ⟨_,Tryz.func240,rfl,by decide⟩ awp (fun _=>rfl))<|
 .st (fe m ck tK ⟨_,Tryz.func128,rfl,by decide⟩ awr (fun _=>rfl))<|
 .st (fe m ck dz ⟨_,Tryz.func136,rfl,by decide⟩ awH (fun _=>rfl))<|
 .st (fe m ck tL ⟨_,Tryz.func92,rfl,by decide⟩ awJ (fun _ _=>rfl))<|
 .st (fe m ck tL ⟨_,Tryz.func93,rfl,by decide⟩ awL (fun _ _=>rfl))<|
 .st (fe m ck iN ⟨_,Tryz.func94,rfl,by decide⟩ awO (fun _=>rfl))<|
 .st (fe m ck Ng ⟨_,Tryz.func95,rfl,by decide⟩ awR (fun _ _=>rfl))<|
 .st (fe m ck iN ⟨_,Tryz.func238,rfl,by decide⟩ awv (fun _=>rfl))<|
 .st (fe m ck tK ⟨_,Tryz.func191,rfl,by decide⟩ awG (fun _=>rfl))<|
 .st (fe m ck dz ⟨_,Tryz.func133,rfl,by decide⟩ awI (fun _=>rfl))<|
 .st (fe m ck ahr ⟨_,Tryz.func134,rfl,by decide⟩ awN (fun _ _ _=>rfl))<|
 .st (fe m ck iN ⟨_,Tryz.func135,rfl,by decide⟩ awP (fun _=>rfl))<|
 nofun
theorem atP m(ck:CtK m){R:Type}{f:FuncId}{args:List AV}{objs:List Ob}{K:Res->Option R}{r:R}(h:ctX m f args objs K=some r):FQ f args objs K r:=by
 unfold ctX at h;rcases bP h with⟨hb,a⟩| ⟨_,h⟩;·cases beq_eq hb;exact amW m ck a
 rcases bP h with⟨hb,a⟩| ⟨_,h⟩;·cases beq_eq hb;exact amX m ck a
 rcases bP h with⟨hb,a⟩| ⟨_,h⟩;·cases beq_eq hb;exact amY m ck a
 rcases bP h with⟨hb,a⟩| ⟨_,h⟩;·cases beq_eq hb;exact afP m ck a
 rcases bP h with⟨hb,a⟩| ⟨_,h⟩;·cases beq_eq hb;exact afQ m ck a
 rcases bP h with⟨hb,a⟩| ⟨_,h⟩;·cases beq_eq hb;exact afR m ck a
 rcases bP h with⟨hb,a⟩| ⟨_,h⟩;·cases beq_eq hb;exact afS m ck a
 rcases bP h with⟨hb,a⟩| ⟨_,h⟩;·cases beq_eq hb;exact afT m ck a
 rcases bP h with⟨hb,a⟩| ⟨_,h⟩;·cases beq_eq hb;exact afU m ck a
 rcases bP h with⟨hb,a⟩| ⟨_,h⟩;·cases beq_eq hb;exact afV m ck a
 rcases bP h with⟨hb,a⟩| ⟨_,h⟩;·cases beq_eq hb;exact amZ m ck a
 rcases bP h with⟨hb,a⟩| ⟨_,h⟩;·cases beq_eq hb;exact afW m ck a
 rcases bP h with⟨hb,a⟩| ⟨_,h⟩;·cases beq_eq hb;exact afX m ck a
 rcases bP h with⟨hb,a⟩| ⟨_,h⟩;·cases beq_eq hb;exact afY m ck a
 rcases bP h with⟨hb,a⟩| ⟨_,h⟩;·cases beq_eq hb;exact afZ m ck a
 rcases bP h with⟨hb,a⟩| ⟨_,h⟩;·cases beq_eq hb;exact af0 m ck a
 rcases bP h with⟨hb,a⟩| ⟨_,h⟩;·cases beq_eq hb;exact af2 m ck a
 rcases bP h with⟨hb,a⟩| ⟨_,h⟩;·cases beq_eq hb;exact af3 m ck a
 cases h
theorem aw2(m:Nat):CtH m:=Nat.strongRecOn m fun m ck R f args objs K r h=>by
 unfold ct at h;split at h
 ·rename_i e he;exact(atO m ck f e he).run h
 ·exact atP m ck h
