/- Generated: each function's run in the abstract machine is its shallow function. -/
import Derived.Test.YtmecfjhdnbgfeaaGreatDoorCt
import Derived.Test.YtmecfjhdnbgfeaaGreatDoorAmEnv
import Derived.KernelRfl
set_option linter.unusedVariables false
set_option linter.unusedSimpArgs false
noncomputable section
namespace Go.Proofs.YtmecfjhdnbgfeaaGreatDoor
open Go.Am
set_option maxRecDepth 100000
def apc:List Nat:=[1,1,1,1,1,1]
def QE:List Nat:=[1,1,1,1,0,1]
def afQ:List Nat:=[1,1,1,1,1,0,1]
def dA:List Nat:=apc++[0,1]
def e35 (J:Q2) (m:Nat):=evAt Tryz.prog env (ct m) J (m+1) 75 164 Tryz.f75 d35
def dB (x0:Bool):St:=⟨tsOf [(163,.dat 4 (.bool x0))],[],0⟩
def aaV (x0:Bool) (x1:Dt):St:=⟨tsOf [(1,.ptr 0 [] 0),(3,.dat 4 (.bool x0))],[.box 29 (.dat 29 x1)],0⟩
def afR (x0 x1:Bool) (x2:Dt):St:=⟨tsOf [(1,.ptr 0 [] 0),(3,.dat 4 (.bool x0)),(112,.dat 4 (.bool x1))],[.box 29 (.dat 29 x2)],0⟩
def QF (x0 x1:Bool) (x2:Dt):St:=⟨tsOf [(1,.ptr 0 [] 0),(3,.dat 4 (.bool x0)),(103,.dat 4 (.bool x1))],[.box 29 (.dat 29 x2)],0⟩
def Jv (x0:Bool) (x1:Dt):St:=⟨tsOf [(1,.ptr 0 [] 0),(72,.dat 4 (.bool x0))],[.box 29 (.dat 29 x1)],0⟩
def Db (x0:Bool) (x1:Dt):St:=⟨tsOf [(1,.ptr 0 [] 0),(46,.dat 4 (.bool x0))],[.box 29 (.dat 29 x1)],0⟩
theorem GV m x0:e35 jn m dA [] (dB x0)=au m x0:=
 tq (g:=fun J=>(bif x0 then
  some 4
   else
  (some 0))) (by rfl)
theorem GX m x0 x1 x2:e35 jn m afQ [] (afR x0 x1 x2)=sK m x0 x1 x2:=
 tq (g:=fun J=>(bif x1 then
  some 8
   else
  ((bif ((Dt.I x2 0) !=2) then(bif ((Dt.I x2 0) !=3) then(bif (decide (0<(List.length (Dt.L x2 1):Int))) then(jj J 0 11 0 (dB true) (e35 J m dA [])) else(bif (Bool.not x0) then(bif (Bool.not ((ByteArray.toList (Dt.S x2 2))==[])) then(jj J 0 11 0 (dB true) (e35 J m dA [])) else(bif ((Dt.I x2 0) !=34) then(bif (decide (0<(List.length (Dt.L x2 3):Int))) then(jj J 0 11 0 (dB true) (e35 J m dA [])) else(bif ((Dt.I x2 0) !=1) then((aF m (Dt.fld x2 4) kza2373).bind fun r3=>(bif (Bool.not r3) then(jj J 0 11 0 (dB true) (e35 J m dA [])) else(jj J 0 11 0 (dB ((Dt.I x2 5) !=0)) (e35 J m dA [])))) else(jj J 0 11 0 (dB ((Dt.I x2 5) !=0)) (e35 J m dA [])))) else(bif ((Dt.I x2 0) !=1) then((aF m (Dt.fld x2 4) kza2373).bind fun r4=>(bif (Bool.not r4) then(jj J 0 11 0 (dB true) (e35 J m dA [])) else(jj J 0 11 0 (dB ((Dt.I x2 5) !=0)) (e35 J m dA [])))) else(jj J 0 11 0 (dB ((Dt.I x2 5) !=0)) (e35 J m dA []))))) else(bif ((Dt.I x2 0) !=34) then(bif (decide (0<(List.length (Dt.L x2 3):Int))) then(jj J 0 11 0 (dB true) (e35 J m dA [])) else(bif ((Dt.I x2 0) !=1) then((aF m (Dt.fld x2 4) kza2373).bind fun r5=>(bif (Bool.not r5) then(jj J 0 11 0 (dB true) (e35 J m dA [])) else(jj J 0 11 0 (dB ((Dt.I x2 5) !=0)) (e35 J m dA [])))) else(jj J 0 11 0 (dB ((Dt.I x2 5) !=0)) (e35 J m dA [])))) else(bif ((Dt.I x2 0) !=1) then((aF m (Dt.fld x2 4) kza2373).bind fun r6=>(bif (Bool.not r6) then(jj J 0 11 0 (dB true) (e35 J m dA [])) else(jj J 0 11 0 (dB ((Dt.I x2 5) !=0)) (e35 J m dA [])))) else(jj J 0 11 0 (dB ((Dt.I x2 5) !=0)) (e35 J m dA [])))))) else(bif (Bool.not x0) then(bif (Bool.not ((ByteArray.toList (Dt.S x2 2))==[])) then(jj J 0 11 0 (dB true) (e35 J m dA [])) else(bif ((Dt.I x2 0) !=34) then(bif (decide (0<(List.length (Dt.L x2 3):Int))) then(jj J 0 11 0 (dB true) (e35 J m dA [])) else(bif ((Dt.I x2 0) !=1) then((aF m (Dt.fld x2 4) kza2373).bind fun r7=>(bif (Bool.not r7) then(jj J 0 11 0 (dB true) (e35 J m dA [])) else(jj J 0 11 0 (dB ((Dt.I x2 5) !=0)) (e35 J m dA [])))) else(jj J 0 11 0 (dB ((Dt.I x2 5) !=0)) (e35 J m dA [])))) else(bif ((Dt.I x2 0) !=1) then((aF m (Dt.fld x2 4) kza2373).bind fun r8=>(bif (Bool.not r8) then(jj J 0 11 0 (dB true) (e35 J m dA [])) else(jj J 0 11 0 (dB ((Dt.I x2 5) !=0)) (e35 J m dA [])))) else(jj J 0 11 0 (dB ((Dt.I x2 5) !=0)) (e35 J m dA []))))) else(bif ((Dt.I x2 0) !=34) then(bif (decide (0<(List.length (Dt.L x2 3):Int))) then(jj J 0 11 0 (dB true) (e35 J m dA [])) else(bif ((Dt.I x2 0) !=1) then((aF m (Dt.fld x2 4) kza2373).bind fun r9=>(bif (Bool.not r9) then(jj J 0 11 0 (dB true) (e35 J m dA [])) else(jj J 0 11 0 (dB ((Dt.I x2 5) !=0)) (e35 J m dA [])))) else(jj J 0 11 0 (dB ((Dt.I x2 5) !=0)) (e35 J m dA [])))) else(bif ((Dt.I x2 0) !=1) then((aF m (Dt.fld x2 4) kza2373).bind fun r10=>(bif (Bool.not r10) then(jj J 0 11 0 (dB true) (e35 J m dA [])) else(jj J 0 11 0 (dB ((Dt.I x2 5) !=0)) (e35 J m dA [])))) else(jj J 0 11 0 (dB ((Dt.I x2 5) !=0)) (e35 J m dA [])))))) else(bif (Bool.not x0) then(bif (Bool.not ((ByteArray.toList (Dt.S x2 2))==[])) then(jj J 0 11 0 (dB true) (e35 J m dA [])) else(bif ((Dt.I x2 0) !=34) then(bif (decide (0<(List.length (Dt.L x2 3):Int))) then(jj J 0 11 0 (dB true) (e35 J m dA [])) else(bif ((Dt.I x2 0) !=1) then((aF m (Dt.fld x2 4) kza2373).bind fun r11=>(bif (Bool.not r11) then(jj J 0 11 0 (dB true) (e35 J m dA [])) else(jj J 0 11 0 (dB ((Dt.I x2 5) !=0)) (e35 J m dA [])))) else(jj J 0 11 0 (dB ((Dt.I x2 5) !=0)) (e35 J m dA [])))) else(bif ((Dt.I x2 0) !=1) then((aF m (Dt.fld x2 4) kza2373).bind fun r12=>(bif (Bool.not r12) then(jj J 0 11 0 (dB true) (e35 J m dA [])) else(jj J 0 11 0 (dB ((Dt.I x2 5) !=0)) (e35 J m dA [])))) else(jj J 0 11 0 (dB ((Dt.I x2 5) !=0)) (e35 J m dA []))))) else(bif ((Dt.I x2 0) !=34) then(bif (decide (0<(List.length (Dt.L x2 3):Int))) then(jj J 0 11 0 (dB true) (e35 J m dA [])) else(bif ((Dt.I x2 0) !=1) then((aF m (Dt.fld x2 4) kza2373).bind fun r13=>(bif (Bool.not r13) then(jj J 0 11 0 (dB true) (e35 J m dA [])) else(jj J 0 11 0 (dB ((Dt.I x2 5) !=0)) (e35 J m dA [])))) else(jj J 0 11 0 (dB ((Dt.I x2 5) !=0)) (e35 J m dA [])))) else(bif ((Dt.I x2 0) !=1) then((aF m (Dt.fld x2 4) kza2373).bind fun r14=>(bif (Bool.not r14) then(jj J 0 11 0 (dB true) (e35 J m dA [])) else(jj J 0 11 0 (dB ((Dt.I x2 5) !=0)) (e35 J m dA [])))) else(jj J 0 11 0 (dB ((Dt.I x2 5) !=0)) (e35 J m dA []))))))))) (by simp only[aj,GV m];rfl)
theorem GY m x0 x1 x2:e35 jn m QE [] (QF x0 x1 x2)=j3 m x0 x1 x2:=
 tq (g:=fun J=>(bif x1 then
  some 9
   else
  ((bif ((Dt.I x2 0)==1) then((eF m (Dt.fld x2 4)).bind fun r2=>(jj J 0 9 0 (afR x0 (Bool.not r2) x2) (e35 J m afQ []))) else(jj J 0 9 0 (afR x0 false x2) (e35 J m afQ [])))))) (by simp only[aj,GX m];rfl)
theorem GZ m x0 x1:e35 jn m [1,1,1,1] [] (aaV x0 x1)=ni m x0 x1:=
 tq (g:=fun J=>(bif x0 then
  ((fK m (Dt.S x1 2)).bind fun r1=>
  (bif (Bool.not r1) then
  (jj J 0 7 0 (QF x0 true x1) (e35 J m QE []))
  else
  (bif ((Dt.I x1 0)==34) then
  ((lG m (Dt.L x1 3)).bind fun r15=>
  (jj J 0 7 0 (QF x0 (Bool.not r15) x1) (e35 J m QE [])))
  else
  (jj J 0 7 0 (QF x0 false x1) (e35 J m QE [])))))
   else
  (bif ((Dt.I x1 0)==34) then
  ((lG m (Dt.L x1 3)).bind fun r16=>
  (jj J 0 7 0 (QF x0 (Bool.not r16) x1) (e35 J m QE [])))
  else
  (jj J 0 7 0 (QF x0 false x1) (e35 J m QE []))))) (by simp only[aj,GY m];rfl)
theorem G5 m x0 x1:e35 jn m [1,1,0,1] [] (Jv x0 x1)=gy m x0 x1:=
 tq (g:=fun J=>(bif x0 then
  some 10
   else
  ((bif ((Dt.I x1 0)==3) then(jj J 0 6 0 (aaV true x1) (e35 J m [1,1,1,1] [])) else(bif ((Dt.I x1 0)==32) then(jj J 0 6 0 (aaV true x1) (e35 J m [1,1,1,1] [])) else(jj J 0 6 0 (aaV ((Dt.I x1 0)==33) x1) (e35 J m [1,1,1,1] []))))))) (by simp only[aj,GZ m];rfl)
theorem G6 m x0 x1:e35 jn m [1,0,1] [] (Db x0 x1)=dM m x0 x1:=
 tq (g:=fun J=>(bif x0 then
  some 11
   else
  ((bif ((Dt.I x1 0)==2) then((gF m (Dt.L x1 1)).bind fun r0=>(bif (Bool.not r0) then(jj J 0 4 0 (Jv true x1) (e35 J m [1,1,0,1] [])) else(bif ((Dt.I x1 0)==3) then(bif (decide (0<(List.length (Dt.L x1 1):Int))) then((gF m (Dt.L x1 1)).bind fun r17=>(jj J 0 4 0 (Jv (Bool.not r17) x1) (e35 J m [1,1,0,1] []))) else(jj J 0 4 0 (Jv false x1) (e35 J m [1,1,0,1] []))) else(jj J 0 4 0 (Jv false x1) (e35 J m [1,1,0,1] []))))) else(bif ((Dt.I x1 0)==3) then(bif (decide (0<(List.length (Dt.L x1 1):Int))) then((gF m (Dt.L x1 1)).bind fun r18=>(jj J 0 4 0 (Jv (Bool.not r18) x1) (e35 J m [1,1,0,1] []))) else(jj J 0 4 0 (Jv false x1) (e35 J m [1,1,0,1] []))) else(jj J 0 4 0 (Jv false x1) (e35 J m [1,1,0,1] []))))))) (by simp only[aj,G5 m];rfl)
theorem OG m a0:e35 jn m [] [] ⟨[.dat 29 a0],[],0⟩=pV (m+1) a0:=
 tq (g:=fun J=>(bif (decide ((Dt.I a0 0)<1)) then
  (jj J 0 2 0 (Db true a0) (e35 J m [1,0,1] []))
   else
  (bif (decide (37<(Dt.I a0 0))) then
  (jj J 0 2 0 (Db true a0) (e35 J m [1,0,1] []))
  else
  ((nO m (Dt.I a0 0)).bind fun r19=>
  (bif (decide (0≤r19)) then
  ((nO m (Dt.I a0 0)).bind fun r20=>
  (bif ((List.length (Dt.L a0 6):Int) !=r20) then
  (jj J 0 2 0 (Db true a0) (e35 J m [1,0,1] []))
  else
  (bif ((Dt.I a0 0)==34) then
  (bif ((List.length (Dt.L a0 6):Int) !=(List.length (Dt.L a0 3):Int)) then
  (jj J 0 2 0 (Db true a0) (e35 J m [1,0,1] []))
  else
  (jj J 0 2 0 (Db ((List.length (Dt.L a0 6):Int)==0) a0) (e35 J m [1,0,1] [])))
  else
  (jj J 0 2 0 (Db false a0) (e35 J m [1,0,1] [])))))
  else
  (bif ((Dt.I a0 0)==34) then
  (bif ((List.length (Dt.L a0 6):Int) !=(List.length (Dt.L a0 3):Int)) then
  (jj J 0 2 0 (Db true a0) (e35 J m [1,0,1] []))
  else
  (jj J 0 2 0 (Db ((List.length (Dt.L a0 6):Int)==0) a0) (e35 J m [1,0,1] [])))
  else
  (jj J 0 2 0 (Db false a0) (e35 J m [1,0,1] [])))))))) (by simp only[aj,G6 m];rfl)
def afS:List Nat:=[1,1,1,0,1,0]
def e23 (J:Q30) (m:Nat):=evAt Tryz.prog env (ct m) J (m+1) 34 51 Tryz.f34 d23
def l23 (J:Q30) (m:Nat):=loopAt Tryz.prog env (ct m) J (m+1) 34 51 Tryz.f34 d23
def afT (x0 x1 x2:Int) (x3:Dt):St:=⟨tsOf [(1,.dat 3 (.int x0)),(2,.dat 3 (.int x1)),(3,.ptr 0 [] 0),(9,.dat 3 (.int x2))],[.box 29 (.dat 29 x3)],0⟩
def afU (x0 x1:Int) (x2:Bool) (x3:Dt):St:=⟨tsOf [(1,.dat 3 (.int x0)),(2,.dat 3 (.int x1)),(3,.ptr 0 [] 0),(17,.dat 4 (.bool x2))],[.box 29 (.dat 29 x3)],0⟩
theorem wL m:∀M4 x0 x1 x2 x3,l23 jn m afS [] M4 (afT x0 x1 x2 x3)=kQ m (dL m) M4 x0 x1 x2 x3
 |0,_,_,_,_=>rfl
 | M4+1,x0,x1,x2,x3=>
   tl (g:=fun J=>(bif (decide (x2<(List.length (Dt.L x3 6):Int))) then
  (((idx (Dt.L x3 6) x2).bind fun v1=>((dL m v1 (IntKind.wrap .i64 (x0+1)) (IntKind.wrap .i64 (x1+1))).bind fun r2=>(bif (r2.2 !=0) then some (r2.1,r2.2) else(((jj J 1 7 M4 (afT r2.1 x1 (IntKind.wrap .i64 (x2+1)) x3) (l23 J m afS [] M4))))))))
   else
  (some (x0,0)))) (by simp only[aj,(wL m M4)];rfl)
theorem Fg m x0 x1 x2 x3:e23 jn m [1,0,1] [] (afU x0 x1 x2 x3)=qy m (dL m) x0 x1 x2 x3:=
 tq (g:=fun J=>(bif x2 then
  some (x0,2)
   else
  (((pV m x3).bind fun r0=>(bif (r0 !=0) then some (x0,r0) else(((jj J 1 7 (Nat.succ m) (afT x0 x1 0 x3) (l23 J m afS [] (Nat.succ m)))))))))) (by simp only[aj,wL m];rfl)
theorem LP m a0 a1 a2:e23 jn m [] [] ⟨[.dat 29 a0,.dat 3 (.int a1),.dat 3 (.int a2)],[],0⟩=dL (m+1) a0 a1 a2:=
 tq (g:=fun J=>(bif (decide (16<a2)) then
  (jj J 0 2 0 (afU a1 a2 true a0) (e23 J m [1,0,1] []))
   else
  (jj J 0 2 0 (afU a1 a2 (decide (256<a1)) a0) (e23 J m [1,0,1] [])))) (by simp only[aj,Fg m];rfl)
def e6 (J:Q2) (m:Nat):=evAt Tryz.prog env (ct m) J (m+1) 9 11 Tryz.f9 d35
theorem LQ m a0:e6 jn m [] [] ⟨[.dat 29 a0],[],0⟩=iH (m+1) a0:=
 tq (g:=fun J=>((dL m a0 1 1).bind fun r0=>
  some r0.2)) (by rfl)
def aaW:List Nat:=[1,1,0,1,0]
def apd:List Nat:=[1,1,0,1,0,0,1,1]
def aaX:List Nat:=apd++[0,0,1,1]
def e99 (J:Q1) (m:Nat):=evAt Tryz.prog env (ct m) J (m+1) 198 39 Tryz.f198 d5
def l99 (J:Q1) (m:Nat):=loopAt Tryz.prog env (ct m) J (m+1) 198 39 Tryz.f198 d5
def aaY (x0:ByteArray) (x1 x2:Int):St:=⟨tsOf [(0,.dat 9 (.str x0)),(18,.dat 3 (.int x1)),(19,.dat 3 (.int x2))],[],0⟩
def aaZ (x0:ByteArray) (x1 x2:Int) (x3:Bool):St:=⟨tsOf [(0,.dat 9 (.str x0)),(18,.dat 3 (.int x1)),(19,.dat 3 (.int x2)),(37,.dat 4 (.bool x3))],[],0⟩
def aa0 (x0:ByteArray) (x1:Bool):St:=⟨tsOf [(0,.dat 9 (.str x0)),(16,.dat 4 (.bool x1))],[],0⟩
abbrev ape (m M3:Nat) (rec3:Q29):Prop:=∀x0 x1 x2,l99 jn m aaW [] M3 (aaY x0 x1 x2)=rec3 x0 x1 x2
theorem DU m M3 rec3 (h3:ape m M3 rec3) x0 x1 x2 x3:e99 jn m aaX [M3] (aaZ x0 x1 x2 x3)=mD m rec3 x0 x1 x2 x3:=
 tq (g:=fun J=>(bif x3 then
  some true
   else
  ((jj J 1 4 M3 (aaY x0 x1 (IntKind.wrap .i64 (x2+1))) (l99 J m aaW [] M3))))) (by simp only[aj,h3];rfl)
theorem vw m:∀M3 x0 x1 x2,l99 jn m aaW [] M3 (aaY x0 x1 x2)=dQ m M3 x0 x1 x2
 |0,_,_,_=>rfl
 | M3+1,x0,x1,x2=>
   tl (g:=fun J=>(bif (decide (x2<x1)) then
  (((idxS x0 x2).bind fun v0=>(bif (decide (v0<33)) then(jj J 0 7 0 (aaZ x0 x1 x2 true) (e99 J m aaX [M3])) else((idxS x0 x2).bind fun v1=>(bif (decide (126<v1)) then(jj J 0 7 0 (aaZ x0 x1 x2 true) (e99 J m aaX [M3])) else((idxS x0 x2).bind fun v2=>(jj J 0 7 0 (aaZ x0 x1 x2 (v2==46)) (e99 J m aaX [M3]))))))))
   else
  (some false))) (by simp only[aj,DU m M3 (dQ m M3) (vw m M3)];rfl)
theorem DV m x0 x1:e99 jn m [1,0,1] [] (aa0 x0 x1)=mE m x0 x1:=
 tq (g:=fun J=>(bif x1 then
  some true
   else
  (((jj J 1 4 (Nat.succ m) (aaY x0 (ByteArray.size x0:Int) 0) (l99 J m aaW [] (Nat.succ m))))))) (by simp only[aj,vw m];rfl)
theorem JV m a0:e99 jn m [] [] ⟨[.dat 9 (.str a0)],[],0⟩=lW (m+1) a0:=
 tq (g:=fun J=>(bif (decide ((ByteArray.size a0:Int)<1)) then
  (jj J 0 2 0 (aa0 a0 true) (e99 J m [1,0,1] []))
   else
  (bif (decide (32<(ByteArray.size a0:Int))) then
  (jj J 0 2 0 (aa0 a0 true) (e99 J m [1,0,1] []))
  else
  ((idxS a0 0).bind fun v3=>
  (jj J 0 2 0 (aa0 a0 (v3==36)) (e99 J m [1,0,1] [])))))) (by simp only[aj,DV m];rfl)
def e98 (J:Q2) (m:Nat):=evAt Tryz.prog env (ct m) J (m+1) 230 19 Tryz.f230 d31
def l98 (J:Q2) (m:Nat):=loopAt Tryz.prog env (ct m) J (m+1) 230 19 Tryz.f230 d31
def afV (x0:List Dt) (x1 x2:Int):St:=⟨tsOf [(0,.dat 22 (.lst x0)),(1,.fn 198 []),(7,.dat 3 (.int x1)),(8,.dat 3 (.int x2))],[],0⟩
theorem QG m:∀M1 x0 x1 x2,l98 jn m [1,0,1,0] [] M1 (afV x0 x1 x2)=Gr m M1 x0 x1 x2
 |0,_,_,_=>rfl
 | M1+1,x0,x1,x2=>
   tl (g:=fun J=>(bif (decide (x2<x1)) then
  (((idx x0 x2).bind fun v0=>((lW m (Dt.toStr v0)).bind fun r1=>(bif r1 then some x2 else((jj J 1 2 M1 (afV x0 x1 (IntKind.wrap .i64 (x2+1))) (l98 J m [1,0,1,0] [] M1)))))))
   else
  (some (-1)))) (by simp only[aj,(QG m M1)];rfl)
theorem amb m a0:e98 jn m [] [] ⟨[.dat 22 (.lst a0),.fn 198 []],[],0⟩=i98 (m+1) a0:=
 tq (g:=fun J=>((jj J 1 2 (Nat.succ m) (afV a0 (List.length a0:Int) 0) (l98 J m [1,0,1,0] [] (Nat.succ m))))) (by simp only[aj,QG m];rfl)
def e97 (J:Q1) (m:Nat):=evAt Tryz.prog env (ct m) J (m+1) 197 9 Tryz.f197 d5
theorem amc m a0:e97 jn m [] [] ⟨[.dat 22 (.lst a0),.fn 198 []],[],0⟩=i97 (m+1) a0:=
 tq (g:=fun J=>((i98 m a0).bind fun r0=>
  some (decide (0≤r0)))) (by rfl)
def e58 (J:Q1) (m:Nat):=evAt Tryz.prog env (ct m) J (m+1) 147 16 Tryz.f147 d5
theorem OH m a0:e58 jn m [] [] ⟨[.dat 22 (.lst a0)],[],0⟩=lX (m+1) a0:=
 tq (g:=fun J=>(bif (decide (1≤(List.length a0:Int))) then
  (bif (decide ((List.length a0:Int)≤16)) then
  ((i97 m a0).bind fun r0=>
  some (Bool.not r0))
  else
  some false)
   else
  some false)) (by rfl)
def e59 (J:Q1) (m:Nat):=evAt Tryz.prog env (ct m) J (m+1) 206 6 Tryz.f206 d5
theorem LU m a0:e59 jn m [] [] ⟨[.dat 9 (.str a0)],[],0⟩=jE (m+1) a0:=
 tq (g:=fun J=>((lX m [(Dt.str a0)]).bind fun r0=>
  some r0)) (by rfl)
def aa1:List Nat:=[1,1,0,1,0]
def apf:List Nat:=[1,1,0,1,0,0,1,1]
def afW:List Nat:=apf++[0,0,1,0,1]
def e61 (J:Q1) (m:Nat):=evAt Tryz.prog env (ct m) J (m+1) 207 24 Tryz.f207 d5
def l61 (J:Q1) (m:Nat):=loopAt Tryz.prog env (ct m) J (m+1) 207 24 Tryz.f207 d5
def aa2 (x0:List Dt) (x1 x2:Int) (x3:List Dt):St:=⟨tsOf [(3,.row 0),(7,.dat 22 (.lst x0)),(8,.dat 3 (.int x1)),(9,.dat 3 (.int x2))],[(.map 223 x3)],0⟩
def afX (x0:ByteArray) (x1:List Dt) (x2 x3:Int) (x4:Bool) (x5:List Dt):St:=⟨tsOf [(3,.row 0),(5,.dat 9 (.str x0)),(7,.dat 22 (.lst x1)),(8,.dat 3 (.int x2)),(9,.dat 3 (.int x3)),(20,.dat 4 (.bool x4))],[(.map 223 x5)],0⟩
abbrev apg (m M1:Nat) (rec1:Q23):Prop:=∀x0 x1 x2 x3,l61 jn m aa1 [] M1 (aa2 x0 x1 x2 x3)=rec1 x0 x1 x2 x3
theorem xZ m M1 rec1 (h1:apg m M1 rec1) x0 x1 x2 x3 x4 x5:e61 jn m afW [M1] (afX x0 x1 x2 x3 x4 x5)=jm m rec1 x0 x1 x2 x3 x4 x5:=
 tq (g:=fun J=>(bif x4 then
  some false
   else
  (((jj J 1 3 M1 (aa2 x1 x2 (IntKind.wrap .i64 (x3+1)) (mput x5 x0 (Dt.bool true))) (l61 J m aa1 [] M1)))))) (by simp only[aj,h1];rfl)
theorem o9 m:∀M1 x0 x1 x2 x3,l61 jn m aa1 [] M1 (aa2 x0 x1 x2 x3)=cB m M1 x0 x1 x2 x3
 |0,_,_,_,_=>rfl
 | M1+1,x0,x1,x2,x3=>
   tl (g:=fun J=>(bif (decide (x2<x1)) then
  (((idx x0 x2).bind fun v0=>((jE m (Dt.toStr v0)).bind fun r1=>(bif (Bool.not r1) then(jj J 0 6 0 (afX (Dt.toStr v0) x0 x1 x2 true x3) (e61 J m afW [M1])) else(jj J 0 6 0 (afX (Dt.toStr v0) x0 x1 x2 (Dt.toBool (mgetD x3 (Dt.toStr v0) (Dt.bool false))) x3) (e61 J m afW [M1]))))))
   else
  (some true))) (by simp only[aj,xZ m M1 (cB m M1) (o9 m M1)];rfl)
theorem z8 m a0:e61 jn m [] [] ⟨[.dat 22 (.lst a0)],[],0⟩=dh (m+1) a0:=
 tq (g:=fun J=>((jj J 1 3 (Nat.succ m) (aa2 a0 (List.length a0:Int) 0 []) (l61 J m aa1 [] (Nat.succ m))))) (by simp only[aj,o9 m];rfl)
def e100 (J:Q0) (m:Nat):=evAt Tryz.prog env (ct m) J (m+1) 209 8 Tryz.f209 d16
theorem LV m a0:e100 jn m [] [] ⟨[.dat 26 a0],[],0⟩=fD (m+1) a0:=
 tq (g:=fun J=>(bif ((Dt.I a0 0)==0) then
  ((aT m).bind fun r0=>
  some r0)
   else
  (some a0))) (by rfl)
def VY:List Nat:=[1,1,1,0,1,0]
def aph:List Nat:=[1,0,1,0,1,0,1]
def afY:List Nat:=aph++[0]
def apj:List Nat:=VY++[0,1,1]
def afZ:List Nat:=apj++[1]
def e73 (J:Q0) (m:Nat):=evAt Tryz.prog env (ct m) J (m+1) 168 55 Tryz.f168 d16
def l73 (J:Q0) (m:Nat):=loopAt Tryz.prog env (ct m) J (m+1) 168 55 Tryz.f168 d16
def af0 (x0:List Dt) (x1 x2:Int) (x3:Dt) (x4 x5:Int) (x6:ByteArray) (x7 x8:List Dt):St:=⟨tsOf [(4,.ptr 0 [] 0),(5,.ptr 1 [] 0),(15,.dat 23 (.lst x0)),(16,.dat 3 (.int x1)),(17,.dat 3 (.int x2))],[.box 26 (.dat 26 x3),.box 26 (.agg 26 [.dat 3 (.int x4),.dat 3 (.int x5),.dat 9 (.str x6),.row 2,.row 3]),.row 23 x7,.row 24 x8],0⟩
def LX (x0:List Dt) (x1 x2:Int) (x3 x4:Dt) (x5 x6:Int) (x7:ByteArray) (x8 x9:List Dt):St:=⟨tsOf [(2,.ptr 0 [] 0),(4,.ptr 1 [] 0),(8,.ptr 2 [] 0),(31,.dat 23 (.lst x0)),(32,.dat 3 (.int x1)),(33,.dat 3 (.int x2))],[.box 29 (.dat 29 x3),.box 26 (.dat 26 x4),.box 26 (.agg 26 [.dat 3 (.int x5),.dat 3 (.int x6),.dat 9 (.str x7),.row 3,.row 4]),.row 23 x8,.row 24 x9],0⟩
theorem qV m:∀M1 x0 x1 x2 x3 x4 x5 x6 x7 x8,l73 jn m afY [] M1 (af0 x0 x1 x2 x3 x4 x5 x6 x7 x8)=iV m M1 x0 x1 x2 x3 x4 x5 x6 x7 x8
 |0,_,_,_,_,_,_,_,_,_=>rfl
 | M1+1,x0,x1,x2,x3,x4,x5,x6,x7,x8=>
   tl (g:=fun J=>(bif (decide (x2<x1)) then
  (((idx x0 x2).bind fun v0=>((fD m v0).bind fun r1=>((app x7 [r1]).bind fun v2=>((jj J 1 4 M1 (af0 x0 x1 (IntKind.wrap .i64 (x2+1)) x3 x4 x5 x6 v2 x8) (l73 J m afY [] M1)))))))
   else
  (some (Dt.agg [(Dt.int x4),(Dt.int x5),(Dt.str x6),(Dt.lst x7),(Dt.lst x8)])))) (by simp only[aj,(qV m M1)];rfl)
abbrev apk (m M7:Nat) (rec7:Q35):Prop:=∀x0 x1 x2 x3 x4 x5 x6 x7 x8 x9,l73 jn m VY [] M7 (LX x0 x1 x2 x3 x4 x5 x6 x7 x8 x9)=rec7 x0 x1 x2 x3 x4 x5 x6 x7 x8 x9
theorem Aa m M7 rec7 (h7:apk m M7 rec7) x0 x1 x2 x3 x4 x5 x6 x7 x8 x9:e73 jn m afZ [M7] (LX x0 x1 x2 x3 x4 x5 x6 x7 x8 x9)=lY m rec7 x0 x1 x2 x3 x4 x5 x6 x7 x8 x9:=
 tq (g:=fun J=>(jj J 1 11 M7 (LX x0 x1 (IntKind.wrap .i64 (x2+1)) x3 x4 x5 x6 x7 x8 x9) (l73 J m VY [] M7))) (by simp only[aj,h7];rfl)
theorem qW m:∀M7 x0 x1 x2 x3 x4 x5 x6 x7 x8 x9,l73 jn m VY [] M7 (LX x0 x1 x2 x3 x4 x5 x6 x7 x8 x9)=dZ m M7 x0 x1 x2 x3 x4 x5 x6 x7 x8 x9
 |0,_,_,_,_,_,_,_,_,_,_=>rfl
 | M7+1,x0,x1,x2,x3,x4,x5,x6,x7,x8,x9=>
   tl (g:=fun J=>(bif (decide (x2<x1)) then
  (((idx x0 x2).bind fun v3=>(bif ((Dt.I v3 0) !=0) then((idx (Dt.L x3 3) x2).bind fun v4=>((app x9 [(Dt.agg [(Dt.str (Dt.toStr v4)),v3])]).bind fun v5=>(jj J 0 15 0 (LX x0 x1 x2 x3 x4 x5 x6 x7 x8 v5) (e73 J m afZ [M7])))) else(jj J 0 15 0 (LX x0 x1 x2 x3 x4 x5 x6 x7 x8 x9) (e73 J m afZ [M7])))))
   else
  (some (Dt.agg [(Dt.int x5),(Dt.int x6),(Dt.str x7),(Dt.lst x8),(Dt.lst x9)])))) (by simp only[aj,Aa m M7 (dZ m M7) (qW m M7)];rfl)
theorem DW m a0 a1:e73 jn m [] [] ⟨[.dat 29 a0,.dat 23 (.lst a1)],[],0⟩=bY (m+1) a0 a1:=
 tq (g:=fun J=>(bif ((Dt.I a0 0)==35) then
  ((jj J 1 4 (Nat.succ m) (af0 a1 (List.length a1:Int) 0 kza2373 6 0 (ByteArray.mk (List.toArray [])) [] []) (l73 J m afY [] (Nat.succ m))))
   else
  (((jj J 1 11 (Nat.succ m) (LX a1 (List.length a1:Int) 0 a0 kza2373 5 0 (ByteArray.mk (List.toArray [])) [] []) (l73 J m VY [] (Nat.succ m))))))) (by simp only[aj,qV m,qW m];rfl)
def YO:List Nat:=[1,0,1,0,1]
def YP:List Nat:=[1,0,1,0,1,1,1]
def YQ (J:Q1) (m:Nat):=evAt Tryz.prog env (ct m) J (m+1) 210 14 Tryz.f210 d5
def YR (x0:Bool) (x1:Dt):St:=⟨tsOf [(1,.ptr 0 [] 0),(8,.dat 4 (.bool x0))],[.box 26 (.dat 26 x1)],0⟩
def YS (x0:Int) (x1:Bool) (x2:Dt):St:=⟨tsOf [(1,.ptr 0 [] 0),(4,.dat 3 (.int x0)),(5,.dat 4 (.bool x1))],[.box 26 (.dat 26 x2)],0⟩
theorem Fh m x0 x1:YQ jn m YP [] (YR x0 x1)=qz m x0 x1:=
 tq (g:=fun J=>(bif x0 then
  some ((Dt.I x1 1) !=0)
   else
  (some true))) (by rfl)
theorem Fj m x0 x1 x2:YQ jn m YO [] (YS x0 x1 x2)=qA m x0 x1 x2:=
 tq (g:=fun J=>(bif x1 then
  some false
   else
  (bif (x0==9) then
  (jj J 0 7 0 (YR (x0==9) x2) (YQ J m YP []))
  else
  (jj J 0 7 0 (YR (x0==3) x2) (YQ J m YP []))))) (by simp only[aj,Fh m];rfl)
theorem LY m a0:YQ jn m [] [] ⟨[.dat 26 a0],[],0⟩=bS (m+1) a0:=
 tq (g:=fun J=>(bif ((Dt.I a0 0)==0) then
  (jj J 0 4 0 (YS (Dt.I a0 0) ((Dt.I a0 0)==0) a0) (YQ J m YO []))
   else
  (jj J 0 4 0 (YS (Dt.I a0 0) ((Dt.I a0 0)==2) a0) (YQ J m YO [])))) (by simp only[aj,Fj m];rfl)
def ajK (J:Q2) (m:Nat):=evAt Tryz.prog env (ct m) J (m+1) 211 23 Tryz.f211 d31
def YT (x0:Int) (x1:Bool):St:=⟨tsOf [(5,.dat 3 (.int x0)),(19,.dat 4 (.bool x1))],[],0⟩
theorem Cx m x0 x1:ajK jn m [1,1,0,1] [] (YT x0 x1)=kR m x0 x1:=
 tq (g:=fun J=>(bif x1 then
  (some (IntKind.wrap .i64 (x0-1)))
   else
  (some x0))) (by rfl)
theorem G7 m a0 a1:ajK jn m [] [] ⟨[.dat 3 (.int a0),.dat 3 (.int a1)],[],0⟩=gB (m+1) a0 a1:=
 tq (g:=fun J=>(bif (decide (a1=0)) then
  none
   else
  (bif (decide (a1=0)) then
  none
  else
  (bif ((Int.tmod a0 a1) !=0) then
  (jj J 0 3 0 (YT (IntKind.wrap .i64 (Int.tdiv a0 a1)) (Bool.not ((decide (a0<0))==(decide (a1<0))))) (ajK J m [1,1,0,1] []))
  else
  (jj J 0 3 0 (YT (IntKind.wrap .i64 (Int.tdiv a0 a1)) false) (ajK J m [1,1,0,1] [])))))) (by simp only[aj,Cx m];rfl)
def af2:List Nat:=[1,1,0,1,0]
def amd:List Nat:=[1,1,1,1,0,1,0,0,0,1]
def apl:List Nat:=[1,1,1,1,0,1,0,0,0,0,0,1]
def ame:List Nat:=amd++[0,1,1]
def apm:List Nat:=apl++[0,1]
def YU:List Nat:=ame++[0]
def aa3:List Nat:=apm++[0]
def e66 (J:Q0) (m:Nat):=evAt Tryz.prog env (ct m) J (m+1) 161 91 Tryz.f161 d16
def l66 (J:Q0) (m:Nat):=loopAt Tryz.prog env (ct m) J (m+1) 161 91 Tryz.f161 d16
def af3 (x0:Int) (x1:List Dt) (x2 x3:Int) (x4:Dt) (x5:List Dt):St:=⟨tsOf [(0,.dat 3 (.int x0)),(4,.ptr 0 [] 0),(5,.row 1),(16,.dat 23 (.lst x1)),(17,.dat 3 (.int x2)),(18,.dat 3 (.int x3))],[.box 26 (.dat 26 x4),.row 75 x5],0⟩
def Tg (x0:Int) (x1:List Dt) (x2 x3:Int) (x4:Dt):St:=⟨tsOf [(4,.ptr 0 [] 0),(8,.dat 3 (.int x0)),(46,.dat 75 (.lst x1)),(47,.dat 3 (.int x2)),(48,.dat 3 (.int x3))],[.box 26 (.dat 26 x4)],0⟩
def YV (x0:Int) (x1:List Dt) (x2 x3:Int) (x4:Dt):St:=⟨tsOf [(4,.ptr 0 [] 0),(8,.dat 3 (.int x0)),(56,.dat 75 (.lst x1)),(57,.dat 3 (.int x2)),(58,.dat 3 (.int x3))],[.box 26 (.dat 26 x4)],0⟩
theorem qX m:∀M9 x0 x1 x2 x3 x4,l66 jn m aa3 [] M9 (Tg x0 x1 x2 x3 x4)=fO m M9 x0 x1 x2 x3 x4
 |0,_,_,_,_,_=>rfl
 | M9+1,x0,x1,x2,x3,x4=>
   tl (g:=fun J=>(bif (decide (x3<x2)) then
  (((idx x1 x3).bind fun v9=>((jj J 1 16 M9 (Tg (IntKind.wrap .i64 (x0+(Dt.toInt v9))) x1 x2 (IntKind.wrap .i64 (x3+1)) x4) (l66 J m aa3 [] M9)))))
   else
  (((aN m x0).bind fun r10=>some r10)))) (by simp only[aj,(qX m M9)];rfl)
theorem qL m:∀M17 x0 x1 x2 x3 x4,l66 jn m YU [] M17 (YV x0 x1 x2 x3 x4)=gZ m M17 x0 x1 x2 x3 x4
 |0,_,_,_,_,_=>rfl
 | M17+1,x0,x1,x2,x3,x4=>
   tl (g:=fun J=>(bif (decide (x3<x2)) then
  (((idx x1 x3).bind fun v11=>((jj J 1 22 M17 (YV (IntKind.wrap .i64 (x0*(Dt.toInt v11))) x1 x2 (IntKind.wrap .i64 (x3+1)) x4) (l66 J m YU [] M17)))))
   else
  (((aN m x0).bind fun r10=>some r10)))) (by simp only[aj,(qL m M17)];rfl)
theorem qY m:∀M1 x0 x1 x2 x3 x4 x5,l66 jn m af2 [] M1 (af3 x0 x1 x2 x3 x4 x5)=iW m M1 x0 x1 x2 x3 x4 x5
 |0,_,_,_,_,_,_=>rfl
 | M1+1,x0,x1,x2,x3,x4,x5=>
   tl (g:=fun J=>(bif (decide (x3<x2)) then
  (((idx x1 x3).bind fun v1=>(bif ((Dt.I v1 0) !=3) then((aT m).bind fun r2=>some r2) else(((inL x5 x3).bind fun v3=>((x5[(Int.toNat x3)]?).bind fun v4=>((jj J 1 3 M1 (af3 x0 x1 x2 (IntKind.wrap .i64 (x3+1)) x4 (List.set x5 (Int.toNat x3) (Dt.int (Dt.I v1 1)))) (l66 J m af2 [] M1)))))))))
   else
  ((bif (x0==5) then(((inL x5 1).bind fun v5=>((x5[1]?).bind fun v6=>((inL x5 1).bind fun v7=>((x5[1]?).bind fun v8=>(((jj J 1 16 (Nat.succ m) (Tg 0 (List.set x5 1 (Dt.int (IntKind.wrap .i64 (0-(Dt.toInt v6))))) (List.length (List.set x5 1 (Dt.int (IntKind.wrap .i64 (0-(Dt.toInt v6))))):Int) 0 x4) (l66 J m aa3 [] (Nat.succ m)))))))))) else((bif (x0==4) then(((jj J 1 16 (Nat.succ m) (Tg 0 x5 (List.length x5:Int) 0 x4) (l66 J m aa3 [] (Nat.succ m))))) else((bif (x0==6) then(((jj J 1 22 (Nat.succ m) (YV 1 x5 (List.length x5:Int) 0 x4) (l66 J m YU [] (Nat.succ m))))) else(((inL x5 1).bind fun v12=>((x5[1]?).bind fun v13=>(bif ((Dt.toInt v13)==0) then((aT m).bind fun r14=>some r14) else(((inL x5 0).bind fun v15=>((x5[0]?).bind fun v16=>((inL x5 1).bind fun v17=>((x5[1]?).bind fun v18=>((gB m (Dt.toInt v16) (Dt.toInt v18)).bind fun r19=>(bif (x0==8) then((inL x5 0).bind fun v20=>((x5[0]?).bind fun v21=>((inL x5 1).bind fun v22=>((x5[1]?).bind fun v23=>(((aN m (IntKind.wrap .i64 ((Dt.toInt v21)-(IntKind.wrap .i64 ((Dt.toInt v23)*r19))))).bind fun r10=>some r10)))))) else(((aN m r19).bind fun r10=>some r10))))))))))))))))))))) (by simp only[aj,(qY m M1),qX m,qL m];rfl)
theorem DX m a0 a1:e66 jn m [] [] ⟨[.dat 3 (.int a0),.dat 23 (.lst a1)],[],0⟩=bM (m+1) a0 a1:=
 tq (g:=fun J=>((mkL (List.length a1:Int) (List.length a1:Int) (Dt.int 0)).bind fun v0=>
  ((jj J 1 3 (Nat.succ m) (af3 a0 a1 (List.length a1:Int) 0 kza2373 v0) (l66 J m af2 [] (Nat.succ m)))))) (by simp only[aj,qY m];rfl)
def aqX (J:Q0) (m:Nat):=evAt Tryz.prog env (ct m) J (m+1) 212 6 Tryz.f212 d16
theorem JW m a0:aqX jn m [] [] ⟨[.dat 4 (.bool a0)],[],0⟩=aQ (m+1) a0:=
 tq (g:=fun J=>(bif a0 then
  some Kz
   else
  (some Ky))) (by rfl)
def e67 (J:Q0) (m:Nat):=evAt Tryz.prog env (ct m) J (m+1) 162 38 Tryz.f162 d16
theorem DY m a0 a1:e67 jn m [] [] ⟨[.dat 3 (.int a0),.dat 3 (.int a1)],[],0⟩=gV (m+1) a0 a1:=
 tq (g:=fun J=>(bif (a0==10) then
  ((aQ m (a1==0)).bind fun r0=>
  some r0)
   else
  (bif (a0==11) then
  ((aQ m (a1 !=0)).bind fun r1=>
  some r1)
  else
  (bif (a0==12) then
  ((aQ m (decide (0<a1))).bind fun r2=>
  some r2)
  else
  (bif (a0==13) then
  ((aQ m (decide (0≤a1))).bind fun r3=>
  some r3)
  else
  (bif (a0==14) then
  ((aQ m (decide (a1<0))).bind fun r4=>
  some r4)
  else
  (bif (a0==15) then
  ((aQ m (decide (a1≤0))).bind fun r5=>
  some r5)
  else
  (((aN m a1).bind fun r6=>some r6))))))))) (by rfl)
def QH:List Nat:=[1,1,1,0,1,0]
def apn:List Nat:=QH++[0,1,1]
def af4:List Nat:=apn++[0,0,1,1]
def e68 (J:Q0) (m:Nat):=evAt Tryz.prog env (ct m) J (m+1) 163 67 Tryz.f163 d16
def l68 (J:Q0) (m:Nat):=loopAt Tryz.prog env (ct m) J (m+1) 163 67 Tryz.f163 d16
def VZ (x0:Int) (x1 x2:Bool) (x3:List Dt) (x4 x5:Int) (x6:Dt):St:=⟨tsOf [(0,.dat 3 (.int x0)),(4,.ptr 0 [] 0),(5,.dat 4 (.bool x1)),(6,.dat 4 (.bool x2)),(44,.dat 23 (.lst x3)),(45,.dat 3 (.int x4)),(46,.dat 3 (.int x5))],[.box 26 (.dat 26 x6)],0⟩
def af5 (x0:Int) (x1 x2:Bool) (x3:List Dt) (x4 x5:Int) (x6 x7:Dt):St:=⟨tsOf [(0,.dat 3 (.int x0)),(4,.ptr 0 [] 0),(5,.dat 4 (.bool x1)),(6,.dat 4 (.bool x2)),(8,.ptr 1 [] 0),(44,.dat 23 (.lst x3)),(45,.dat 3 (.int x4)),(46,.dat 3 (.int x5))],[.box 26 (.dat 26 x6),.box 26 (.dat 26 x7)],0⟩
abbrev apo (m M4:Nat) (rec4:Q46):Prop:=∀x0 x1 x2 x3 x4 x5 x6,l68 jn m QH [] M4 (VZ x0 x1 x2 x3 x4 x5 x6)=rec4 x0 x1 x2 x3 x4 x5 x6
theorem G8 m M4 rec4 (h4:apo m M4 rec4) x0 x1 x2 x3 x4 x5 x6 x7:e68 jn m af4 [M4] (af5 x0 x1 x2 x3 x4 x5 x6 x7)=sM m rec4 x0 x1 x2 x3 x4 x5 x6 x7:=
 tq (g:=fun J=>(bif x2 then
  ((jj J 1 14 M4 (VZ x0 x1 true x3 x4 (IntKind.wrap .i64 (x5+1)) x6) (l68 J m QH [] M4)))
   else
  ((bS m x7).bind fun r13=>
  ((jj J 1 14 M4 (VZ x0 x1 r13 x3 x4 (IntKind.wrap .i64 (x5+1)) x6) (l68 J m QH [] M4)))))) (by simp only[aj,h4];rfl)
theorem yJ m:∀M4 x0 x1 x2 x3 x4 x5 x6,l68 jn m QH [] M4 (VZ x0 x1 x2 x3 x4 x5 x6)=j4 m M4 x0 x1 x2 x3 x4 x5 x6
 |0,_,_,_,_,_,_,_=>rfl
 | M4+1,x0,x1,x2,x3,x4,x5,x6=>
   tl (g:=fun J=>(bif (decide (x5<x4)) then
  (((idx x3 x5).bind fun v11=>(bif x1 then((bS m v11).bind fun r12=>(jj J 0 17 0 (af5 x0 r12 x2 x3 x4 x5 x6 v11) (e68 J m af4 [M4]))) else(jj J 0 17 0 (af5 x0 false x2 x3 x4 x5 x6 v11) (e68 J m af4 [M4])))))
   else
  ((bif (x0==16) then((aQ m x1).bind fun r14=>some r14) else(((aQ m x2).bind fun r15=>some r15)))))) (by simp only[aj,G8 m M4 (j4 m M4) (yJ m M4)];rfl)
theorem OI m a0 a1:e68 jn m [] [] ⟨[.dat 3 (.int a0),.dat 23 (.lst a1)],[],0⟩=eU (m+1) a0 a1:=
 tq (g:=fun J=>(bif (a0==18) then
  ((idx a1 0).bind fun v0=>
  ((bS m v0).bind fun r1=>
  ((aQ m (Bool.not r1)).bind fun r2=>
  some r2)))
   else
  (bif (a0==19) then
  ((idx a1 0).bind fun v3=>
  ((bS m v3).bind fun r4=>
  (bif r4 then
  ((idx a1 1).bind fun v5=>
  some v5)
  else
  (((idx a1 2).bind fun v6=>some v6)))))
  else
  (bif (a0==20) then
  ((idx a1 0).bind fun v7=>
  ((fD m v7).bind fun r8=>
  (bif ((Dt.I r8 0)==2) then
  ((idx a1 1).bind fun v9=>
  some v9)
  else
  (((idx a1 0).bind fun v10=>some v10)))))
  else
  (((jj J 1 14 (Nat.succ m) (VZ a0 true false a1 (List.length a1:Int) 0 kza2373) (l68 J m QH [] (Nat.succ m))))))))) (by simp only[aj,yJ m];rfl)
def aqY (J:Q1) (m:Nat):=evAt Tryz.prog env (ct m) J (m+1) 141 9 Tryz.f141 d5
theorem LZ m a0 a1:aqY jn m [] [] ⟨[.dat 26 a0,.dat 26 a1],[],0⟩=iI (m+1) a0 a1:=
 tq (g:=fun J=>((ay m a0 a1).bind fun r0=>
  some (r0==0))) (by rfl)
def YW:List Nat:=[1,1,1,1,0,1]
def YX (J:Q0) (m:Nat):=evAt Tryz.prog env (ct m) J (m+1) 217 31 Tryz.f217 d16
def YZ (x0:List Dt) (x1:Int) (x2:Dt):St:=⟨tsOf [(0,.dat 23 (.lst x0)),(4,.ptr 0 [] 0),(5,.dat 3 (.int x1))],[.box 26 (.dat 26 x2)],0⟩
def Y0 (x0:List Dt) (x1:Int) (x2:Bool) (x3:Dt):St:=⟨tsOf [(0,.dat 23 (.lst x0)),(4,.ptr 0 [] 0),(5,.dat 3 (.int x1)),(25,.dat 4 (.bool x2))],[.box 26 (.dat 26 x3)],0⟩
theorem DZ m x0 x1 x2 x3:YX jn m YW [] (Y0 x0 x1 x2 x3)=pJ m x0 x1 x2 x3:=
 tq (g:=fun J=>(bif x2 then
  some kza2373
   else
  (((idx x0 x1).bind fun v1=>some v1)))) (by rfl)
theorem D5 m x0 x1 x2:YX jn m [1,1,1,1] [] (YZ x0 x1 x2)=mF m x0 x1 x2:=
 tq (g:=fun J=>(bif (decide (x1<0)) then
  (jj J 0 7 0 (Y0 x0 x1 true x2) (YX J m YW []))
   else
  (jj J 0 7 0 (Y0 x0 x1 (decide ((List.length x0:Int)≤x1)) x2) (YX J m YW [])))) (by simp only[aj,DZ m];rfl)
theorem JX m a0 a1:YX jn m [] [] ⟨[.dat 23 (.lst a0),.dat 26 a1],[],0⟩=jF (m+1) a0 a1:=
 tq (g:=fun J=>(bif ((Dt.I a1 0) !=3) then
  ((aT m).bind fun r0=>
  some r0)
   else
  ((bif (decide ((Dt.I a1 1)<0)) then(jj J 0 6 0 (YZ a0 (IntKind.wrap .i64 ((Dt.I a1 1)+(List.length a0:Int))) kza2373) (YX J m [1,1,1,1] [])) else(jj J 0 6 0 (YZ a0 (Dt.I a1 1) kza2373) (YX J m [1,1,1,1] [])))))) (by simp only[aj,D5 m];rfl)
def af6:List Nat:=[1,1,1,1,1,1]
def amf:List Nat:=[1,1,1,1,0,1]
def V3:List Nat:=amf++[0]
def apq:List Nat:=[1,1,1,1,1,0,1,0,1,1,1,0,1]
def af7:List Nat:=apq++[0]
def amg:List Nat:=[1,1,1,1,1,0,1,0,1,1,1,1,1,0,1,0,1]
def aa4:List Nat:=amg++[0]
def amh:List Nat:=[1,1,1,1,1,0,1,0,1,1,1,1,1,1,1,0,0,1]
def Y1:List Nat:=amh++[0]
def e70 (J:Q0) (m:Nat):=evAt Tryz.prog env (ct m) J (m+1) 165 116 Tryz.f165 d16
def l70 (J:Q0) (m:Nat):=loopAt Tryz.prog env (ct m) J (m+1) 165 116 Tryz.f165 d16
def V4 (x0:Int) (x1 x2:List Dt) (x3 x4:Int) (x5:Dt) (x6:List Dt):St:=⟨tsOf [(0,.dat 3 (.int x0)),(1,.dat 23 (.lst x1)),(4,.ptr 0 [] 0),(6,.row 1),(26,.dat 23 (.lst x2)),(27,.dat 3 (.int x3)),(28,.dat 3 (.int x4))],[.box 26 (.dat 26 x5),.row 23 x6],0⟩
def Y2 (x0 x1:Int) (x2:Dt) (x3:List Dt):St:=⟨tsOf [(4,.ptr 0 [] 0),(6,.row 1),(9,.dat 3 (.int x0)),(10,.dat 3 (.int x1))],[.box 26 (.dat 26 x2),.row 23 x3],0⟩
def Y3 (x0:Dt) (x1:List Dt):St:=⟨tsOf [(4,.ptr 0 [] 0),(6,.row 1)],[.box 26 (.dat 26 x0),.row 23 x1],0⟩
def Ti (x0:Int) (x1:List Dt) (x2 x3:Int) (x4:Dt):St:=⟨tsOf [(4,.ptr 0 [] 0),(11,.dat 3 (.int x0)),(75,.dat 23 (.lst x1)),(76,.dat 3 (.int x2)),(77,.dat 3 (.int x3))],[.box 26 (.dat 26 x4)],0⟩
def Y4 (x0 x1:List Dt) (x2 x3:Int) (x4:Dt):St:=⟨tsOf [(1,.dat 23 (.lst x0)),(4,.ptr 0 [] 0),(93,.dat 23 (.lst x1)),(94,.dat 3 (.int x2)),(95,.dat 3 (.int x3))],[.box 26 (.dat 26 x4)],0⟩
theorem uf m x0 x1:e70 jn m af6 [] (Y3 x0 x1)=oG m x0 x1:=
 tq (g:=fun J=>some (Dt.agg [(Dt.int 6),(Dt.int 0),(Dt.str (ByteArray.mk (List.toArray []))),(Dt.lst x1),(Dt.lst [])])) (by rfl)
theorem vB m:∀M8 x0 x1 x2 x3,l70 jn m af7 [] M8 (Y2 x0 x1 x2 x3)=jy m M8 x0 x1 x2 x3
 |0,_,_,_,_=>rfl
 | M8+1,x0,x1,x2,x3=>
   tl (g:=fun J=>(bif (decide (x0<x1)) then
  (((inL x3 x1).bind fun v5=>((x3[(Int.toNat x1)]?).bind fun v6=>((inL x3 x0).bind fun v7=>((x3[(Int.toNat x0)]?).bind fun v8=>((inL x3 x0).bind fun v9=>((x3[(Int.toNat x0)]?).bind fun v10=>((inL (List.set x3 (Int.toNat x0) v6) x1).bind fun v11=>(((List.set x3 (Int.toNat x0) v6)[(Int.toNat x1)]?).bind fun v12=>((jj J 1 20 M8 (Y2 (IntKind.wrap .i64 (x0+1)) (IntKind.wrap .i64 (x1-1)) x2 (List.set (List.set x3 (Int.toNat x0) v6) (Int.toNat x1) v8)) (l70 J m af7 [] M8))))))))))))
   else
  (jj J 0 42 0 (Y3 x2 x3) (e70 J m af6 [])))) (by simp only[aj,(vB m M8),uf m];rfl)
theorem ug m:∀M13 x0 x1 x2 x3 x4,l70 jn m aa4 [] M13 (Ti x0 x1 x2 x3 x4)=iM m M13 x0 x1 x2 x3 x4
 |0,_,_,_,_,_=>rfl
 | M13+1,x0,x1,x2,x3,x4=>
   tl (g:=fun J=>(bif (decide (x3<x2)) then
  (((idx x1 x3).bind fun v13=>(bif ((Dt.I v13 0)==3) then((jj J 1 26 M13 (Ti (IntKind.wrap .i64 (x0+(Dt.I v13 1))) x1 x2 (IntKind.wrap .i64 (x3+1)) x4) (l70 J m aa4 [] M13))) else((jj J 1 26 M13 (Ti x0 x1 x2 (IntKind.wrap .i64 (x3+1)) x4) (l70 J m aa4 [] M13))))))
   else
  (((aN m x0).bind fun r14=>some r14)))) (by simp only[aj,(ug m M13)];rfl)
theorem uh m:∀M18 x0 x1 x2 x3 x4,l70 jn m Y1 [] M18 (Y4 x0 x1 x2 x3 x4)=kS m M18 x0 x1 x2 x3 x4
 |0,_,_,_,_,_=>rfl
 | M18+1,x0,x1,x2,x3,x4=>
   tl (g:=fun J=>(bif (decide (x3<x2)) then
  (((idx x1 x3).bind fun v15=>((idx x0 0).bind fun v16=>((iI m v15 v16).bind fun r17=>(bif r17 then((aQ m true).bind fun r18=>some r18) else((jj J 1 34 M18 (Y4 x0 x1 x2 (IntKind.wrap .i64 (x3+1)) x4) (l70 J m Y1 [] M18))))))))
   else
  (((aQ m false).bind fun r19=>some r19)))) (by simp only[aj,(uh m M18)];rfl)
theorem vC m:∀M2 x0 x1 x2 x3 x4 x5 x6,l70 jn m V3 [] M2 (V4 x0 x1 x2 x3 x4 x5 x6)=mG m M2 x0 x1 x2 x3 x4 x5 x6
 |0,_,_,_,_,_,_,_=>rfl
 | M2+1,x0,x1,x2,x3,x4,x5,x6=>
   tl (g:=fun J=>(bif (decide (x4<x3)) then
  (((idx x2 x4).bind fun v1=>(bif ((Dt.I v1 0) !=6) then((aT m).bind fun r2=>some r2) else(((app x6 (Dt.L v1 3)).bind fun v3=>((jj J 1 9 M2 (V4 x0 x1 x2 x3 (IntKind.wrap .i64 (x4+1)) x5 v3) (l70 J m V3 [] M2))))))))
   else
  ((bif (x0==26) then((aN m (List.length x6:Int)).bind fun r4=>some r4) else(bif (x0==30) then((jj J 1 20 (Nat.succ m) (Y2 0 (IntKind.wrap .i64 ((List.length x6:Int)-1)) x5 x6) (l70 J m af7 [] (Nat.succ m)))) else(bif (x0==31) then((jj J 1 26 (Nat.succ m) (Ti 0 x6 (List.length x6:Int) 0 x5) (l70 J m aa4 [] (Nat.succ m)))) else(bif (x0==28) then((jj J 1 34 (Nat.succ m) (Y4 x1 x6 (List.length x6:Int) 0 x5) (l70 J m Y1 [] (Nat.succ m)))) else(bif (x0==27) then((idx x1 1).bind fun v20=>((jF m x6 v20).bind fun r21=>some r21)) else(jj J 0 42 0 (Y3 x5 x6) (e70 J m af6 [])))))))))) (by simp only[aj,(vC m M2),vB m,ug m,uh m,uf m];rfl)
theorem JY m a0 a1:e70 jn m [] [] ⟨[.dat 3 (.int a0),.dat 23 (.lst a1)],[],0⟩=bF (m+1) a0 a1:=
 tq (g:=fun J=>(bif (a0==27) then
  ((cutL a1 0 1).bind fun v0=>
  (((jj J 1 9 (Nat.succ m) (V4 a0 a1 v0 (List.length v0:Int) 0 kza2373 []) (l70 J m V3 [] (Nat.succ m))))))
   else
  (bif (a0==28) then
  ((cutL a1 1 (List.length a1:Int)).bind fun v22=>
  (((jj J 1 9 (Nat.succ m) (V4 a0 a1 v22 (List.length v22:Int) 0 kza2373 []) (l70 J m V3 [] (Nat.succ m))))))
  else
  (((jj J 1 9 (Nat.succ m) (V4 a0 a1 a1 (List.length a1:Int) 0 kza2373 []) (l70 J m V3 [] (Nat.succ m)))))))) (by simp only[aj,vC m];rfl)
def aqZ (J:Q2) (m:Nat):=evAt Tryz.prog env (ct m) J (m+1) 218 14 Tryz.f218 d31
theorem L6 m a0 a1:aqZ jn m [] [] ⟨[.dat 26 a0,.dat 3 (.int a1)],[],0⟩=jG (m+1) a0 a1:=
 tq (g:=fun J=>(bif (1==a1) then
  some 1
   else
  (((acU m a0 1 a1).bind fun r0=>some r0.1)))) (by rfl)
def ami:List Nat:=[1,1,0,1,0,1]
def Y5:List Nat:=ami++[0]
def amj:List Nat:=[1,1,0,1,1,1,0,1]
def Y6:List Nat:=amj++[0]
def e118 (J:Q30) (m:Nat):=evAt Tryz.prog env (ct m) J (m+1) 234 39 Tryz.f234 adN
def adg (J:Q30) (m:Nat):=loopAt Tryz.prog env (ct m) J (m+1) 234 39 Tryz.f234 adN
def Y7 (x0:List Dt) (x1 x2 x3 x4:Int):St:=⟨tsOf [(1,(.fn 235 [.ptr 0 [] 0,.ptr 1 [] 0])),(13,.dat 23 (.lst x0)),(14,.dat 3 (.int x1)),(15,.dat 3 (.int x2))],[.box 3 (.dat 3 (.int x3)),.box 3 (.dat 3 (.int x4))],2⟩
def Y8 (x0:List Dt) (x1 x2 x3 x4:Int):St:=⟨tsOf [(1,(.fn 235 [.ptr 0 [] 0,.ptr 1 [] 0])),(27,.dat 24 (.lst x0)),(28,.dat 3 (.int x1)),(29,.dat 3 (.int x2))],[.box 3 (.dat 3 (.int x3)),.box 3 (.dat 3 (.int x4))],2⟩
theorem L8 m:∀M1 x0 x1 x2 x3 x4,adg jn m Y5 [] M1 (Y7 x0 x1 x2 x3 x4)=BN m (Dr m) M1 x0 x1 x2 x3 x4
 |0,_,_,_,_,_=>rfl
 | M1+1,x0,x1,x2,x3,x4=>
   tl (g:=fun J=>(bif (decide (x2<x1)) then
  (((idx x0 x2).bind fun v0=>((Dr m v0 x3 x4).bind fun r1=>(bif (Bool.not r1.1) then some (r1.2.1,r1.2.2) else((jj J 1 4 M1 (Y7 x0 x1 (IntKind.wrap .i64 (x2+1)) r1.2.1 r1.2.2) (adg J m Y5 [] M1)))))))
   else
  some (x3,x4))) (by simp only[aj,(L8 m M1)];rfl)
theorem L9 m:∀M5 x0 x1 x2 x3 x4,adg jn m Y6 [] M5 (Y8 x0 x1 x2 x3 x4)=BO m (Dr m) M5 x0 x1 x2 x3 x4
 |0,_,_,_,_,_=>rfl
 | M5+1,x0,x1,x2,x3,x4=>
   tl (g:=fun J=>(bif (decide (x2<x1)) then
  (((idx x0 x2).bind fun v2=>((Dr m (Dt.fld v2 1) x3 x4).bind fun r3=>(bif (Bool.not r3.1) then some (r3.2.1,r3.2.2) else((jj J 1 10 M5 (Y8 x0 x1 (IntKind.wrap .i64 (x2+1)) r3.2.1 r3.2.2) (adg J m Y6 [] M5)))))))
   else
  some (x3,x4))) (by simp only[aj,(L9 m M5)];rfl)
theorem ajL m a0 a1 a2:e118 jn m [] [] ⟨[.dat 26 a0,(.fn 235 [.ptr 0 [] 0,.ptr 1 [] 0])],[.box 3 (.dat 3 (.int a1)),.box 3 (.dat 3 (.int a2))],2⟩=acU (m+1) a0 a1 a2:=
 tq (g:=fun J=>(bif ((Dt.I a0 0)==6) then
  ((jj J 1 4 (Nat.succ m) (Y7 (Dt.L a0 3) (List.length (Dt.L a0 3):Int) 0 a1 a2) (adg J m Y5 [] (Nat.succ m))))
   else
  (bif ((Dt.I a0 0)==5) then
  ((jj J 1 10 (Nat.succ m) (Y8 (Dt.L a0 4) (List.length (Dt.L a0 4):Int) 0 a1 a2) (adg J m Y6 [] (Nat.succ m))))
  else
  some (a1,a2)))) (by simp only[aj,L8 m,L9 m];rfl)
def e119 (J:Q50) (m:Nat):=evAt Tryz.prog env (ct m) J (m+1) 235 15 Tryz.f235 akq
theorem ajM m a0 a1 a2:e119 jn m [] [] ⟨[.dat 26 a0,.ptr 0 [] 0,.ptr 1 [] 0],[.box 3 (.dat 3 (.int a1)),.box 3 (.dat 3 (.int a2))],2⟩=Dr (m+1) a0 a1 a2:=
 tq (g:=fun J=>((jG m a0 (IntKind.wrap .i64 (a2-a1))).bind fun r0=>
  some ((decide ((IntKind.wrap .i64 (a1+r0))<a2)),(IntKind.wrap .i64 (a1+r0)),a2))) (by rfl)
def e74 (J:Q2) (m:Nat):=evAt Tryz.prog env (ct m) J (m+1) 169 5 Tryz.f169 d31
theorem Ma m a0:e74 jn m [] [] ⟨[.dat 26 a0],[],0⟩=lN (m+1) a0:=
 tq (g:=fun J=>((jG m a0 1025).bind fun r0=>
  some r0)) (by rfl)
def e108 (J:Q2) (m:Nat):=evAt Tryz.prog env (ct m) J (m+1) 219 13 Tryz.f219 d31
theorem Mc m a0 a1:e108 jn m [] [] ⟨[.dat 26 a0,.dat 3 (.int a1)],[],0⟩=jH (m+1) a0 a1:=
 tq (g:=fun J=>(bif (a1==1) then
  some 1
   else
  (((acV m a0 0 a1).bind fun r0=>some (IntKind.wrap .i64 (1+r0.1)))))) (by rfl)
def amk:List Nat:=[1,1,0,1,0,1]
def Y9:List Nat:=amk++[0]
def aml:List Nat:=[1,1,0,1,1,1,0,1]
def Za:List Nat:=aml++[0]
def e120 (J:Q30) (m:Nat):=evAt Tryz.prog env (ct m) J (m+1) 234 39 Tryz.f234 adN
def adh (J:Q30) (m:Nat):=loopAt Tryz.prog env (ct m) J (m+1) 234 39 Tryz.f234 adN
def Zb (x0:List Dt) (x1 x2 x3 x4:Int):St:=⟨tsOf [(1,(.fn 236 [.ptr 0 [] 0,.ptr 1 [] 0])),(13,.dat 23 (.lst x0)),(14,.dat 3 (.int x1)),(15,.dat 3 (.int x2))],[.box 3 (.dat 3 (.int x3)),.box 3 (.dat 3 (.int x4))],2⟩
def Zc (x0:List Dt) (x1 x2 x3 x4:Int):St:=⟨tsOf [(1,(.fn 236 [.ptr 0 [] 0,.ptr 1 [] 0])),(27,.dat 24 (.lst x0)),(28,.dat 3 (.int x1)),(29,.dat 3 (.int x2))],[.box 3 (.dat 3 (.int x3)),.box 3 (.dat 3 (.int x4))],2⟩
theorem Md m:∀M1 x0 x1 x2 x3 x4,adh jn m Y9 [] M1 (Zb x0 x1 x2 x3 x4)=BP m (Du m) M1 x0 x1 x2 x3 x4
 |0,_,_,_,_,_=>rfl
 | M1+1,x0,x1,x2,x3,x4=>
   tl (g:=fun J=>(bif (decide (x2<x1)) then
  (((idx x0 x2).bind fun v0=>((Du m v0 x3 x4).bind fun r1=>(bif (Bool.not r1.1) then some (r1.2.1,r1.2.2) else((jj J 1 4 M1 (Zb x0 x1 (IntKind.wrap .i64 (x2+1)) r1.2.1 r1.2.2) (adh J m Y9 [] M1)))))))
   else
  some (x3,x4))) (by simp only[aj,(Md m M1)];rfl)
theorem Me m:∀M5 x0 x1 x2 x3 x4,adh jn m Za [] M5 (Zc x0 x1 x2 x3 x4)=BQ m (Du m) M5 x0 x1 x2 x3 x4
 |0,_,_,_,_,_=>rfl
 | M5+1,x0,x1,x2,x3,x4=>
   tl (g:=fun J=>(bif (decide (x2<x1)) then
  (((idx x0 x2).bind fun v2=>((Du m (Dt.fld v2 1) x3 x4).bind fun r3=>(bif (Bool.not r3.1) then some (r3.2.1,r3.2.2) else((jj J 1 10 M5 (Zc x0 x1 (IntKind.wrap .i64 (x2+1)) r3.2.1 r3.2.2) (adh J m Za [] M5)))))))
   else
  some (x3,x4))) (by simp only[aj,(Me m M5)];rfl)
theorem ajN m a0 a1 a2:e120 jn m [] [] ⟨[.dat 26 a0,(.fn 236 [.ptr 0 [] 0,.ptr 1 [] 0])],[.box 3 (.dat 3 (.int a1)),.box 3 (.dat 3 (.int a2))],2⟩=acV (m+1) a0 a1 a2:=
 tq (g:=fun J=>(bif ((Dt.I a0 0)==6) then
  ((jj J 1 4 (Nat.succ m) (Zb (Dt.L a0 3) (List.length (Dt.L a0 3):Int) 0 a1 a2) (adh J m Y9 [] (Nat.succ m))))
   else
  (bif ((Dt.I a0 0)==5) then
  ((jj J 1 10 (Nat.succ m) (Zc (Dt.L a0 4) (List.length (Dt.L a0 4):Int) 0 a1 a2) (adh J m Za [] (Nat.succ m))))
  else
  some (a1,a2)))) (by simp only[aj,Md m,Me m];rfl)
def aq0 (J:Q50) (m:Nat):=evAt Tryz.prog env (ct m) J (m+1) 236 15 Tryz.f236 akq
theorem ajO m a0 a1 a2:aq0 jn m [] [] ⟨[.dat 26 a0,.ptr 0 [] 0,.ptr 1 [] 0],[.box 3 (.dat 3 (.int a1)),.box 3 (.dat 3 (.int a2))],2⟩=Du (m+1) a0 a1 a2:=
 tq (g:=fun J=>((jH m a0 (IntKind.wrap .i64 (a2-1))).bind fun r0=>
  some ((decide ((bif (decide (a1<r0)) then r0 else a1)<(IntKind.wrap .i64 (a2-1)))),(bif (decide (a1<r0)) then r0 else a1),a2))) (by rfl)
def e75 (J:Q2) (m:Nat):=evAt Tryz.prog env (ct m) J (m+1) 170 5 Tryz.f170 d31
theorem Mf m a0:e75 jn m [] [] ⟨[.dat 26 a0],[],0⟩=lQ (m+1) a0:=
 tq (g:=fun J=>((jH m a0 17).bind fun r0=>
  some r0)) (by rfl)
def Zd:List Nat:=[1,1,0,1,0]
def aq1 (J:Q2) (m:Nat):=evAt Tryz.prog env (ct m) J (m+1) 62 25 Tryz.f62 d31
def amm (J:Q2) (m:Nat):=loopAt Tryz.prog env (ct m) J (m+1) 62 25 Tryz.f62 d31
def Ze (x0:ByteArray) (x1:Int) (x2:Dt):St:=⟨tsOf [(1,.dat 9 (.str x0)),(2,.ptr 0 [] 0),(5,.dat 3 (.int x1))],[.box 26 (.dat 26 x2)],0⟩
theorem AY m:∀M2 x0 x1 x2,amm jn m Zd [] M2 (Ze x0 x1 x2)=lS m M2 x0 x1 x2
 |0,_,_,_=>rfl
 | M2+1,x0,x1,x2=>
   tl (g:=fun J=>(bif (decide (x1<(List.length (Dt.L x2 4):Int))) then
  (((idx (Dt.L x2 4) x1).bind fun v0=>(bif ((ByteArray.toList (Dt.S v0 0))==(ByteArray.toList x0)) then some x1 else((jj J 1 4 M2 (Ze x0 (IntKind.wrap .i64 (x1+1)) x2) (amm J m Zd [] M2))))))
   else
  (some (-1)))) (by simp only[aj,(AY m M2)];rfl)
theorem V6 m a0 a1:aq1 jn m [] [] ⟨[.dat 26 a0,.dat 9 (.str a1)],[],0⟩=kU (m+1) a0 a1:=
 tq (g:=fun J=>(bif ((Dt.I a0 0) !=5) then
  some (-1)
   else
  (((jj J 1 4 (Nat.succ m) (Ze a1 0 a0) (amm J m Zd [] (Nat.succ m))))))) (by simp only[aj,AY m];rfl)
def e77 (J:Q80) (m:Nat):=evAt Tryz.prog env (ct m) J (m+1) 23 19 Tryz.f23 d77
theorem Tj m a0 a1:e77 jn m [] [] ⟨[.dat 26 a0,.dat 9 (.str a1)],[],0⟩=qh (m+1) a0 a1:=
 tq (g:=fun J=>((kU m a0 a1).bind fun r0=>
  (bif (decide (r0<0)) then
  some (kza2373,false)
  else
  (((idx (Dt.L a0 4) r0).bind fun v1=>some ((Dt.fld v1 1),true)))))) (by rfl)
def apr:List Nat:=[1,1,0,1,0,1,1,1,0,1,0,1]
def aa5:List Nat:=apr++[0]
def e46 (J:Q0) (m:Nat):=evAt Tryz.prog env (ct m) J (m+1) 124 59 Tryz.f124 d16
def l46 (J:Q0) (m:Nat):=loopAt Tryz.prog env (ct m) J (m+1) 124 59 Tryz.f124 d16
def aa6 (x0:List Dt) (x1:Int) (x2 x3:Dt) (x4 x5:Int) (x6:ByteArray) (x7 x8:List Dt):St:=⟨tsOf [(1,.dat 22 (.lst x0)),(2,.ptr 0 [] 0),(4,.ptr 1 [] 0),(7,.ptr 2 [] 0),(8,.dat 3 (.int x1))],[.box 26 (.dat 26 x2),.box 26 (.dat 26 x3),.box 26 (.agg 26 [.dat 3 (.int x4),.dat 3 (.int x5),.dat 9 (.str x6),.row 3,.row 4]),.row 23 x7,.row 24 x8],0⟩
theorem AZ m:∀M3 x0 x1 x2 x3 x4 x5 x6 x7 x8,l46 jn m aa5 [] M3 (aa6 x0 x1 x2 x3 x4 x5 x6 x7 x8)=qj m (fG m) M3 x0 x1 x2 x3 x4 x5 x6 x7 x8
 |0,_,_,_,_,_,_,_,_,_=>rfl
 | M3+1,x0,x1,x2,x3,x4,x5,x6,x7,x8=>
   tl (g:=fun J=>(bif (decide (x1<(List.length (Dt.L x2 3):Int))) then
  (((idx (Dt.L x2 3) x1).bind fun v4=>((fG m v4 x0).bind fun r5=>(bif ((Dt.I r5 0) !=0) then((app x7 [r5]).bind fun v6=>((jj J 1 11 M3 (aa6 x0 (IntKind.wrap .i64 (x1+1)) x2 x3 x4 x5 x6 v6 x8) (l46 J m aa5 [] M3)))) else((jj J 1 11 M3 (aa6 x0 (IntKind.wrap .i64 (x1+1)) x2 x3 x4 x5 x6 x7 x8) (l46 J m aa5 [] M3)))))))
   else
  (some (Dt.agg [(Dt.int x4),(Dt.int x5),(Dt.str x6),(Dt.lst x7),(Dt.lst x8)])))) (by simp only[aj,(AZ m M3)];rfl)
theorem V7 m a0 a1:e46 jn m [] [] ⟨[.dat 26 a0,.dat 22 (.lst a1)],[],0⟩=fG (m+1) a0 a1:=
 tq (g:=fun J=>(bif ((List.length a1:Int)==0) then
  some a0
   else
  ((bif ((Dt.I a0 0)==5) then((idx a1 0).bind fun v0=>((qh m a0 (Dt.toStr v0)).bind fun r1=>(bif r1.2 then((cutL a1 1 (List.length a1:Int)).bind fun v2=>((fG m r1.1 v2).bind fun r3=>some r3)) else(some kza2373)))) else(bif ((Dt.I a0 0)==6) then((jj J 1 11 (Nat.succ m) (aa6 a1 0 a0 kza2373 6 0 (ByteArray.mk (List.toArray [])) [] []) (l46 J m aa5 [] (Nat.succ m)))) else(some kza2373)))))) (by simp only[aj,AZ m];rfl)
def aq2 (J:Q1) (m:Nat):=evAt Tryz.prog env (ct m) J (m+1) 222 19 Tryz.f222 d5
def amn (J:Q1) (m:Nat):=loopAt Tryz.prog env (ct m) J (m+1) 222 19 Tryz.f222 d5
def Zf (x0:List Dt) (x1 x2:Int):St:=⟨tsOf [(0,.dat 23 (.lst x0)),(1,.dat 3 (.int x1)),(5,.dat 3 (.int x2))],[],0⟩
theorem wM m:∀M1 x0 x1 x2,amn jn m [1,0,1,0] [] M1 (Zf x0 x1 x2)=nV m M1 x0 x1 x2
 |0,_,_,_=>rfl
 | M1+1,x0,x1,x2=>
   tl (g:=fun J=>(bif (decide (x2<(List.length x0:Int))) then
  (((idx x0 x2).bind fun v0=>(bif ((Dt.I v0 0) !=x1) then some false else((jj J 1 2 M1 (Zf x0 x1 (IntKind.wrap .i64 (x2+1))) (amn J m [1,0,1,0] [] M1))))))
   else
  (some true))) (by simp only[aj,(wM m M1)];rfl)
theorem Mg m a0 a1:aq2 jn m [] [] ⟨[.dat 23 (.lst a0),.dat 3 (.int a1)],[],0⟩=gH (m+1) a0 a1:=
 tq (g:=fun J=>((jj J 1 2 (Nat.succ m) (Zf a0 a1 0) (amn J m [1,0,1,0] [] (Nat.succ m))))) (by simp only[aj,wM m];rfl)
def af8:List Nat:=[1,1,1,0,1,0]
def e83 (J:Q0) (m:Nat):=evAt Tryz.prog env (ct m) J (m+1) 177 29 Tryz.f177 d16
def l83 (J:Q0) (m:Nat):=loopAt Tryz.prog env (ct m) J (m+1) 177 29 Tryz.f177 d16
def af9 (x0:List Dt) (x1:ByteArray) (x2:Int) (x3:Dt):St:=⟨tsOf [(0,.dat 23 (.lst x0)),(2,.ptr 0 [] 0),(3,.dat 9 (.str x1)),(4,.dat 3 (.int x2))],[.box 26 (.dat 26 x3)],0⟩
theorem vD m:∀M2 x0 x1 x2 x3,l83 jn m af8 [] M2 (af9 x0 x1 x2 x3)=mH m M2 x0 x1 x2 x3
 |0,_,_,_,_=>rfl
 | M2+1,x0,x1,x2,x3=>
   tl (g:=fun J=>(bif (decide (x2<(List.length x0:Int))) then
  (bif (decide ((ByteArray.size x1:Int)≤4096)) then
  (((idx x0 x2).bind fun v2=>(bif (Nat.ble ((ByteArray.size x1)+(ByteArray.size (Dt.S v2 2))) 1152921504606846976) then((jj J 1 5 M2 (af9 x0 (x1++(Dt.S v2 2)) (IntKind.wrap .i64 (x2+1)) x3) (l83 J m af8 [] M2))) else none)))
  else
  (((iT m x1).bind fun r3=>some r3)))
   else
  (((iT m x1).bind fun r3=>some r3)))) (by simp only[aj,(vD m M2)];rfl)
theorem JZ m a0:e83 jn m [] [] ⟨[.dat 23 (.lst a0)],[],0⟩=jI (m+1) a0:=
 tq (g:=fun J=>((gH m a0 4).bind fun r0=>
  (bif (Bool.not r0) then
  ((aS m).bind fun r1=>
  some r1)
  else
  (((jj J 1 5 (Nat.succ m) (af9 a0 (ByteArray.mk (List.toArray [])) 0 kza2373) (l83 J m af8 [] (Nat.succ m)))))))) (by simp only[aj,vD m];rfl)
def aga:List Nat:=[1,1,1,0,1,0]
def e91 (J:Q0) (m:Nat):=evAt Tryz.prog env (ct m) J (m+1) 185 26 Tryz.f185 d16
def l91 (J:Q0) (m:Nat):=loopAt Tryz.prog env (ct m) J (m+1) 185 26 Tryz.f185 d16
def agb (x0:List Dt) (x1:Int) (x2:Dt) (x3 x4:Int) (x5:ByteArray) (x6 x7:List Dt):St:=⟨tsOf [(0,.dat 23 (.lst x0)),(2,.ptr 0 [] 0),(3,.ptr 1 [] 0),(4,.dat 3 (.int x1))],[.box 26 (.dat 26 x2),.box 26 (.agg 26 [.dat 3 (.int x3),.dat 3 (.int x4),.dat 9 (.str x5),.row 2,.row 3]),.row 23 x6,.row 24 x7],0⟩
theorem yK m:∀M2 x0 x1 x2 x3 x4 x5 x6 x7,l91 jn m aga [] M2 (agb x0 x1 x2 x3 x4 x5 x6 x7)=oQ m M2 x0 x1 x2 x3 x4 x5 x6 x7
 |0,_,_,_,_,_,_,_,_=>rfl
 | M2+1,x0,x1,x2,x3,x4,x5,x6,x7=>
   tl (g:=fun J=>(bif (decide (x1<(List.length x0:Int))) then
  (((idx x0 x1).bind fun v2=>((app x6 (Dt.L v2 3)).bind fun v3=>((jj J 1 5 M2 (agb x0 (IntKind.wrap .i64 (x1+1)) x2 x3 x4 x5 v3 x7) (l91 J m aga [] M2))))))
   else
  (some (Dt.agg [(Dt.int x3),(Dt.int x4),(Dt.str x5),(Dt.lst x6),(Dt.lst x7)])))) (by simp only[aj,(yK m M2)];rfl)
theorem OJ m a0:e91 jn m [] [] ⟨[.dat 23 (.lst a0)],[],0⟩=nW (m+1) a0:=
 tq (g:=fun J=>((gH m a0 6).bind fun r0=>
  (bif (Bool.not r0) then
  ((aS m).bind fun r1=>
  some r1)
  else
  (((jj J 1 5 (Nat.succ m) (agb a0 0 kza2373 6 0 (ByteArray.mk (List.toArray [])) [] []) (l91 J m aga [] (Nat.succ m)))))))) (by simp only[aj,yK m];rfl)
def Zg:List Nat:=[1,1,1,0,1]
def ajP (J:Q2) (m:Nat):=evAt Tryz.prog env (ct m) J (m+1) 223 29 Tryz.f223 d31
def Zh (x0:Int) (x1:Bool):St:=⟨tsOf [(5,.dat 3 (.int x0)),(25,.dat 4 (.bool x1))],[],0⟩
theorem A8 m x0 x1:ajP jn m Zg [] (Zh x0 x1)=jJ m x0 x1:=
 tq (g:=fun J=>(bif x1 then
  (some (IntKind.wrap .i64 (x0-1)))
   else
  (some x0))) (by rfl)
theorem Fp m a0 a1:ajP jn m [] [] ⟨[.dat 3 (.int a0),.dat 3 (.int a1)],[],0⟩=dw (m+1) a0 a1:=
 tq (g:=fun J=>(bif (a1==(-1)) then
  some (IntKind.wrap .i64 (0-a0))
   else
  ((bif (decide (a1=0)) then none else(bif (decide (a1=0)) then none else(bif ((Int.tmod a0 a1) !=0) then(bif (decide (a1=0)) then none else(jj J 0 5 0 (Zh (IntKind.wrap .i64 (Int.tdiv a0 a1)) (Bool.not ((decide ((Int.tmod a0 a1)<0))==(decide (a1<0))))) (ajP J m Zg []))) else(jj J 0 5 0 (Zh (IntKind.wrap .i64 (Int.tdiv a0 a1)) false) (ajP J m Zg [])))))))) (by simp only[aj,A8 m];rfl)
def apt:List Nat:=[1,1,1,1,0,1]
def V8:List Nat:=apt++[0]
def e80 (J:Q0) (m:Nat):=evAt Tryz.prog env (ct m) J (m+1) 174 96 Tryz.f174 d16
def l80 (J:Q0) (m:Nat):=loopAt Tryz.prog env (ct m) J (m+1) 174 96 Tryz.f174 d16
def V9 (x0:Int) (x1:List Dt) (x2 x3:Int) (x4:Dt):St:=⟨tsOf [(0,.dat 3 (.int x0)),(1,.dat 23 (.lst x1)),(4,.ptr 0 [] 0),(5,.dat 3 (.int x2)),(6,.dat 3 (.int x3))],[.box 26 (.dat 26 x4)],0⟩
def Wd (x0:Int) (x1:List Dt) (x2:Bool) (x3:Dt):St:=⟨tsOf [(0,.dat 3 (.int x0)),(1,.dat 23 (.lst x1)),(4,.ptr 0 [] 0),(24,.dat 4 (.bool x2))],[.box 26 (.dat 26 x3)],0⟩
theorem vE m:∀M4 x0 x1 x2 x3 x4,l80 jn m V8 [] M4 (V9 x0 x1 x2 x3 x4)=gW m M4 x0 x1 x2 x3 x4
 |0,_,_,_,_,_=>rfl
 | M4+1,x0,x1,x2,x3,x4=>
   tl (g:=fun J=>(bif (decide (x3<(List.length x1:Int))) then
  ((bif (x0==6) then((idx x1 x3).bind fun v2=>((jj J 1 7 M4 (V9 x0 x1 (IntKind.wrap .i64 (x2*(Dt.I v2 1))) (IntKind.wrap .i64 (x3+1)) x4) (l80 J m V8 [] M4)))) else((idx x1 x3).bind fun v3=>((jj J 1 7 M4 (V9 x0 x1 (IntKind.wrap .i64 (x2+(Dt.I v3 1))) (IntKind.wrap .i64 (x3+1)) x4) (l80 J m V8 [] M4))))))
   else
  ((bif (x0==5) then((idx x1 0).bind fun v4=>((idx x1 1).bind fun v5=>(((bO m (IntKind.wrap .i64 ((Dt.I v4 1)-(Dt.I v5 1)))).bind fun r6=>some r6)))) else(bif (x0==7) then((idx x1 0).bind fun v7=>((idx x1 1).bind fun v8=>((dw m (Dt.I v7 1) (Dt.I v8 1)).bind fun r9=>(((bO m r9).bind fun r6=>some r6))))) else(bif (x0==8) then((idx x1 0).bind fun v10=>((idx x1 1).bind fun v11=>((idx x1 0).bind fun v12=>((idx x1 1).bind fun v13=>((dw m (Dt.I v12 1) (Dt.I v13 1)).bind fun r14=>(((bO m (IntKind.wrap .i64 ((Dt.I v10 1)-(IntKind.wrap .i64 ((Dt.I v11 1)*r14))))).bind fun r6=>some r6))))))) else(((bO m x2).bind fun r6=>some r6)))))))) (by simp only[aj,(vE m M4)];rfl)
theorem D6 m x0 x1 x2 x3:e80 jn m [1,0,1] [] (Wd x0 x1 x2 x3)=gX m x0 x1 x2 x3:=
 tq (g:=fun J=>(bif x2 then
  ((aS m).bind fun r1=>
  some r1)
   else
  ((bif (x0==6) then(((jj J 1 7 (Nat.succ m) (V9 x0 x1 1 0 x3) (l80 J m V8 [] (Nat.succ m))))) else(((jj J 1 7 (Nat.succ m) (V9 x0 x1 0 0 x3) (l80 J m V8 [] (Nat.succ m))))))))) (by simp only[aj,vE m];rfl)
theorem J2 m a0 a1:e80 jn m [] [] ⟨[.dat 3 (.int a0),.dat 23 (.lst a1)],[],0⟩=dR (m+1) a0 a1:=
 tq (g:=fun J=>((gH m a1 3).bind fun r0=>
  (bif (Bool.not r0) then
  (jj J 0 2 0 (Wd a0 a1 true kza2373) (e80 J m [1,0,1] []))
  else
  (bif (a0==7) then
  ((idx a1 1).bind fun v15=>
  (jj J 0 2 0 (Wd a0 a1 ((Dt.I v15 1)==0) kza2373) (e80 J m [1,0,1] [])))
  else
  (bif (a0==8) then
  ((idx a1 1).bind fun v16=>
  (jj J 0 2 0 (Wd a0 a1 ((Dt.I v16 1)==0) kza2373) (e80 J m [1,0,1] [])))
  else
  (jj J 0 2 0 (Wd a0 a1 false kza2373) (e80 J m [1,0,1] []))))))) (by simp only[aj,D6 m];rfl)
def aq3 (J:Q1) (m:Nat):=evAt Tryz.prog env (ct m) J (m+1) 224 9 Tryz.f224 d5
theorem Mh m a0 a1:aq3 jn m [] [] ⟨[.dat 26 a0,.dat 26 a1],[],0⟩=iJ (m+1) a0 a1:=
 tq (g:=fun J=>((aA m a0 a1).bind fun r0=>
  some (r0==0))) (by rfl)
def e90 (J:Q1) (m:Nat):=evAt Tryz.prog env (ct m) J (m+1) 184 18 Tryz.f184 d5
def l90 (J:Q1) (m:Nat):=loopAt Tryz.prog env (ct m) J (m+1) 184 18 Tryz.f184 d5
def agc (x0:List Dt) (x1:Int) (x2:Dt):St:=⟨tsOf [(0,.dat 23 (.lst x0)),(3,.ptr 0 [] 0),(5,.dat 3 (.int x1))],[.box 26 (.dat 26 x2)],0⟩
theorem sZ m:∀M1 x0 x1 x2,l90 jn m [1,0,1,0] [] M1 (agc x0 x1 x2)=jK m M1 x0 x1 x2
 |0,_,_,_=>rfl
 | M1+1,x0,x1,x2=>
   tl (g:=fun J=>(bif (decide (x1<(List.length x0:Int))) then
  (((idx x0 x1).bind fun v0=>((iJ m v0 x2).bind fun r1=>(bif r1 then some true else((jj J 1 2 M1 (agc x0 (IntKind.wrap .i64 (x1+1)) x2) (l90 J m [1,0,1,0] [] M1)))))))
   else
  (some false))) (by simp only[aj,(sZ m M1)];rfl)
theorem Fq m a0 a1:e90 jn m [] [] ⟨[.dat 23 (.lst a0),.dat 26 a1],[],0⟩=iX (m+1) a0 a1:=
 tq (g:=fun J=>((jj J 1 2 (Nat.succ m) (agc a0 0 a1) (l90 J m [1,0,1,0] [] (Nat.succ m))))) (by simp only[aj,sZ m];rfl)
def Zi:List Nat:=[1,1,1,1,1,1]
def amo:List Nat:=[1,1,1,1,0,1]
def Tk:List Nat:=amo++[0]
def e115 (J:Q0) (m:Nat):=evAt Tryz.prog env (ct m) J (m+1) 105 50 Tryz.f105 d16
def ajQ (J:Q0) (m:Nat):=loopAt Tryz.prog env (ct m) J (m+1) 105 50 Tryz.f105 d16
def Tm (x0:ByteArray) (x1 x2:Int) (x3 x4 x5:Dt) (x6:List Dt):St:=⟨tsOf [(1,.dat 9 (.str x0)),(3,.ptr 0 [] 0),(5,.ptr 1 [] 0),(6,.ptr 2 [] 0),(7,.dat 3 (.int x1)),(8,.row 3),(9,.dat 3 (.int x2))],[.box 26 (.dat 26 x3),.box 26 (.dat 26 x4),.box 26 (.dat 26 x5),.row 24 x6],0⟩
def Zj (x0 x1:Dt) (x2:List Dt):St:=⟨tsOf [(3,.ptr 0 [] 0),(6,.ptr 1 [] 0),(8,.row 2)],[.box 26 (.dat 26 x0),.box 26 (.dat 26 x1),.row 24 x2],0⟩
theorem J3 m x0 x1 x2:e115 jn m Zi [] (Zj x0 x1 x2)=qB m x0 x1 x2:=
 tq (g:=fun J=>some (Dt.agg [(Dt.int (Dt.I x0 0)),(Dt.int (Dt.I x0 1)),(Dt.str (Dt.S x0 2)),(Dt.lst (Dt.L x0 3)),(Dt.lst x2)])) (by rfl)
theorem zP m:∀M2 x0 x1 x2 x3 x4 x5 x6,ajQ jn m Tk [] M2 (Tm x0 x1 x2 x3 x4 x5 x6)=jL m M2 x0 x1 x2 x3 x4 x5 x6
 |0,_,_,_,_,_,_,_=>rfl
 | M2+1,x0,x1,x2,x3,x4,x5,x6=>
   tl (g:=fun J=>(bif (decide (x2<(List.length (Dt.L x3 4):Int))) then
  (((idx (Dt.L x3 4) x2).bind fun v1=>(bif (x2==x1) then(((app x6 [(Dt.agg [(Dt.str (Dt.S v1 0)),x4])]).bind fun v2=>((jj J 1 6 M2 (Tm x0 x1 (IntKind.wrap .i64 (x2+1)) x3 x4 x5 v2) (ajQ J m Tk [] M2))))) else(((app x6 [v1]).bind fun v2=>((jj J 1 6 M2 (Tm x0 x1 (IntKind.wrap .i64 (x2+1)) x3 x4 x5 v2) (ajQ J m Tk [] M2))))))))
   else
  ((bif (decide (x1<0)) then((app x6 [(Dt.agg [(Dt.str x0),x4])]).bind fun v3=>(jj J 0 14 0 (Zj x3 x5 v3) (e115 J m Zi []))) else(jj J 0 14 0 (Zj x3 x5 x6) (e115 J m Zi [])))))) (by simp only[aj,(zP m M2),J3 m];rfl)
theorem Tn m a0 a1 a2:e115 jn m [] [] ⟨[.dat 26 a0,.dat 9 (.str a1),.dat 26 a2],[],0⟩=nk (m+1) a0 a1 a2:=
 tq (g:=fun J=>(bif ((Dt.I a0 0) !=5) then
  some a0
   else
  (((kU m a0 a1).bind fun r0=>((jj J 1 6 (Nat.succ m) (Tm a1 r0 0 a0 a2 kza2373 []) (ajQ J m Tk [] (Nat.succ m)))))))) (by simp only[aj,zP m];rfl)
def QI:List Nat:=[1,1,0,1,0]
def apu:List Nat:=[1,1,0,1,0,0,1]
def apv:List Nat:=apu++[0,0,1]
def apw:List Nat:=apv++[1]
def apx:List Nat:=apw++[1]
def agd:List Nat:=apx++[0]
def e92 (J:Q0) (m:Nat):=evAt Tryz.prog env (ct m) J (m+1) 186 65 Tryz.f186 d16
def l92 (J:Q0) (m:Nat):=loopAt Tryz.prog env (ct m) J (m+1) 186 65 Tryz.f186 d16
def QJ (x0:List Dt) (x1:Int) (x2 x3:Dt):St:=⟨tsOf [(0,.dat 23 (.lst x0)),(2,.ptr 0 [] 0),(3,.ptr 1 [] 0),(4,.dat 3 (.int x1))],[.box 26 (.dat 26 x2),.box 26 (.dat 26 x3)],0⟩
def agf (x0:List Dt) (x1 x2:Int) (x3 x4:Dt):St:=⟨tsOf [(0,.dat 23 (.lst x0)),(2,.ptr 0 [] 0),(3,.ptr 1 [] 0),(4,.dat 3 (.int x1)),(5,.dat 3 (.int x2))],[.box 26 (.dat 26 x3),.box 26 (.dat 26 x4)],0⟩
abbrev apy (m M1:Nat) (rec1:Q27):Prop:=∀x0 x1 x2 x3,l92 jn m QI [] M1 (QJ x0 x1 x2 x3)=rec1 x0 x1 x2 x3
theorem wN m M1 rec1 (h1:apy m M1 rec1):∀M7 x0 x1 x2 x3 x4,l92 jn m agd [M1] M7 (agf x0 x1 x2 x3 x4)=nX m rec1 M7 x0 x1 x2 x3 x4
 |0,_,_,_,_,_=>rfl
 | M7+1,x0,x1,x2,x3,x4=>
   tl (g:=fun J=>((idx x0 x1).bind fun v4=>
  (bif (decide (x2<(List.length (Dt.L v4 4):Int))) then
  (((idx x0 x1).bind fun v5=>((idx (Dt.L v5 4) x2).bind fun v6=>((idx x0 x1).bind fun v7=>((idx (Dt.L v7 4) x2).bind fun v8=>((nk m x4 (Dt.S v6 0) (Dt.fld v8 1)).bind fun r9=>((jj J 1 9 M7 (agf x0 x1 (IntKind.wrap .i64 (x2+1)) x3 r9) (l92 J m agd [M1] M7)))))))))
  else
  ((jj J 1 3 M1 (QJ x0 (IntKind.wrap .i64 (x1+1)) x3 x4) (l92 J m QI [] M1)))))) (by simp only[aj,(wN m M1 rec1 h1 M7),h1];rfl)
theorem qM m:∀M1 x0 x1 x2 x3,l92 jn m QI [] M1 (QJ x0 x1 x2 x3)=dx m M1 x0 x1 x2 x3
 |0,_,_,_,_=>rfl
 | M1+1,x0,x1,x2,x3=>
   tl (g:=fun J=>(bif (decide (x1<(List.length x0:Int))) then
  (((idx x0 x1).bind fun v0=>(bif ((Dt.I v0 0)==0) then((jj J 1 3 M1 (QJ x0 (IntKind.wrap .i64 (x1+1)) x2 x3) (l92 J m QI [] M1))) else((idx x0 x1).bind fun v1=>(bif ((Dt.I v1 0)==2) then((jj J 1 3 M1 (QJ x0 (IntKind.wrap .i64 (x1+1)) x2 x3) (l92 J m QI [] M1))) else(((idx x0 x1).bind fun v2=>(bif ((Dt.I v2 0) !=5) then((aS m).bind fun r3=>some r3) else(((jj J 1 9 (Nat.succ m) (agf x0 x1 0 x2 x3) (l92 J m agd [M1] (Nat.succ m)))))))))))))
   else
  (some x3))) (by simp only[aj,(qM m M1),wN m M1 (dx m M1) (qM m M1)];rfl)
theorem Mi m a0:e92 jn m [] [] ⟨[.dat 23 (.lst a0)],[],0⟩=lT (m+1) a0:=
 tq (g:=fun J=>((jj J 1 3 (Nat.succ m) (QJ a0 0 kza2373 KA) (l92 J m QI [] (Nat.succ m))))) (by simp only[aj,qM m];rfl)
def G9:List Nat:=[1,0,1,0,1]
def Mj:List Nat:=[1,0,1,0,1,1,1]
def agh:List Nat:=Mj++[1,1,1,1,1,1,0,0,1]
def Mk:List Nat:=Mj++[1,1,1,1,1,1,1,1,1,1]
def He:List Nat:=Mk++[1,1,1,1]
def amq:List Nat:=He++[1,1,1,1,1,1,1,1,0,1,0,1]
def Wh:List Nat:=amq++[0]
def amr:List Nat:=He++[1,1,1,1,1,1,1,1,1,1,0,1,0,1]
def apz:List Nat:=Wh++[0,1]
def Zk:List Nat:=amr++[0]
def agi:List Nat:=apz++[1]
def e48 (J:Q0) (m:Nat):=evAt Tryz.prog env (ct m) J (m+1) 126 223 Tryz.f126 d16
def l48 (J:Q0) (m:Nat):=loopAt Tryz.prog env (ct m) J (m+1) 126 223 Tryz.f126 d16
def agj (x0:List Dt) (x1:Bool) (x2:Dt):St:=⟨tsOf [(1,.dat 23 (.lst x0)),(4,.ptr 0 [] 0),(61,.dat 4 (.bool x1))],[.box 26 (.dat 26 x2)],0⟩
def D7 (x0:List Dt) (x1:Int) (x2 x3:Dt) (x4 x5:Int) (x6:ByteArray) (x7 x8:List Dt):St:=⟨tsOf [(1,.dat 23 (.lst x0)),(2,.ptr 0 [] 0),(4,.ptr 1 [] 0),(5,.ptr 2 [] 0),(6,.dat 3 (.int x1))],[.box 29 (.dat 29 x2),.box 26 (.dat 26 x3),.box 26 (.agg 26 [.dat 3 (.int x4),.dat 3 (.int x5),.dat 9 (.str x6),.row 3,.row 4]),.row 23 x7,.row 24 x8],0⟩
def Zl (x0:List Dt) (x1:Int) (x2:Dt) (x3 x4:Int) (x5:ByteArray) (x6 x7:List Dt):St:=⟨tsOf [(1,.dat 23 (.lst x0)),(4,.ptr 0 [] 0),(7,.ptr 1 [] 0),(8,.dat 3 (.int x1))],[.box 26 (.dat 26 x2),.box 26 (.agg 26 [.dat 3 (.int x3),.dat 3 (.int x4),.dat 9 (.str x5),.row 2,.row 3]),.row 23 x6,.row 24 x7],0⟩
def aa7 (x0:List Dt) (x1:Int) (x2:Bool) (x3 x4:Dt):St:=⟨tsOf [(1,.dat 23 (.lst x0)),(2,.ptr 0 [] 0),(4,.ptr 1 [] 0),(10,.dat 3 (.int x1)),(112,.dat 4 (.bool x2))],[.box 29 (.dat 29 x3),.box 26 (.dat 26 x4)],0⟩
def aa8 (x0:List Dt) (x1:Int) (x2:Bool) (x3 x4:Dt):St:=⟨tsOf [(1,.dat 23 (.lst x0)),(2,.ptr 0 [] 0),(4,.ptr 1 [] 0),(10,.dat 3 (.int x1)),(72,.dat 4 (.bool x2))],[.box 29 (.dat 29 x3),.box 26 (.dat 26 x4)],0⟩
def agk (x0:List Dt) (x1:Int) (x2:Bool) (x3 x4:Dt):St:=⟨tsOf [(1,.dat 23 (.lst x0)),(2,.ptr 0 [] 0),(4,.ptr 1 [] 0),(10,.dat 3 (.int x1)),(21,.dat 4 (.bool x2))],[.box 29 (.dat 29 x3),.box 26 (.dat 26 x4)],0⟩
def QK (x0:List Dt) (x1:Int) (x2:Bool) (x3 x4:Dt):St:=⟨tsOf [(1,.dat 23 (.lst x0)),(2,.ptr 0 [] 0),(4,.ptr 1 [] 0),(10,.dat 3 (.int x1)),(11,.dat 4 (.bool x2))],[.box 29 (.dat 29 x3),.box 26 (.dat 26 x4)],0⟩
theorem Fu m x0 x1 x2:e48 jn m agh [] (agj x0 x1 x2)=qC m x0 x1 x2:=
 tq (g:=fun J=>(bif x1 then
  ((idx x0 1).bind fun v10=>
  some v10)
   else
  (((idx x0 0).bind fun v11=>some v11)))) (by rfl)
abbrev ams (m M11:Nat) (rec11:Q38):Prop:=∀x0 x1 x2 x3 x4 x5 x6 x7 x8,l48 jn m Wh [] M11 (D7 x0 x1 x2 x3 x4 x5 x6 x7 x8)=rec11 x0 x1 x2 x3 x4 x5 x6 x7 x8
theorem D8 m M11 rec11 (h11:ams m M11 rec11) x0 x1 x2 x3 x4 x5 x6 x7 x8:e48 jn m agi [M11] (D7 x0 x1 x2 x3 x4 x5 x6 x7 x8)=pK m rec11 x0 x1 x2 x3 x4 x5 x6 x7 x8:=
 tq (g:=fun J=>(jj J 1 48 M11 (D7 x0 (IntKind.wrap .i64 (x1+1)) x2 x3 x4 x5 x6 x7 x8) (l48 J m Wh [] M11))) (by simp only[aj,h11];rfl)
theorem vF m:∀M11 x0 x1 x2 x3 x4 x5 x6 x7 x8,l48 jn m Wh [] M11 (D7 x0 x1 x2 x3 x4 x5 x6 x7 x8)=gY m M11 x0 x1 x2 x3 x4 x5 x6 x7 x8
 |0,_,_,_,_,_,_,_,_,_=>rfl
 | M11+1,x0,x1,x2,x3,x4,x5,x6,x7,x8=>
   tl (g:=fun J=>(bif (decide (x1<(List.length x0:Int))) then
  (((idx x0 x1).bind fun v37=>(bif ((Dt.I v37 0) !=0) then((idx (Dt.L x2 3) x1).bind fun v38=>((idx x0 x1).bind fun v39=>((app x8 [(Dt.agg [(Dt.str (Dt.toStr v38)),v39])]).bind fun v40=>(jj J 0 49 0 (D7 x0 x1 x2 x3 x4 x5 x6 x7 v40) (e48 J m agi [M11]))))) else(jj J 0 49 0 (D7 x0 x1 x2 x3 x4 x5 x6 x7 x8) (e48 J m agi [M11])))))
   else
  (some (Dt.agg [(Dt.int x4),(Dt.int x5),(Dt.str x6),(Dt.lst x7),(Dt.lst x8)])))) (by simp only[aj,D8 m M11 (gY m M11) (vF m M11)];rfl)
theorem vG m:∀M16 x0 x1 x2 x3 x4 x5 x6 x7,l48 jn m Zk [] M16 (Zl x0 x1 x2 x3 x4 x5 x6 x7)=mI m M16 x0 x1 x2 x3 x4 x5 x6 x7
 |0,_,_,_,_,_,_,_,_=>rfl
 | M16+1,x0,x1,x2,x3,x4,x5,x6,x7=>
   tl (g:=fun J=>(bif (decide (x1<(List.length x0:Int))) then
  (((idx x0 x1).bind fun v41=>((lU m v41).bind fun r42=>((app x6 [r42]).bind fun v43=>((jj J 1 56 M16 (Zl x0 (IntKind.wrap .i64 (x1+1)) x2 x3 x4 x5 v43 x7) (l48 J m Zk [] M16)))))))
   else
  (some (Dt.agg [(Dt.int x3),(Dt.int x4),(Dt.str x5),(Dt.lst x6),(Dt.lst x7)])))) (by simp only[aj,(vG m M16)];rfl)
theorem Fv m x0 x1 x2 x3 x4:e48 jn m He [] (aa7 x0 x1 x2 x3 x4)=qD m x0 x1 x2 x3 x4:=
 tq (g:=fun J=>(bif x2 then
  ((idx x0 0).bind fun v25=>
  ((jX m (Dt.I x3 0) v25).bind fun r26=>
  some r26))
   else
  (bif (x1==27) then
  ((idx x0 0).bind fun v27=>
  ((idx x0 1).bind fun v28=>
  ((iB m v27 v28).bind fun r29=>
  some r29)))
  else
  (bif (x1==28) then
  ((idx x0 1).bind fun v30=>
  (bif ((Dt.I v30 0) !=6) then
  ((aS m).bind fun r31=>
  some r31)
  else
  (((idx x0 1).bind fun v32=>((idx x0 0).bind fun v33=>((iX m (Dt.L v32 3) v33).bind fun r34=>((aO m r34).bind fun r35=>some r35)))))))
  else
  (bif (x1==29) then
  ((nW m x0).bind fun r36=>
  some r36)
  else
  (bif (x1==34) then
  ((jj J 1 48 (Nat.succ m) (D7 x0 0 x3 x4 5 0 (ByteArray.mk (List.toArray [])) [] []) (l48 J m Wh [] (Nat.succ m))))
  else
  (bif (x1==35) then
  ((jj J 1 56 (Nat.succ m) (Zl x0 0 x4 6 0 (ByteArray.mk (List.toArray [])) [] []) (l48 J m Zk [] (Nat.succ m))))
  else
  (bif (x1==36) then
  ((idx x0 0).bind fun v44=>
  ((bO m (Dt.I v44 0)).bind fun r45=>
  some r45))
  else
  (bif (x1==37) then
  ((lT m x0).bind fun r46=>
  some r46)
  else
  (((idx x0 0).bind fun v47=>((idx x0 1).bind fun v48=>((bQ m (Dt.I x3 0) v47 v48).bind fun r49=>some r49))))))))))))) (by simp only[aj,vF m,vG m];rfl)
theorem Fw m x0 x1 x2 x3 x4:e48 jn m Mk [] (aa8 x0 x1 x2 x3 x4)=qE m x0 x1 x2 x3 x4:=
 tq (g:=fun J=>(bif x2 then
  ((idx x0 0).bind fun v14=>
  (bif ((Dt.I v14 0) !=4) then
  ((aS m).bind fun r15=>
  some r15)
  else
  ((bif ((Dt.I x3 0)==24) then((idx x0 0).bind fun v16=>((bO m (ByteArray.size (Dt.S v16 2):Int)).bind fun r17=>some r17)) else(((idx x0 0).bind fun v18=>((iA m (Dt.S v18 2) ((Dt.I x3 0)==23)).bind fun r19=>((iT m r19).bind fun r20=>some r20))))))))
   else
  (bif (x1==25) then
  ((idx x0 0).bind fun v21=>
  ((idx x0 1).bind fun v22=>
  ((idx x0 2).bind fun v23=>
  ((lI m v21 v22 v23).bind fun r24=>
  some r24))))
  else
  (bif (x1==26) then
  (jj J 0 36 0 (aa7 x0 x1 (x1==26) x3 x4) (e48 J m He []))
  else
  (bif (x1==30) then
  (jj J 0 36 0 (aa7 x0 x1 (x1==30) x3 x4) (e48 J m He []))
  else
  (jj J 0 36 0 (aa7 x0 x1 (x1==31) x3 x4) (e48 J m He []))))))) (by simp only[aj,Fv m];rfl)
theorem Fx m x0 x1 x2 x3 x4:e48 jn m Mj [] (agk x0 x1 x2 x3 x4)=uO m x0 x1 x2 x3 x4:=
 tq (g:=fun J=>(bif x2 then
  ((lH m (Dt.I x3 0) x0).bind fun r1=>
  some r1)
   else
  (bif (x1==18) then
  ((idx x0 0).bind fun v2=>
  ((dY m v2).bind fun r3=>
  ((aO m (Bool.not r3)).bind fun r4=>
  some r4)))
  else
  (bif (x1==19) then
  ((idx x0 0).bind fun v5=>
  ((dY m v5).bind fun r6=>
  (bif r6 then
  ((idx x0 1).bind fun v7=>
  some v7)
  else
  (((idx x0 2).bind fun v8=>some v8)))))
  else
  (bif (x1==20) then
  ((idx x0 0).bind fun v9=>
  (bif ((Dt.I v9 0)==0) then
  (jj J 0 19 0 (agj x0 true x4) (e48 J m agh []))
  else
  ((idx x0 0).bind fun v12=>
  (jj J 0 19 0 (agj x0 ((Dt.I v12 0)==2) x4) (e48 J m agh [])))))
  else
  (bif (x1==21) then
  ((jI m x0).bind fun r13=>
  some r13)
  else
  (bif (x1==22) then
  (jj J 0 26 0 (aa8 x0 x1 (x1==22) x3 x4) (e48 J m Mk []))
  else
  (bif (x1==23) then
  (jj J 0 26 0 (aa8 x0 x1 (x1==23) x3 x4) (e48 J m Mk []))
  else
  (jj J 0 26 0 (aa8 x0 x1 (x1==24) x3 x4) (e48 J m Mk [])))))))))) (by simp only[aj,Fu m,Fw m];rfl)
theorem Fy m x0 x1 x2 x3 x4:e48 jn m G9 [] (QK x0 x1 x2 x3 x4)=kX m x0 x1 x2 x3 x4:=
 tq (g:=fun J=>(bif x2 then
  ((dR m (Dt.I x3 0) x0).bind fun r0=>
  some r0)
   else
  (bif (x1==16) then
  (jj J 0 10 0 (agk x0 x1 (x1==16) x3 x4) (e48 J m Mj []))
  else
  (jj J 0 10 0 (agk x0 x1 (x1==17) x3 x4) (e48 J m Mj []))))) (by simp only[aj,Fx m];rfl)
theorem Ml m a0 a1:e48 jn m [] [] ⟨[.dat 29 a0,.dat 23 (.lst a1)],[],0⟩=ak (m+1) a0 a1:=
 tq (g:=fun J=>(bif ((Dt.I a0 0)==4) then
  (jj J 0 7 0 (QK a1 (Dt.I a0 0) ((Dt.I a0 0)==4) a0 kza2373) (e48 J m G9 []))
   else
  (bif ((Dt.I a0 0)==5) then
  (jj J 0 7 0 (QK a1 (Dt.I a0 0) ((Dt.I a0 0)==5) a0 kza2373) (e48 J m G9 []))
  else
  (bif ((Dt.I a0 0)==6) then
  (jj J 0 7 0 (QK a1 (Dt.I a0 0) ((Dt.I a0 0)==6) a0 kza2373) (e48 J m G9 []))
  else
  (bif ((Dt.I a0 0)==7) then
  (jj J 0 7 0 (QK a1 (Dt.I a0 0) ((Dt.I a0 0)==7) a0 kza2373) (e48 J m G9 []))
  else
  (jj J 0 7 0 (QK a1 (Dt.I a0 0) ((Dt.I a0 0)==8) a0 kza2373) (e48 J m G9 []))))))) (by simp only[aj,Fy m];rfl)
def agl:List Nat:=[1,1,1,0,1]
def apA:List Nat:=[1,1,0,1,0,1,1,1,1,1,0,1]
def Tp:List Nat:=[1,1,0,1,0,1,1,1,1,1,1,1]
def aa9:List Nat:=apA++[0]
def apB:List Nat:=Tp++[1,1,0,1]
def agm:List Nat:=apB++[0]
def e33 (J:Q0) (m:Nat):=evAt Tryz.prog env (ct m) J (m+1) 85 86 Tryz.f85 d16
def l33 (J:Q0) (m:Nat):=loopAt Tryz.prog env (ct m) J (m+1) 85 86 Tryz.f85 d16
def QL (x0 x1:Dt):St:=⟨tsOf [(6,.ptr 0 [] 0),(7,.ptr 1 [] 0)],[.box 26 (.dat 26 x0),.box 26 (.dat 26 x1)],0⟩
def agn (x0:Bool) (x1 x2:Dt):St:=⟨tsOf [(6,.ptr 0 [] 0),(7,.ptr 1 [] 0),(83,.dat 4 (.bool x0))],[.box 26 (.dat 26 x1),.box 26 (.dat 26 x2)],0⟩
def abb (x0:List Dt) (x1:Int) (x2 x3 x4:Dt):St:=⟨tsOf [(2,.dat 161 (.lst x0)),(3,.ptr 0 [] 0),(6,.ptr 1 [] 0),(7,.ptr 2 [] 0),(8,.dat 3 (.int x1))],[.box 29 (.dat 29 x2),.box 26 (.dat 26 x3),.box 26 (.dat 26 x4)],0⟩
def Zm (x0:List Dt) (x1:Int) (x2 x3 x4 x5:Dt) (x6:List Dt):St:=⟨tsOf [(2,.dat 161 (.lst x0)),(3,.ptr 0 [] 0),(4,.ptr 1 [] 0),(6,.ptr 2 [] 0),(7,.ptr 3 [] 0),(9,.row 4),(10,.dat 3 (.int x1))],[.box 29 (.dat 29 x2),.box 26 (.dat 26 x3),.box 26 (.dat 26 x4),.box 26 (.dat 26 x5),.row 23 x6],0⟩
def agp (x0:List Dt) (x1:Bool) (x2 x3 x4 x5:Dt):St:=⟨tsOf [(2,.dat 161 (.lst x0)),(3,.ptr 0 [] 0),(4,.ptr 1 [] 0),(6,.ptr 2 [] 0),(7,.ptr 3 [] 0),(69,.dat 4 (.bool x1))],[.box 29 (.dat 29 x2),.box 26 (.dat 26 x3),.box 26 (.dat 26 x4),.box 26 (.dat 26 x5)],0⟩
theorem Hf m x0 x1 x2:e33 jn m agl [] (agn x0 x1 x2)=xW m (ref08_eval m) (bD m) x0 x1 x2:=
 tq (g:=fun J=>(bif x0 then
  ((aS m).bind fun r1=>
  some r1)
   else
  (some x2))) (by rfl)
theorem oM m x0 x1:e33 jn m [1,1,1] [] (QL x0 x1)=dN m (ref08_eval m) (bD m) x0 x1:=
 tq (g:=fun J=>(bif ((Dt.I x1 0) !=0) then
  ((eF m x1).bind fun r0=>
  (jj J 0 23 0 (agn (Bool.not r0) x0 x1) (e33 J m agl [])))
   else
  (jj J 0 23 0 (agn false x0 x1) (e33 J m agl [])))) (by simp only[aj,Hf m];rfl)
theorem yL m:∀M4 x0 x1 x2 x3 x4,l33 jn m aa9 [] M4 (abb x0 x1 x2 x3 x4)=nu m (ref08_eval m) (bD m) M4 x0 x1 x2 x3 x4
 |0,_,_,_,_,_=>rfl
 | M4+1,x0,x1,x2,x3,x4=>
   tl (g:=fun J=>(bif (decide (x1<(List.length x0:Int))) then
  (((idx x0 x1).bind fun v3=>(bif ((ByteArray.toList (Dt.S v3 0))==(ByteArray.toList (Dt.S x2 2))) then((idx x0 x1).bind fun v4=>((fG m (Dt.fld v4 1) (Dt.L x2 1)).bind fun r5=>((jj J 1 15 M4 (abb x0 (IntKind.wrap .i64 (x1+1)) x2 x3 r5) (l33 J m aa9 [] M4))))) else((jj J 1 15 M4 (abb x0 (IntKind.wrap .i64 (x1+1)) x2 x3 x4) (l33 J m aa9 [] M4))))))
   else
  (jj J 0 22 0 (QL x3 x4) (e33 J m [1,1,1] [])))) (by simp only[aj,(yL m M4),oM m];rfl)
theorem yM m:∀M9 x0 x1 x2 x3 x4 x5 x6,l33 jn m agm [] M9 (Zm x0 x1 x2 x3 x4 x5 x6)=oU m (ref08_eval m) (bD m) M9 x0 x1 x2 x3 x4 x5 x6
 |0,_,_,_,_,_,_,_=>rfl
 | M9+1,x0,x1,x2,x3,x4,x5,x6=>
   tl (g:=fun J=>(bif (decide (x1<(List.length (Dt.L x2 6):Int))) then
  (((idx (Dt.L x2 6) x1).bind fun v7=>((ref08_eval m v7 x3 x0).bind fun r8=>((app x6 [r8]).bind fun v9=>((jj J 1 5 M9 (Zm x0 (IntKind.wrap .i64 (x1+1)) x2 x3 x4 x5 v9) (l33 J m agm [] M9)))))))
   else
  (((ak m x2 x6).bind fun r10=>(jj J 0 22 0 (QL x4 r10) (e33 J m [1,1,1] [])))))) (by simp only[aj,(yM m M9),oM m];rfl)
theorem Hg m x0 x1 x2 x3 x4 x5:e33 jn m Tp [] (agp x0 x1 x2 x3 x4 x5)=xX m (ref08_eval m) (bD m) x0 x1 x2 x3 x4 x5:=
 tq (g:=fun J=>(bif x1 then
  ((bD m x2 x3 x0).bind fun r6=>
  (jj J 0 22 0 (QL x4 r6) (e33 J m [1,1,1] [])))
   else
  ((jj J 1 5 (Nat.succ m) (Zm x0 0 x2 x3 x4 x5 []) (l33 J m agm [] (Nat.succ m)))))) (by simp only[aj,oM m,yM m];rfl)
theorem OL m a0 a1 a2:e33 jn m [] [] ⟨[.dat 29 a0,.dat 26 a1,.dat 161 (.lst a2)],[],0⟩=ref08_eval (m+1) a0 a1 a2:=
 tq (g:=fun J=>(bif ((Dt.I a0 0)==1) then
  (jj J 0 22 0 (QL kza2373 (Dt.fld a0 4)) (e33 J m [1,1,1] []))
   else
  (bif ((Dt.I a0 0)==2) then
  ((fG m a1 (Dt.L a0 1)).bind fun r2=>
  (jj J 0 22 0 (QL kza2373 r2) (e33 J m [1,1,1] [])))
  else
  (bif ((Dt.I a0 0)==3) then
  ((jj J 1 15 (Nat.succ m) (abb a2 0 a0 kza2373 kza2373) (l33 J m aa9 [] (Nat.succ m))))
  else
  (bif ((Dt.I a0 0)==32) then
  (jj J 0 21 0 (agp a2 ((Dt.I a0 0)==32) a0 a1 kza2373 kza2373) (e33 J m Tp []))
  else
  (jj J 0 21 0 (agp a2 ((Dt.I a0 0)==33) a0 a1 kza2373 kza2373) (e33 J m Tp []))))))) (by simp only[aj,oM m,yL m,Hg m];rfl)
def apC:List Nat:=[1,1,1,1,0,1]
def Wi:List Nat:=apC++[0]
def apD:List Nat:=Wi++[0,1]
def abd:List Nat:=apD++[1]
def e47 (J:Q0) (m:Nat):=evAt Tryz.prog env (ct m) J (m+1) 125 75 Tryz.f125 d16
def l47 (J:Q0) (m:Nat):=loopAt Tryz.prog env (ct m) J (m+1) 125 75 Tryz.f125 d16
def Jw (x0:List Dt) (x1:Int) (x2 x3 x4 x5:Dt) (x6 x7:Int) (x8:ByteArray) (x9 x10:List Dt):St:=⟨tsOf [(2,.dat 161 (.lst x0)),(3,.ptr 0 [] 0),(4,.ptr 1 [] 0),(6,.ptr 2 [] 0),(7,.ptr 3 [] 0),(8,.ptr 4 [] 0),(9,.dat 3 (.int x1))],[.box 29 (.dat 29 x2),.box 26 (.dat 26 x3),.box 26 (.dat 26 x4),.box 26 (.dat 26 x5),.box 26 (.agg 26 [.dat 3 (.int x6),.dat 3 (.int x7),.dat 9 (.str x8),.row 5,.row 6]),.row 23 x9,.row 24 x10],0⟩
abbrev apE (m M2:Nat) (rec2:Q67):Prop:=∀x0 x1 x2 x3 x4 x5 x6 x7 x8 x9 x10,l47 jn m Wi [] M2 (Jw x0 x1 x2 x3 x4 x5 x6 x7 x8 x9 x10)=rec2 x0 x1 x2 x3 x4 x5 x6 x7 x8 x9 x10
theorem Hl m M2 rec2 (h2:apE m M2 rec2) x0 x1 x2 x3 x4 x5 x6 x7 x8 x9 x10:e47 jn m abd [M2] (Jw x0 x1 x2 x3 x4 x5 x6 x7 x8 x9 x10)=oV m (ref08_eval m) rec2 x0 x1 x2 x3 x4 x5 x6 x7 x8 x9 x10:=
 tq (g:=fun J=>(jj J 1 6 M2 (Jw x0 (IntKind.wrap .i64 (x1+1)) x2 x3 x4 x5 x6 x7 x8 x9 x10) (l47 J m Wi [] M2))) (by simp only[aj,h2];rfl)
theorem yN m:∀M2 x0 x1 x2 x3 x4 x5 x6 x7 x8 x9 x10,l47 jn m Wi [] M2 (Jw x0 x1 x2 x3 x4 x5 x6 x7 x8 x9 x10)=iK m (ref08_eval m) M2 x0 x1 x2 x3 x4 x5 x6 x7 x8 x9 x10
 |0,_,_,_,_,_,_,_,_,_,_,_=>rfl
 | M2+1,x0,x1,x2,x3,x4,x5,x6,x7,x8,x9,x10=>
   tl (g:=fun J=>(bif (decide (x1<(List.length (Dt.L x5 3):Int))) then
  (((app [] x0).bind fun v3=>((idx (Dt.L x5 3) x1).bind fun v4=>((app v3 [(Dt.agg [(Dt.str (Dt.S x2 2)),v4])]).bind fun v5=>((idx (Dt.L x2 6) 1).bind fun v6=>((ref08_eval m v6 x3 v5).bind fun r7=>(bif ((Dt.I x2 0)==32) then((lU m r7).bind fun r8=>((app x9 [r8]).bind fun v9=>(jj J 0 7 0 (Jw x0 x1 x2 x3 x4 x5 x6 x7 x8 v9 x10) (e47 J m abd [M2])))) else((dY m r7).bind fun r10=>(bif r10 then((idx (Dt.L x5 3) x1).bind fun v11=>((app x9 [v11]).bind fun v12=>(jj J 0 7 0 (Jw x0 x1 x2 x3 x4 x5 x6 x7 x8 v12 x10) (e47 J m abd [M2])))) else(jj J 0 7 0 (Jw x0 x1 x2 x3 x4 x5 x6 x7 x8 x9 x10) (e47 J m abd [M2])))))))))))
   else
  (some (Dt.agg [(Dt.int x6),(Dt.int x7),(Dt.str x8),(Dt.lst x9),(Dt.lst x10)])))) (by simp only[aj,Hl m M2 (iK m (ref08_eval m) M2) (yN m M2)];rfl)
theorem OM m a0 a1 a2:e47 jn m [] [] ⟨[.dat 29 a0,.dat 26 a1,.dat 161 (.lst a2)],[],0⟩=bD (m+1) a0 a1 a2:=
 tq (g:=fun J=>((idx (Dt.L a0 6) 0).bind fun v0=>
  ((ref08_eval m v0 a1 a2).bind fun r1=>
  (bif ((Dt.I r1 0) !=6) then
  ((aS m).bind fun r2=>
  some r2)
  else
  (((jj J 1 6 (Nat.succ m) (Jw a2 0 a0 a1 kza2373 r1 6 0 (ByteArray.mk (List.toArray [])) [] []) (l47 J m Wi [] (Nat.succ m))))))))) (by simp only[aj,yN m];rfl)
def e19 (J:Q0) (m:Nat):=evAt Tryz.prog env (ct m) J (m+1) 41 18 Tryz.f41 d16
theorem OO m a0 a1:e19 jn m [] [] ⟨[.dat 29 a0,.dat 26 a1],[],0⟩=ref08_Eval (m+1) a0 a1:=
 tq (g:=fun J=>((iH m a0).bind fun r0=>
  (bif (r0 !=0) then
  some kza2373
  else
  (((ref08_eval m a0 a1 []).bind fun r1=>(bif ((Dt.I r1 0)==0) then some kza2373 else(some r1))))))) (by rfl)
def apF:List Nat:=[1,1,1,1,0,1]
def adi:List Nat:=apF++[0]
def apG:List Nat:=adi++[0,1]
def aq4:List Nat:=apG++[0,0,1]
def aq5:List Nat:=aq4++[1,0,1]
def adj:List Nat:=aq5++[0]
def aq6:List Nat:=adj++[0,1]
def amt:List Nat:=aq6++[0,0,1,1]
def e4 (J:Q41) (m:Nat):=evAt Tryz.prog env (ct m) J (m+1) 20 90 Tryz.f20 d94
def l4 (J:Q41) (m:Nat):=loopAt Tryz.prog env (ct m) J (m+1) 20 90 Tryz.f20 d94
def agq (x0 x1:List Dt) (x2 x3 x4 x5:Int) (x6:Dt) (x7:List Dt):St:=⟨tsOf [(1,.dat 23 (.lst x0)),(2,.dat 23 (.lst x1)),(3,.ptr 0 [] 0),(7,.row 1),(8,.dat 3 (.int x2)),(9,.dat 3 (.int x3)),(10,.dat 3 (.int x4)),(11,.dat 3 (.int x5))],[.box 29 (.dat 29 x6),.row 23 x7],0⟩
def amu (x0 x1:List Dt) (x2 x3 x4 x5:Int) (x6:Bool) (x7:Dt) (x8:List Dt):St:=⟨tsOf [(1,.dat 23 (.lst x0)),(2,.dat 23 (.lst x1)),(3,.ptr 0 [] 0),(7,.row 1),(8,.dat 3 (.int x2)),(9,.dat 3 (.int x3)),(10,.dat 3 (.int x4)),(11,.dat 3 (.int x5)),(64,.dat 4 (.bool x6))],[.box 29 (.dat 29 x7),.row 23 x8],0⟩
def Wj (x0 x1:List Dt) (x2 x3:Int) (x4:Dt) (x5:List Dt):St:=⟨tsOf [(1,.dat 23 (.lst x0)),(2,.dat 23 (.lst x1)),(3,.ptr 0 [] 0),(7,.row 1),(8,.dat 3 (.int x2)),(9,.dat 3 (.int x3))],[.box 29 (.dat 29 x4),.row 23 x5],0⟩
abbrev apH (m M2:Nat) (rec2:Q21):Prop:=∀x0 x1 x2 x3 x4 x5,l4 jn m adi [] M2 (Wj x0 x1 x2 x3 x4 x5)=rec2 x0 x1 x2 x3 x4 x5
abbrev aq7 (m M2 M6:Nat) (rec6:Q49):Prop:=∀x0 x1 x2 x3 x4 x5 x6 x7,l4 jn m adj [M2] M6 (agq x0 x1 x2 x3 x4 x5 x6 x7)=rec6 x0 x1 x2 x3 x4 x5 x6 x7
theorem D9 m M2 rec2 (h2:apH m M2 rec2) M6 rec6 (h6:aq7 m M2 M6 rec6) x0 x1 x2 x3 x4 x5 x6 x7 x8:e4 jn m amt [M2,M6] (amu x0 x1 x2 x3 x4 x5 x6 x7 x8)=mJ m rec2 rec6 x0 x1 x2 x3 x4 x5 x6 x7 x8:=
 tq (g:=fun J=>(bif x6 then
  ((jj J 1 12 M6 (agq x0 x1 x2 x3 (IntKind.wrap .i64 (x4+1)) (IntKind.wrap .i64 (x5+1)) x7 x8) (l4 J m adj [M2] M6)))
   else
  ((jj J 1 12 M6 (agq x0 x1 x2 x3 x4 (IntKind.wrap .i64 (x5+1)) x7 x8) (l4 J m adj [M2] M6))))) (by simp only[aj,h6];rfl)
theorem vH m M2 rec2 (h2:apH m M2 rec2):∀M6 x0 x1 x2 x3 x4 x5 x6 x7,l4 jn m adj [M2] M6 (agq x0 x1 x2 x3 x4 x5 x6 x7)=dS m rec2 M6 x0 x1 x2 x3 x4 x5 x6 x7
 |0,_,_,_,_,_,_,_,_=>rfl
 | M6+1,x0,x1,x2,x3,x4,x5,x6,x7=>
   tl (g:=fun J=>(bif (decide (x5<(List.length x1:Int))) then
  (((idx x1 x5).bind fun v3=>((ref08_Eval m x6 v3).bind fun r4=>((idx x0 x3).bind fun v5=>((aA m r4 v5).bind fun r6=>(bif (decide (0≤r6)) then((idx x0 (IntKind.wrap .i64 (x3+1))).bind fun v7=>((aA m r4 v7).bind fun r8=>(jj J 0 16 0 (amu x0 x1 x2 x3 x4 x5 (decide (r8<0)) x6 x7) (e4 J m amt [M2,M6])))) else(jj J 0 16 0 (amu x0 x1 x2 x3 x4 x5 false x6 x7) (e4 J m amt [M2,M6]))))))))
   else
  ((bif (decide (0<x4)) then((idx x0 x3).bind fun v9=>((iw m v9 x4).bind fun r10=>((app x7 [r10]).bind fun v11=>(((jj J 1 6 M2 (Wj x0 x1 (IntKind.wrap .i64 (x2-x4)) (IntKind.wrap .i64 (x3+1)) x6 v11) (l4 J m adi [] M2))))))) else(((jj J 1 6 M2 (Wj x0 x1 (IntKind.wrap .i64 (x2-x4)) (IntKind.wrap .i64 (x3+1)) x6 x7) (l4 J m adi [] M2)))))))) (by simp only[aj,D9 m M2 rec2 h2 M6 (dS m rec2 M6) (vH m M2 rec2 h2 M6),h2];rfl)
theorem vI m:∀M2 x0 x1 x2 x3 x4 x5,l4 jn m adi [] M2 (Wj x0 x1 x2 x3 x4 x5)=dF m M2 x0 x1 x2 x3 x4 x5
 |0,_,_,_,_,_,_=>rfl
 | M2+1,x0,x1,x2,x3,x4,x5=>
   tl (g:=fun J=>(bif (decide ((IntKind.wrap .i64 (x3+1))<(List.length x0:Int))) then
  (((idx x0 x3).bind fun v0=>((idx x0 (IntKind.wrap .i64 (x3+1))).bind fun v1=>((aA m v0 v1).bind fun r2=>(bif (decide (0≤r2)) then some [] else(((jj J 1 12 (Nat.succ m) (agq x0 x1 x2 x3 0 0 x4 x5) (l4 J m adj [M2] (Nat.succ m))))))))))
   else
  ((bif (decide (0<x2)) then((rz m).bind fun r12=>((iw m r12 x2).bind fun r13=>((app x5 [r13]).bind fun v14=>(some v14)))) else(some x5))))) (by simp only[aj,vH m M2 (dF m M2) (vI m M2)];rfl)
theorem J4 m a0 a1 a2:e4 jn m [] [] ⟨[.dat 29 a0,.dat 23 (.lst a1),.dat 23 (.lst a2)],[],0⟩=jM (m+1) a0 a1 a2:=
 tq (g:=fun J=>(bif (decide ((List.length a1:Int)<2)) then
  some []
   else
  (((jj J 1 6 (Nat.succ m) (Wj a1 a2 (List.length a2:Int) 0 a0 []) (l4 J m adi [] (Nat.succ m))))))) (by simp only[aj,vI m];rfl)
def amv:List Nat:=[1,1,0,1,0,1,1]
def Zn:List Nat:=amv++[0]
def amw:List Nat:=[1,1,1,0,1,0,1,1]
def Zo:List Nat:=amw++[0]
def e116 (J:Q81) (m:Nat):=evAt Tryz.prog env (ct m) J (m+1) 156 68 Tryz.f156 akr
def adk (J:Q81) (m:Nat):=loopAt Tryz.prog env (ct m) J (m+1) 156 68 Tryz.f156 akr
def Zp (x0:List Dt) (x1 x2:Int) (x3 x4:Dt) (x5 x6:Int) (x7:ByteArray) (x8 x9:List Dt):St:=⟨tsOf [(1,.ptr 0 [] 0),(2,.ptr 1 [] 0),(3,.ptr 2 [] 0),(25,.dat 23 (.lst x0)),(26,.dat 3 (.int x1)),(27,.dat 3 (.int x2))],[.box 26 (.dat 26 x3),.box 26 (.dat 26 x4),.box 26 (.agg 26 [.dat 3 (.int x5),.dat 3 (.int x6),.dat 9 (.str x7),.row 3,.row 4]),.row 23 x8,.row 24 x9],0⟩
def Zq (x0:List Dt) (x1 x2:Int) (x3:Dt) (x4 x5:Int) (x6:ByteArray) (x7 x8:List Dt):St:=⟨tsOf [(2,.ptr 0 [] 0),(3,.ptr 1 [] 0),(49,.dat 24 (.lst x0)),(50,.dat 3 (.int x1)),(51,.dat 3 (.int x2))],[.box 26 (.dat 26 x3),.box 26 (.agg 26 [.dat 3 (.int x4),.dat 3 (.int x5),.dat 9 (.str x6),.row 2,.row 3]),.row 23 x7,.row 24 x8],0⟩
def Zr (x0 x1:Dt) (x2 x3:Int) (x4:ByteArray) (x5 x6:List Dt):St:=⟨tsOf [(1,.ptr 0 [] 0),(2,.ptr 1 [] 0),(3,.ptr 2 [] 0)],[.box 26 (.dat 26 x0),.box 26 (.dat 26 x1),.box 26 (.agg 26 [.dat 3 (.int x2),.dat 3 (.int x3),.dat 9 (.str x4),.row 3,.row 4]),.row 23 x5,.row 24 x6],0⟩
theorem wO m:∀M6 x0 x1 x2 x3 x4 x5 x6 x7 x8,adk jn m Zo [] M6 (Zq x0 x1 x2 x3 x4 x5 x6 x7 x8)=nY m (bf m) M6 x0 x1 x2 x3 x4 x5 x6 x7 x8
 |0,_,_,_,_,_,_,_,_,_=>rfl
 | M6+1,x0,x1,x2,x3,x4,x5,x6,x7,x8=>
   tl (g:=fun J=>(bif (decide (x2<x1)) then
  (((idx x0 x2).bind fun v6=>((bf m (Dt.fld v6 1)).bind fun r7=>((inL x8 x2).bind fun v8=>((x8[(Int.toNat x2)]?).bind fun v9=>((jj J 1 12 M6 (Zq x0 x1 (IntKind.wrap .i64 (x2+1)) x3 x4 x5 x6 x7 (List.set x8 (Int.toNat x2) (Dt.agg [(Dt.str (Dt.S v6 0)),(Dt.agg [(Dt.int r7.1),(Dt.int r7.2.1),(Dt.str r7.2.2.1),(Dt.lst r7.2.2.2.1),(Dt.lst r7.2.2.2.2)])]))) (adk J m Zo [] M6))))))))
   else
  (some (x4,x5,x6,x7,x8)))) (by simp only[aj,(wO m M6)];rfl)
theorem wP m x0 x1 x2 x3 x4 x5 x6:e116 jn m [1,1,1] [] (Zr x0 x1 x2 x3 x4 x5 x6)=iZ m (bf m) x0 x1 x2 x3 x4 x5 x6:=
 tq (g:=fun J=>(bif (decide (0<(List.length (Dt.L x0 4):Int))) then
  ((mkL (List.length (Dt.L x0 4):Int) (List.length (Dt.L x0 4):Int) BM).bind fun v5=>
  ((jj J 1 12 (Nat.succ m) (Zq (Dt.L x0 4) (List.length (Dt.L x0 4):Int) 0 x1 x2 x3 x4 x5 v5) (adk J m Zo [] (Nat.succ m)))))
   else
  (some (x2,x3,x4,x5,x6)))) (by simp only[aj,wO m];rfl)
theorem wQ m:∀M1 x0 x1 x2 x3 x4 x5 x6 x7 x8 x9,adk jn m Zn [] M1 (Zp x0 x1 x2 x3 x4 x5 x6 x7 x8 x9)=kY m (bf m) M1 x0 x1 x2 x3 x4 x5 x6 x7 x8 x9
 |0,_,_,_,_,_,_,_,_,_,_=>rfl
 | M1+1,x0,x1,x2,x3,x4,x5,x6,x7,x8,x9=>
   tl (g:=fun J=>(bif (decide (x2<x1)) then
  (((idx x0 x2).bind fun v1=>((bf m v1).bind fun r2=>((inL x8 x2).bind fun v3=>((x8[(Int.toNat x2)]?).bind fun v4=>((jj J 1 5 M1 (Zp x0 x1 (IntKind.wrap .i64 (x2+1)) x3 x4 x5 x6 x7 (List.set x8 (Int.toNat x2) (Dt.agg [(Dt.int r2.1),(Dt.int r2.2.1),(Dt.str r2.2.2.1),(Dt.lst r2.2.2.2.1),(Dt.lst r2.2.2.2.2)])) x9) (adk J m Zn [] M1))))))))
   else
  (jj J 0 9 0 (Zr x3 x4 x5 x6 x7 x8 x9) (e116 J m [1,1,1] [])))) (by simp only[aj,(wQ m M1),wP m];rfl)
theorem Mq m a0:e116 jn m [] [] ⟨[.dat 26 a0],[],0⟩=bf (m+1) a0:=
 tq (g:=fun J=>(bif (decide (0<(List.length (Dt.L a0 3):Int))) then
  ((mkL (List.length (Dt.L a0 3):Int) (List.length (Dt.L a0 3):Int) kza2373).bind fun v0=>
  ((jj J 1 5 (Nat.succ m) (Zp (Dt.L a0 3) (List.length (Dt.L a0 3):Int) 0 a0 kza2373 (Dt.I a0 0) (Dt.I a0 1) (Dt.S a0 2) v0 []) (adk J m Zn [] (Nat.succ m)))))
   else
  (jj J 0 9 0 (Zr a0 kza2373 (Dt.I a0 0) (Dt.I a0 1) (Dt.S a0 2) [] []) (e116 J m [1,1,1] [])))) (by simp only[aj,wQ m,wP m];rfl)
end Go.Proofs.YtmecfjhdnbgfeaaGreatDoor
