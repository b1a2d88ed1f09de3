/- Generated: each function's run in the abstract machine is its shallow function. -/
import Derived.Test.YtjnkagkoolbodaaGreatDoorCt
import Derived.Test.YtjnkagkoolbodaaGreatDoorAmEnv
import Derived.KernelRfl
set_option linter.unusedVariables false
set_option linter.unusedSimpArgs false
namespace Go.Proofs.YtjnkagkoolbodaaGreatDoor
open Go.Am
set_option maxRecDepth 100000
def Vg:List Nat:=[1,1,0,1,0]
def Mk:List Nat:=[1,1,0,1,0,0,1]
def av2:List Nat:=Mk++[1]
def ahe:List Nat:=Mk++[0,0,1,1]
def av3:List Nat:=ahe++[1]
def ahf:List Nat:=Mk++[0,0,1,0,1]
def Ml:List Nat:=ahf++[0]
def ahg:List Nat:=Ml++[0,1]
def ahh:List Nat:=ahg++[1]
noncomputable def e54 (J:Q1) (m:Nat):=evAt Tryz.prog env (ct m) J (m+1) 85 57 Tryz.f85 d57
noncomputable def l54 (J:Q1) (m:Nat):=loopAt Tryz.prog env (ct m) J (m+1) 85 57 Tryz.f85 d57
noncomputable def kI (x0:List Dt) (x1:Int) (x2:Bool) (x3:Int):St:=⟨tsOf [(0,.dat 67 (.lst x0)),(3,.dat 3 (.int x1)),(4,.dat 4 (.bool x2)),(5,.dat 3 (.int x3))],[],0⟩
noncomputable def fE (x0:List Dt) (x1:Int):St:=⟨tsOf [(0,.dat 67 (.lst x0)),(3,.dat 3 (.int x1))],[],0⟩
noncomputable def av4 (x0:List Dt) (x1:Int) (x2:Bool):St:=⟨tsOf [(0,.dat 67 (.lst x0)),(3,.dat 3 (.int x1)),(4,.dat 4 (.bool x2))],[],0⟩
noncomputable def ahi:St:=⟨tsOf [],[],0⟩
noncomputable def av5 (x0:List Dt):St:=⟨tsOf [(0,.dat 67 (.lst x0))],[],0⟩
noncomputable def ahj (x0:List Dt) (x1:Bool):St:=⟨tsOf [(0,.dat 67 (.lst x0)),(14,.dat 4 (.bool x1))],[],0⟩
abbrev uJ (m M3:Nat) (rec3:Q2):Prop:=∀x0 x1,l54 jn m Vg [] M3 (fE x0 x1)=rec3 x0 x1
abbrev av6 (m M3 M6:Nat) (rec6:Q45):Prop:=∀x0 x1 x2 x3,l54 jn m Ml [M3] M6 (kI x0 x1 x2 x3)=rec6 x0 x1 x2 x3
theorem ahk m M3 rec3 (h3:uJ m M3 rec3) M6 rec6 (h6:av6 m M3 M6 rec6) x0 x1 x2 x3:e54 jn m ahh [M3,M6] (kI x0 x1 x2 x3)=Oy m (qV m) rec3 rec6 x0 x1 x2 x3:=
 tq (g:=fun J=>(jj J 1 8 M6 (kI x0 x1 x2 (IntKind.wrap .i64 (x3+1))) (l54 J m Ml [M3] M6))) (by simp only[ah,h6];rfl)
theorem ahl m M3 rec3 (h3:uJ m M3 rec3) M6 rec6 (h6:av6 m M3 M6 rec6) x0 x1 x2 x3:e54 jn m ahg [M3,M6] (kI x0 x1 x2 x3)=akh m (qV m) rec3 rec6 x0 x1 x2 x3:=
 tq (g:=fun J=>(bif x2 then
  ((idx x0 x3).bind fun v2=>
  ((idx x0 x1).bind fun v3=>
  (jj J 0 9 0 (kI x0 x1 (Bool.not ((ByteArray.toList (Dt.S v2 0))==(ByteArray.toList (Dt.S v3 0)))) x3) (e54 J m ahh [M3,M6]))))
   else
  (jj J 0 9 0 (kI x0 x1 false x3) (e54 J m ahh [M3,M6])))) (by simp only[ah,ahk m M3 rec3 h3 M6 rec6 h6];rfl)
theorem Y6 m M3 rec3 (h3:uJ m M3 rec3) x0 x1:e54 jn m av2 [M3] (fE x0 x1)=RL m (qV m) rec3 x0 x1:=
 tq (g:=fun J=>(jj J 1 4 M3 (fE x0 (IntKind.wrap .i64 (x1+1))) (l54 J m Vg [] M3))) (by simp only[ah,h3];rfl)
theorem Y7 m M3 rec3 (h3:uJ m M3 rec3) x0 x1:e54 jn m av3 [M3] (fE x0 x1)=RN m (qV m) rec3 x0 x1:=
 tq (g:=fun J=>((idx x0 x1).bind fun v4=>
  ((qV m (Dt.L v4 1) false).bind fun r5=>
  (bif (r5 !=0) then
  some r5
  else
  (jj J 0 5 0 (fE x0 x1) (e54 J m av2 [M3])))))) (by simp only[ah,Y6 m M3 rec3 h3];rfl)
theorem ahm m M3 rec3 (h3:uJ m M3 rec3) x0 x1 x2:e54 jn m ahe [M3] (av4 x0 x1 x2)=aki m (qV m) rec3 x0 x1 x2:=
 tq (g:=fun J=>(bif (Bool.not x2) then
  some 9
   else
  (jj J 0 13 0 (fE x0 x1) (e54 J m av3 [M3])))) (by simp only[ah,Y7 m M3 rec3 h3];rfl)
theorem Mq m M3 rec3 (h3:uJ m M3 rec3):∀M6 x0 x1 x2 x3,l54 jn m Ml [M3] M6 (kI x0 x1 x2 x3)=CZ m (qV m) rec3 M6 x0 x1 x2 x3
 |0,_,_,_,_=>rfl
 | M6+1,x0,x1,x2,x3=>
   tl (g:=fun J=>(bif (decide (x3<x1)) then
  (jj J 0 10 0 (kI x0 x1 x2 x3) (e54 J m ahg [M3,M6]))
   else
  (jj J 0 11 0 (av4 x0 x1 x2) (e54 J m ahe [M3])))) (by simp only[ah,ahl m M3 rec3 h3 M6 (CZ m (qV m) rec3 M6) (Mq m M3 rec3 h3 M6),ahm m M3 rec3 h3];rfl)
theorem ahn m M3 rec3 (h3:uJ m M3 rec3) x0 x1 x2 x3:e54 jn m ahf [M3] (kI x0 x1 x2 x3)=awS m (qV m) rec3 x0 x1 x2 x3:=
 tq (g:=fun J=>(jj J 1 8 (Nat.succ m) (kI x0 x1 x2 x3) (l54 J m Ml [M3] (Nat.succ m)))) (by simp only[ah,Mq m M3 rec3 h3];rfl)
theorem aho m M3 rec3 (h3:uJ m M3 rec3) x0 x1:e54 jn m Mk [M3] (fE x0 x1)=akj m (qV m) rec3 x0 x1:=
 tq (g:=fun J=>((idx x0 x1).bind fun v0=>
  ((yV m (Dt.S v0 0)).bind fun r1=>
  (jj J 0 8 0 (kI x0 x1 r1 0) (e54 J m ahf [M3]))))) (by simp only[ah,ahn m M3 rec3 h3];rfl)
theorem Y8 m:e54 jn m [1,1,1] [] ahi=akk m (qV m):=
 tq (g:=fun J=>some 0) (by rfl)
theorem Mr m:∀M3 x0 x1,l54 jn m Vg [] M3 (fE x0 x1)=Hu m (qV m) M3 x0 x1
 |0,_,_=>rfl
 | M3+1,x0,x1=>
   tl (g:=fun J=>(bif (decide (x1<(List.length x0:Int))) then
  (jj J 0 6 0 (fE x0 x1) (e54 J m Mk [M3]))
   else
  (jj J 0 16 0 ahi (e54 J m [1,1,1] [])))) (by simp only[ah,aho m M3 (Hu m (qV m) M3) (Mr m M3),Y8 m];rfl)
theorem ahp m x0 x1:e54 jn m [1,1,0,1] [] (fE x0 x1)=awT m (qV m) x0 x1:=
 tq (g:=fun J=>(jj J 1 4 (Nat.succ m) (fE x0 x1) (l54 J m Vg [] (Nat.succ m)))) (by simp only[ah,Mr m];rfl)
theorem ahq m x0:e54 jn m [1,1] [] (av5 x0)=awU m (qV m) x0:=
 tq (g:=fun J=>(jj J 0 4 0 (fE x0 0) (e54 J m [1,1,0,1] []))) (by simp only[ah,ahp m];rfl)
theorem ahr m x0 x1:e54 jn m [1,0,1] [] (ahj x0 x1)=Oz m (qV m) x0 x1:=
 tq (g:=fun J=>(bif x1 then
  some 21
   else
  (jj J 0 3 0 (av5 x0) (e54 J m [1,1] [])))) (by simp only[ah,ahq m];rfl)
theorem aCP m a0:e54 jn m [] [] ⟨[.dat 67 (.lst a0)],[],0⟩=qT (m+1) a0:=
 tq (g:=fun J=>(bif (decide ((List.length a0:Int)<1)) then
  (jj J 0 2 0 (ahj a0 true) (e54 J m [1,0,1] []))
   else
  (jj J 0 2 0 (ahj a0 (decide (32<(List.length a0:Int)))) (e54 J m [1,0,1] [])))) (by simp only[ah,ahr m];rfl)
noncomputable def e1 (J:Q1) (m:Nat):=evAt Tryz.prog env (ct m) J (m+1) 5 8 Tryz.f5 d57
noncomputable def l1 (J:Q1) (m:Nat):=loopAt Tryz.prog env (ct m) J (m+1) 5 8 Tryz.f5 d57
noncomputable def aCQ (x0:List Dt):St:=⟨tsOf [(0,.dat 22 (.lst x0))],[],0⟩
theorem ahs m x0:e1 jn m [1,1] [] (aCQ x0)=akl m x0:=
 tq (g:=fun J=>((qV m x0 true).bind fun r1=>
  some r1)) (by rfl)
theorem aCR m a0:e1 jn m [] [] ⟨[.dat 22 (.lst a0)],[],0⟩=y9 (m+1) a0:=
 tq (g:=fun J=>((qW m a0 1).bind fun r0=>
  (bif (decide (32<r0)) then
  some 2
  else
  (jj J 0 3 0 (aCQ a0) (e1 J m [1,1] []))))) (by simp only[ah,ahs m];rfl)
noncomputable def e0 (J:Q0) (m:Nat):=evAt Tryz.prog env (ct m) J (m+1) 4 41 Tryz.f4 d9
noncomputable def l0 (J:Q0) (m:Nat):=loopAt Tryz.prog env (ct m) J (m+1) 4 41 Tryz.f4 d9
noncomputable def aCS (x0:List Dt):St:=⟨tsOf [(0,.dat 22 (.lst x0))],[],0⟩
theorem aht m x0:e0 jn m [1,1] [] (aCS x0)=akm m x0:=
 tq (g:=fun J=>((zV m x0).bind fun r2=>
  ((z8 m x0).bind fun r3=>
  ((zN m r2.1 r3.1).bind fun r4=>
  (bif r4 then
  ((zN m r2.2.1 r3.2.1).bind fun r5=>
  (bif r5 then
  ((qP m r2.2.2 r3.2.2).bind fun r6=>
  (bif r6 then
  ((tL).bind fun r7=>
  some r7)
  else
  some false))
  else
  some false))
  else
  some false))))) (by rfl)
theorem aCT m a0:e0 jn m [] [] ⟨[.dat 22 (.lst a0)],[],0⟩=yN (m+1) a0:=
 tq (g:=fun J=>((y9 m a0).bind fun r0=>
  (bif (r0 !=0) then
  ((tL).bind fun r1=>
  some r1)
  else
  (jj J 0 3 0 (aCS a0) (e0 J m [1,1] []))))) (by simp only[ah,aht m];rfl)
end Go.Proofs.YtjnkagkoolbodaaGreatDoor
