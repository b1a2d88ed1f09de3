/- Generated: each function's run in the abstract machine is its shallow function. -/
import Derived.Test.YtmecfjhdnbgfeaaGreatDoorP1Ct
import Derived.Test.YtmecfjhdnbgfeaaGreatDoorAmEnv
import Derived.KernelRfl
set_option linter.unusedVariables false
set_option linter.unusedSimpArgs false
noncomputable section
namespace Go.Proofs.YtmecfjhdnbgfeaaGreatDoor.P1
open Go.Am
set_option maxRecDepth 100000
def e1 (J:Nat→Nat→Nat→St→Option Dt→Option Dt) (m:Nat):=evAt Tryz.prog env (ct m) J (m+1) 123 2 Tryz.f123 d1
theorem zn m:e1 jn m [] [] ⟨[],[],0⟩=aT (m+1):=
 tq (g:=fun J=>some nC) (by rfl)
def e3 (J:Nat→Nat→Nat→St→Option Dt→Option Dt) (m:Nat):=evAt Tryz.prog env (ct m) J (m+1) 214 5 Tryz.f214 d1
theorem RZ m a0:e3 jn m [] [] ⟨[.dat 9 (.str a0)],[],0⟩=oL (m+1) a0:=
 tq (g:=fun J=>some (Dt.agg [(Dt.int 4),(Dt.int 0),(Dt.str a0),(Dt.lst []),(Dt.lst [])])) (by rfl)
def e4 (J:Nat→Nat→Nat→St→Option Dt→Option Dt) (m:Nat):=evAt Tryz.prog env (ct m) J (m+1) 166 5 Tryz.f166 d1
theorem tL m a0:e4 jn m [] [] ⟨[.dat 3 (.int a0)],[],0⟩=aN (m+1) a0:=
 tq (g:=fun J=>some (Dt.agg [(Dt.int 3),(Dt.int a0),(Dt.str (ByteArray.mk (List.toArray []))),(Dt.lst []),(Dt.lst [])])) (by rfl)
def aqA:List Nat:=[1,0,1,0,1,0,1]
def anJ:List Nat:=aqA++[0]
def aen:List Nat:=[1,1,1,1,1,1,0,1]
def e0 (J:Nat→Nat→Nat→St→Option Dt→Option Dt) (m:Nat):=evAt Tryz.prog env (ct m) J (m+1) 164 95 Tryz.f164 d1
def l0 (J:Nat→Nat→Nat→St→Option Dt→Option Dt) (m:Nat):=loopAt Tryz.prog env (ct m) J (m+1) 164 95 Tryz.f164 d1
def anK (x0:List Dt) (x1 x2:Int) (x3 x4:Dt):St:=⟨tsOf [(4,.ptr 0 [] 0),(5,.ptr 1 [] 0),(13,.dat 23 (.lst x0)),(14,.dat 3 (.int x1)),(15,.dat 3 (.int x2))],[.box 26 (.dat 26 x3),.box 205 (.dat 205 x4)],0⟩
def aeo (x0:ByteArray) (x1:Bool) (x2 x3 x4:Dt):St:=⟨tsOf [(4,.ptr 0 [] 0),(8,.dat 9 (.str x0)),(9,.ptr 1 [] 0),(10,.ptr 2 [] 0),(78,.dat 4 (.bool x1))],[.box 26 (.dat 26 x2),.box 26 (.dat 26 x3),.box 26 (.dat 26 x4)],0⟩
theorem Dp m:∀M1 x0 x1 x2 x3 x4,l0 jn m anJ [] M1 (anK x0 x1 x2 x3 x4)=zO m M1 x0 x1 x2 x3 x4
 |0,_,_,_,_,_=>rfl
 | M1+1,x0,x1,x2,x3,x4=>
   tl (g:=fun J=>(bif (decide (x2<x1)) then
  (((idx x0 x2).bind fun v0=>(bif ((Dt.I v0 0) !=4) then((aT m).bind fun r1=>some r1) else(none))))
   else
  (none))) (by rfl)
theorem Dq m x0 x1 x2 x3 x4:e0 jn m aen [] (aeo x0 x1 x2 x3 x4)=mP m x0 x1 x2 x3 x4:=
 tq (g:=fun J=>(bif x1 then
  ((aT m).bind fun r12=>
  some r12)
   else
  (((cutS x0 (bif (decide ((ByteArray.size x0:Int)<(Dt.I x3 1))) then(ByteArray.size x0:Int) else(Dt.I x3 1)) (ByteArray.size x0:Int)).bind fun v13=>((cutS v13 0 (bif (decide ((ByteArray.size v13:Int)<(Dt.I x4 1))) then(ByteArray.size v13:Int) else(Dt.I x4 1))).bind fun v14=>((oL m v14).bind fun r15=>some r15)))))) (by rfl)
theorem JL m a0 a1:e0 jn m [] [] ⟨[.dat 3 (.int a0),.dat 23 (.lst a1)],[],0⟩=expr_ofTexts (m+1) a0 a1:=
 tq (g:=fun J=>(bif (a0==21) then
  ((jj J 1 4 (Nat.succ m) (anK a1 (List.length a1:Int) 0 kza2373 (Dt.agg [(Dt.lst []),(Dt.lst [])])) (l0 J m anJ [] (Nat.succ m))))
   else
  (((idx a1 0).bind fun v2=>(bif ((Dt.I v2 0) !=4) then((aT m).bind fun r3=>some r3) else(((idx a1 0).bind fun v4=>(bif (a0==22) then((qp (Dt.S v4 2) 65 97).bind fun r5=>((oL m r5).bind fun r6=>some r6)) else(bif (a0==23) then((qp (Dt.S v4 2) 97 65).bind fun r7=>((oL m r7).bind fun r8=>some r8)) else(bif (a0==24) then((aN m (ByteArray.size (Dt.S v4 2):Int)).bind fun r9=>some r9) else(((idx a1 1).bind fun v10=>((idx a1 2).bind fun v11=>(bif ((Dt.I v10 0) !=3) then(jj J 0 23 0 (aeo (Dt.S v4 2) true kza2373 v10 v11) (e0 J m aen [])) else(bif ((Dt.I v11 0) !=3) then(jj J 0 23 0 (aeo (Dt.S v4 2) true kza2373 v10 v11) (e0 J m aen [])) else(bif (decide ((Dt.I v10 1)<0)) then(jj J 0 23 0 (aeo (Dt.S v4 2) true kza2373 v10 v11) (e0 J m aen [])) else(jj J 0 23 0 (aeo (Dt.S v4 2) (decide ((Dt.I v11 1)<0)) kza2373 v10 v11) (e0 J m aen [])))))))))))))))))) (by simp only[aj,Dp m,Dq m];rfl)
end Go.Proofs.YtmecfjhdnbgfeaaGreatDoor.P1
