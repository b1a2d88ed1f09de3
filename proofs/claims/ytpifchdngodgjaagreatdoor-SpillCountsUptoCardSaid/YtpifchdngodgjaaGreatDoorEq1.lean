/- Generated: each function's run in the abstract machine is its shallow function. -/
import Derived.Test.YtpifchdngodgjaaGreatDoorCt
import Derived.Test.YtpifchdngodgjaaGreatDoorAmEnv
import Derived.KernelRfl
set_option linter.unusedVariables false
set_option linter.unusedSimpArgs false
namespace Go.Proofs.YtpifchdngodgjaaGreatDoor
open Go.Am
set_option maxRecDepth 100000
def w5_4:List Nat:=[1,1,1,1,1,1]
def w5_5:List Nat:=[1,1,1,1,1,0,1]
def w5_0:List Nat:=w5_5++[0]
def w5_3:List Nat:=w5_4++[1,1]
def w5_2:List Nat:=w5_0++[0,1,1]
def w5_1:List Nat:=w5_2++[1]
noncomputable def e5 (J:Nat→Nat→Nat→St→Option (List Dt×Int×Int)→Option (List Dt×Int×Int)) (m:Nat) (p ms:List Nat) (σ:St):=evAt Tryz.prog env (ct m) J (m+1) 12 57 Tryz.f12 d5 p ms σ
noncomputable def l5 (J:Nat→Nat→Nat→St→Option (List Dt×Int×Int)→Option (List Dt×Int×Int)) (m:Nat) (p ms:List Nat) (M:Nat) (σ:St):=loopAt Tryz.prog env (ct m) J (m+1) 12 57 Tryz.f12 d5 p ms M σ
noncomputable def s5_5 (x0 x1:List Dt) (x2 x3:Int) (x4:Dt) (x5:List Dt):St:=⟨tsOf [(4,(.ptr 0 [] 0)),(11,(.dat 52 (.lst x0))),(13,(.row 1)),(33,(.dat 52 (.lst x1))),(34,(.dat 3 (.int x2))),(35,(.dat 3 (.int x3)))],[(.box 44 (.dat 44 x4)),(.row 23 x5)],0⟩
noncomputable def s5_7 (x0 x1:List Dt):St:=⟨tsOf [(11,(.dat 52 (.lst x0))),(16,(.dat 23 (.lst x1)))],[],0⟩
noncomputable def s5_6 (x0:List Dt) (x1:Dt) (x2:List Dt):St:=⟨tsOf [(4,(.ptr 0 [] 0)),(11,(.dat 52 (.lst x0))),(13,(.row 1))],[(.box 44 (.dat 44 x1)),(.row 23 x2)],0⟩
noncomputable def s5_1 (x0:List Dt) (x1:Dt):St:=⟨tsOf [(4,(.ptr 0 [] 0)),(11,(.dat 52 (.lst x0)))],[(.box 44 (.dat 44 x1))],0⟩
noncomputable def s5_0 (x0 x1:List Dt) (x2:Dt):St:=⟨tsOf [(1,(.dat 23 (.lst x0))),(4,(.ptr 0 [] 0)),(11,(.dat 52 (.lst x1)))],[(.box 44 (.dat 44 x2))],0⟩
abbrev H5_3 (m M3:Nat) (rec3:List Dt→List Dt→Int→Int→Dt→List Dt→Option (List Dt×Int×Int)):Prop:=∀x0 x1 x2 x3 x4 x5,l5 jn m w5_0 [] M3 (s5_5 x0 x1 x2 x3 x4 x5)=rec3 x0 x1 x2 x3 x4 x5
theorem qW_j5_eq m M3 rec3 (h3:H5_3 m M3 rec3) x0 x1 x2 x3 x4 x5:e5 jn m w5_1 [M3] (s5_5 x0 x1 x2 x3 x4 x5)=qW_j5 m rec3 x0 x1 x2 x3 x4 x5:=
 tq (g:=fun J=>(jj J 1 8 M3 (s5_5 x0 x1 x2 (IntKind.wrap .i64 (x3+1)) x4 x5) (l5 J m w5_0 [] M3))) (by simp only[jj_eq,h3];rfl)
theorem qW_j4_eq m M3 rec3 (h3:H5_3 m M3 rec3) x0 x1 x2 x3 x4 x5:e5 jn m w5_2 [M3] (s5_5 x0 x1 x2 x3 x4 x5)=qW_j4 m rec3 x0 x1 x2 x3 x4 x5:=
 tq (g:=fun J=>((idx x1 x3).bind fun v2=>
  ((zN m x4 (Dt.toLst v2)).bind fun r3=>
  ((app x5 r3).bind fun v4=>
  (jj J 0 11 0 (s5_5 x0 x1 x2 x3 x4 v4) (e5 J m w5_1 [M3])))))) (by simp only[jj_eq,qW_j5_eq m M3 rec3 h3];rfl)
theorem qW_j7_eq m x0 x1:e5 jn m w5_3 [] (s5_7 x0 x1)=qW_j7 m x0 x1:=
 tq (g:=fun J=>some (x1,(List.length x0:Int),0)) (by rfl)
theorem qW_j6_eq m x0 x1 x2:e5 jn m w5_4 [] (s5_6 x0 x1 x2)=qW_j6 m x0 x1 x2:=
 tq (g:=fun J=>((qK m x1 x2).bind fun r5=>
  (bif (r5.2 !=0) then
  some ([],0,r5.2)
  else
  (jj J 0 15 0 (s5_7 x0 r5.1) (e5 J m w5_3 []))))) (by simp only[jj_eq,qW_j7_eq m];rfl)
theorem qW_l3_eq m:∀M3 x0 x1 x2 x3 x4 x5,l5 jn m w5_0 [] M3 (s5_5 x0 x1 x2 x3 x4 x5)=qW_l3 m M3 x0 x1 x2 x3 x4 x5
 |0,_,_,_,_,_,_=>rfl
 | M3+1,x0,x1,x2,x3,x4,x5=>
   tl (g:=fun J=>(bif (decide (x3<x2)) then
  (jj J 0 9 0 (s5_5 x0 x1 x2 x3 x4 x5) (e5 J m w5_2 [M3]))
   else
  (jj J 0 12 0 (s5_6 x0 x4 x5) (e5 J m w5_4 [])))) (by simp only[jj_eq,qW_j4_eq m M3 (qW_l3 m M3) (qW_l3_eq m M3),qW_j6_eq m];rfl)
theorem qW_j2_eq m x0 x1 x2 x3 x4 x5:e5 jn m w5_5 [] (s5_5 x0 x1 x2 x3 x4 x5)=qW_j2 m x0 x1 x2 x3 x4 x5:=
 tq (g:=fun J=>(jj J 1 8 (Nat.succ m) (s5_5 x0 x1 x2 x3 x4 x5) (l5 J m w5_0 [] (Nat.succ m)))) (by simp only[jj_eq,qW_l3_eq m];rfl)
theorem qW_j1_eq m x0 x1:e5 jn m [1,1,1,1] [] (s5_1 x0 x1)=qW_j1 m x0 x1:=
 tq (g:=fun J=>(jj J 0 8 0 (s5_5 x0 x0 (List.length x0:Int) 0 x1 []) (e5 J m w5_5 []))) (by simp only[jj_eq,qW_j2_eq m];rfl)
theorem qW_j0_eq m x0 x1 x2:e5 jn m [1,1,1] [] (s5_0 x0 x1 x2)=qW_j0 m x0 x1 x2:=
 tq (g:=fun J=>(bif ((List.length x1:Int)==0) then
  ((zY m x2 x0).bind fun r1=>
  some (r1,0,0))
   else
  (jj J 0 6 0 (s5_1 x1 x2) (e5 J m [1,1,1,1] [])))) (by simp only[jj_eq,qW_j1_eq m];rfl)
theorem qW_eq m a0 a1 a2 a3:e5 jn m [] [] ⟨[(.dat 44 a0),(.dat 23 (.lst a1)),(.dat 3 (.int a2)),(.dat 4 (.bool a3))],[],0⟩=qW (m+1) a0 a1 a2 a3:=
 tq (g:=fun J=>((qO m a1 a2 a3).bind fun r0=>
  (bif (r0.2 !=0) then
  some ([],0,r0.2)
  else
  (jj J 0 4 0 (s5_0 a1 r0.1 a0) (e5 J m [1,1,1] []))))) (by simp only[jj_eq,qW_j0_eq m];rfl)
def w73_1:List Nat:=[1,0,1,0,0,1,1]
def w73_0:List Nat:=w73_1++[1]
noncomputable def e73 (J:Nat→Nat→Nat→St→Option Int→Option Int) (m:Nat) (p ms:List Nat) (σ:St):=evAt Tryz.prog env (ct m) J (m+1) 133 20 Tryz.f133 d32 p ms σ
noncomputable def l73 (J:Nat→Nat→Nat→St→Option Int→Option Int) (m:Nat) (p ms:List Nat) (M:Nat) (σ:St):=loopAt Tryz.prog env (ct m) J (m+1) 133 20 Tryz.f133 d32 p ms M σ
noncomputable def s73_3 (x0:List Dt) (x1:ByteArray) (x2 x3:Int):St:=⟨tsOf [(0,(.dat 34 (.lst x0))),(1,(.dat 9 (.str x1))),(7,(.dat 3 (.int x2))),(8,(.dat 3 (.int x3)))],[],0⟩
noncomputable def s73_4:St:=⟨tsOf [],[],0⟩
abbrev H73_1 (m M1:Nat) (rec1:List Dt→ByteArray→Int→Int→Option Int):Prop:=∀x0 x1 x2 x3,l73 jn m [1,0,1,0] [] M1 (s73_3 x0 x1 x2 x3)=rec1 x0 x1 x2 x3
theorem zI_j3_eq m M1 rec1 (h1:H73_1 m M1 rec1) x0 x1 x2 x3:e73 jn m w73_0 [M1] (s73_3 x0 x1 x2 x3)=zI_j3 m rec1 x0 x1 x2 x3:=
 tq (g:=fun J=>(jj J 1 2 M1 (s73_3 x0 x1 x2 (IntKind.wrap .i64 (x3+1))) (l73 J m [1,0,1,0] [] M1))) (by simp only[jj_eq,h1];rfl)
theorem zI_j2_eq m M1 rec1 (h1:H73_1 m M1 rec1) x0 x1 x2 x3:e73 jn m w73_1 [M1] (s73_3 x0 x1 x2 x3)=zI_j2 m rec1 x0 x1 x2 x3:=
 tq (g:=fun J=>((idx x0 x3).bind fun v0=>
  (bif ((ByteArray.toList (Dt.S v0 0))==(ByteArray.toList x1)) then
  some x3
  else
  (jj J 0 6 0 (s73_3 x0 x1 x2 x3) (e73 J m w73_0 [M1]))))) (by simp only[jj_eq,zI_j3_eq m M1 rec1 h1];rfl)
theorem zI_j4_eq m:e73 jn m [1,1] [] s73_4=zI_j4 m:=
 tq (g:=fun J=>some (-1)) (by rfl)
theorem zI_l1_eq m:∀M1 x0 x1 x2 x3,l73 jn m [1,0,1,0] [] M1 (s73_3 x0 x1 x2 x3)=zI_l1 m M1 x0 x1 x2 x3
 |0,_,_,_,_=>rfl
 | M1+1,x0,x1,x2,x3=>
   tl (g:=fun J=>(bif (decide (x3<x2)) then
  (jj J 0 3 0 (s73_3 x0 x1 x2 x3) (e73 J m w73_1 [M1]))
   else
  (jj J 0 7 0 s73_4 (e73 J m [1,1] [])))) (by simp only[jj_eq,zI_j2_eq m M1 (zI_l1 m M1) (zI_l1_eq m M1),zI_j4_eq m];rfl)
theorem zI_j0_eq m x0 x1 x2 x3:e73 jn m [1,0,1] [] (s73_3 x0 x1 x2 x3)=zI_j0 m x0 x1 x2 x3:=
 tq (g:=fun J=>(jj J 1 2 (Nat.succ m) (s73_3 x0 x1 x2 x3) (l73 J m [1,0,1,0] [] (Nat.succ m)))) (by simp only[jj_eq,zI_l1_eq m];rfl)
theorem zI_eq m a0 a1:e73 jn m [] [] ⟨[(.dat 34 (.lst a0)),(.dat 9 (.str a1))],[],0⟩=zI (m+1) a0 a1:=
 tq (g:=fun J=>(jj J 0 2 0 (s73_3 a0 a1 (List.length a0:Int) 0) (e73 J m [1,0,1] []))) (by simp only[jj_eq,zI_j0_eq m];rfl)
def w74_5:List Nat:=[1,1,1,0,1]
def w74_0:List Nat:=[1,1,1,0,1,0]
def w74_4:List Nat:=w74_0++[0,1,1]
def w74_1:List Nat:=w74_4++[1]
def w74_2:List Nat:=w74_4++[0,0,1,1]
def w74_3:List Nat:=w74_4++[0,0,1,0,1]
noncomputable def e74 (J:Nat→Nat→Nat→St→Option (Int×Bool)→Option (Int×Bool)) (m:Nat) (p ms:List Nat) (σ:St):=evAt Tryz.prog env (ct m) J (m+1) 134 49 Tryz.f134 d74 p ms σ
noncomputable def l74 (J:Nat→Nat→Nat→St→Option (Int×Bool)→Option (Int×Bool)) (m:Nat) (p ms:List Nat) (M:Nat) (σ:St):=loopAt Tryz.prog env (ct m) J (m+1) 134 49 Tryz.f134 d74 p ms M σ
noncomputable def s74_7 (x0:ByteArray) (x1 x2 x3:Int):St:=⟨tsOf [(0,(.dat 9 (.str x0))),(4,(.dat 3 (.int x1))),(25,(.dat 3 (.int x2))),(26,(.dat 3 (.int x3)))],[],0⟩
noncomputable def s74_6 (x0:ByteArray) (x1 x2 x3 x4:Int):St:=⟨tsOf [(0,(.dat 9 (.str x0))),(4,(.dat 3 (.int x1))),(5,(.dat 3 (.int x2))),(25,(.dat 3 (.int x3))),(26,(.dat 3 (.int x4)))],[],0⟩
noncomputable def s74_5 (x0:ByteArray) (x1 x2 x3 x4:Int) (x5:Bool):St:=⟨tsOf [(0,(.dat 9 (.str x0))),(4,(.dat 3 (.int x1))),(5,(.dat 3 (.int x2))),(25,(.dat 3 (.int x3))),(26,(.dat 3 (.int x4))),(38,(.dat 4 (.bool x5)))],[],0⟩
noncomputable def s74_8 (x0:Int):St:=⟨tsOf [(4,(.dat 3 (.int x0)))],[],0⟩
noncomputable def s74_1 (x0:ByteArray):St:=⟨tsOf [(0,(.dat 9 (.str x0)))],[],0⟩
noncomputable def s74_0 (x0:ByteArray) (x1:Bool):St:=⟨tsOf [(0,(.dat 9 (.str x0))),(23,(.dat 4 (.bool x1)))],[],0⟩
abbrev H74_3 (m M3:Nat) (rec3:ByteArray→Int→Int→Int→Option (Int×Bool)):Prop:=∀x0 x1 x2 x3,l74 jn m w74_0 [] M3 (s74_7 x0 x1 x2 x3)=rec3 x0 x1 x2 x3
theorem zB_j7_eq m M3 rec3 (h3:H74_3 m M3 rec3) x0 x1 x2 x3:e74 jn m w74_1 [M3] (s74_7 x0 x1 x2 x3)=zB_j7 m rec3 x0 x1 x2 x3:=
 tq (g:=fun J=>(jj J 1 5 M3 (s74_7 x0 x1 x2 (IntKind.wrap .i64 (x3+1))) (l74 J m w74_0 [] M3))) (by simp only[jj_eq,h3];rfl)
theorem zB_j6_eq m M3 rec3 (h3:H74_3 m M3 rec3) x0 x1 x2 x3 x4:e74 jn m w74_2 [M3] (s74_6 x0 x1 x2 x3 x4)=zB_j6 m rec3 x0 x1 x2 x3 x4:=
 tq (g:=fun J=>((idxS x0 x2).bind fun v1=>
  (jj J 0 10 0 (s74_7 x0 (IntKind.wrap .i64 ((IntKind.wrap .i64 (10*x1))+(IntKind.wrap .i64 (IntKind.wrap IntKind.u8 (v1-48))))) x3 x4) (e74 J m w74_1 [M3])))) (by simp only[jj_eq,zB_j7_eq m M3 rec3 h3];rfl)
theorem zB_j5_eq m M3 rec3 (h3:H74_3 m M3 rec3) x0 x1 x2 x3 x4 x5:e74 jn m w74_3 [M3] (s74_5 x0 x1 x2 x3 x4 x5)=zB_j5 m rec3 x0 x1 x2 x3 x4 x5:=
 tq (g:=fun J=>(bif x5 then
  some (0,false)
   else
  (jj J 0 9 0 (s74_6 x0 x1 x2 x3 x4) (e74 J m w74_2 [M3])))) (by simp only[jj_eq,zB_j6_eq m M3 rec3 h3];rfl)
theorem zB_j4_eq m M3 rec3 (h3:H74_3 m M3 rec3) x0 x1 x2 x3:e74 jn m w74_4 [M3] (s74_7 x0 x1 x2 x3)=zB_j4 m rec3 x0 x1 x2 x3:=
 tq (g:=fun J=>((idxS x0 x3).bind fun v0=>
  (bif (decide (v0<48)) then
  (jj J 0 8 0 (s74_5 x0 x1 x3 x2 x3 true) (e74 J m w74_3 [M3]))
  else
  ((idxS x0 x3).bind fun v2=>
  (jj J 0 8 0 (s74_5 x0 x1 x3 x2 x3 (decide (57<v2))) (e74 J m w74_3 [M3])))))) (by simp only[jj_eq,zB_j5_eq m M3 rec3 h3];rfl)
theorem zB_j8_eq m x0:e74 jn m [1,1,1,1] [] (s74_8 x0)=zB_j8 m x0:=
 tq (g:=fun J=>some (x0,true)) (by rfl)
theorem zB_l3_eq m:∀M3 x0 x1 x2 x3,l74 jn m w74_0 [] M3 (s74_7 x0 x1 x2 x3)=zB_l3 m M3 x0 x1 x2 x3
 |0,_,_,_,_=>rfl
 | M3+1,x0,x1,x2,x3=>
   tl (g:=fun J=>(bif (decide (x3<x2)) then
  (jj J 0 6 0 (s74_7 x0 x1 x2 x3) (e74 J m w74_4 [M3]))
   else
  (jj J 0 11 0 (s74_8 x1) (e74 J m [1,1,1,1] [])))) (by simp only[jj_eq,zB_j4_eq m M3 (zB_l3 m M3) (zB_l3_eq m M3),zB_j8_eq m];rfl)
theorem zB_j2_eq m x0 x1 x2 x3:e74 jn m w74_5 [] (s74_7 x0 x1 x2 x3)=zB_j2 m x0 x1 x2 x3:=
 tq (g:=fun J=>(jj J 1 5 (Nat.succ m) (s74_7 x0 x1 x2 x3) (l74 J m w74_0 [] (Nat.succ m)))) (by simp only[jj_eq,zB_l3_eq m];rfl)
theorem zB_j1_eq m x0:e74 jn m [1,1] [] (s74_1 x0)=zB_j1 m x0:=
 tq (g:=fun J=>(jj J 0 5 0 (s74_7 x0 0 (ByteArray.size x0:Int) 0) (e74 J m w74_5 []))) (by simp only[jj_eq,zB_j2_eq m];rfl)
theorem zB_j0_eq m x0 x1:e74 jn m [1,0,1] [] (s74_0 x0 x1)=zB_j0 m x0 x1:=
 tq (g:=fun J=>(bif x1 then
  some (0,false)
   else
  (jj J 0 3 0 (s74_1 x0) (e74 J m [1,1] [])))) (by simp only[jj_eq,zB_j1_eq m];rfl)
theorem zB_eq m a0:e74 jn m [] [] ⟨[(.dat 9 (.str a0))],[],0⟩=zB (m+1) a0:=
 tq (g:=fun J=>(bif (decide ((ByteArray.size a0:Int)<1)) then
  (jj J 0 2 0 (s74_0 a0 true) (e74 J m [1,0,1] []))
   else
  (bif (decide (4<(ByteArray.size a0:Int))) then
  (jj J 0 2 0 (s74_0 a0 true) (e74 J m [1,0,1] []))
  else
  ((idxS a0 0).bind fun v3=>
  (bif (v3==48) then
  (jj J 0 2 0 (s74_0 a0 (decide (1<(ByteArray.size a0:Int)))) (e74 J m [1,0,1] []))
  else
  (jj J 0 2 0 (s74_0 a0 false) (e74 J m [1,0,1] []))))))) (by simp only[jj_eq,zB_j0_eq m];rfl)
def w72_4:List Nat:=[1,1,0,1,0,1,1,1,0,1]
def w72_5:List Nat:=[1,1,0,1,0,1,1,1,0,0,1]
def w72_0:List Nat:=w72_5++[0]
def w72_3:List Nat:=w72_4++[1,1]
def w72_2:List Nat:=w72_0++[0,1,1]
def w72_1:List Nat:=w72_2++[1]
noncomputable def e72 (J:Nat→Nat→Nat→St→Option (List Dt)→Option (List Dt)) (m:Nat) (p ms:List Nat) (σ:St):=evAt Tryz.prog env (ct m) J (m+1) 115 83 Tryz.f115 d72 p ms σ
noncomputable def l72 (J:Nat→Nat→Nat→St→Option (List Dt)→Option (List Dt)) (m:Nat) (p ms:List Nat) (M:Nat) (σ:St):=loopAt Tryz.prog env (ct m) J (m+1) 115 83 Tryz.f115 d72 p ms M σ
noncomputable def s72_1 (x0:List Dt):St:=⟨tsOf [(0,(.row 1))],[.gone,(.row 23 x0)],1⟩
noncomputable def s72_5 (x0 x1:List Dt) (x2 x3:Int) (x4:List Dt) (x5:Dt):St:=⟨tsOf [(0,(.row 1)),(2,(.dat 38 (.lst x0))),(4,(.ptr 2 [] 0)),(44,(.dat 23 (.lst x1))),(45,(.dat 3 (.int x2))),(46,(.dat 3 (.int x3)))],[.gone,(.row 23 x4),(.box 36 (.dat 36 x5))],1⟩
noncomputable def s72_7 (x0:List Dt) (x1:Int) (x2:Bool) (x3:List Dt) (x4:Dt):St:=⟨tsOf [(0,(.row 1)),(2,(.dat 38 (.lst x0))),(4,(.ptr 2 [] 0)),(10,(.dat 3 (.int x1))),(72,(.dat 4 (.bool x2)))],[.gone,(.row 23 x3),(.box 36 (.dat 36 x4))],1⟩
noncomputable def s72_6 (x0 x1:List Dt) (x2:Dt):St:=⟨tsOf [(0,(.row 1)),(2,(.dat 38 (.lst x0))),(4,(.ptr 2 [] 0))],[.gone,(.row 23 x1),(.box 36 (.dat 36 x2))],1⟩
theorem i72_j1_eq m x0:e72 jn m [1,1,1] [] (s72_1 x0)=i72_j1 m (i72 m) x0:=
 tq (g:=fun J=>some x0) (by rfl)
abbrev H72_3 (m M3:Nat) (rec3:List Dt→List Dt→Int→Int→List Dt→Dt→Option (List Dt)):Prop:=∀x0 x1 x2 x3 x4 x5,l72 jn m w72_0 [] M3 (s72_5 x0 x1 x2 x3 x4 x5)=rec3 x0 x1 x2 x3 x4 x5
theorem i72_j5_eq m M3 rec3 (h3:H72_3 m M3 rec3) x0 x1 x2 x3 x4 x5:e72 jn m w72_1 [M3] (s72_5 x0 x1 x2 x3 x4 x5)=i72_j5 m (i72 m) rec3 x0 x1 x2 x3 x4 x5:=
 tq (g:=fun J=>(jj J 1 10 M3 (s72_5 x0 x1 x2 (IntKind.wrap .i64 (x3+1)) x4 x5) (l72 J m w72_0 [] M3))) (by simp only[jj_eq,h3];rfl)
theorem i72_j4_eq m M3 rec3 (h3:H72_3 m M3 rec3) x0 x1 x2 x3 x4 x5:e72 jn m w72_2 [M3] (s72_5 x0 x1 x2 x3 x4 x5)=i72_j4 m (i72 m) rec3 x0 x1 x2 x3 x4 x5:=
 tq (g:=fun J=>((idx x1 x3).bind fun v6=>
  (bif ((Dt.I v6 0)==5) then
  ((i72 m v6 x0 x4).bind fun r7=>
  (jj J 0 14 0 (s72_5 x0 x1 x2 x3 r7 x5) (e72 J m w72_1 [M3])))
  else
  (jj J 0 14 0 (s72_5 x0 x1 x2 x3 x4 x5) (e72 J m w72_1 [M3]))))) (by simp only[jj_eq,i72_j5_eq m M3 rec3 h3];rfl)
theorem i72_j7_eq m x0 x1 x2 x3 x4:e72 jn m w72_3 [] (s72_7 x0 x1 x2 x3 x4)=i72_j7 m (i72 m) x0 x1 x2 x3 x4:=
 tq (g:=fun J=>(bif x2 then
  ((idx (Dt.L x4 3) x1).bind fun v10=>
  ((cutL x0 1 (List.length x0:Int)).bind fun v11=>
  ((i72 m v10 v11 x3).bind fun r12=>
  (jj J 0 18 0 (s72_1 r12) (e72 J m [1,1,1] [])))))
   else
  (jj J 0 18 0 (s72_1 x3) (e72 J m [1,1,1] [])))) (by simp only[jj_eq,i72_j1_eq m];rfl)
theorem i72_j6_eq m x0 x1 x2:e72 jn m w72_4 [] (s72_6 x0 x1 x2)=i72_j6 m (i72 m) x0 x1 x2:=
 tq (g:=fun J=>((idx x0 0).bind fun v8=>
  ((zB m (Dt.toStr v8)).bind fun r9=>
  (bif r9.2 then
  (jj J 0 17 0 (s72_7 x0 r9.1 (decide (r9.1<(List.length (Dt.L x2 3):Int))) x1 x2) (e72 J m w72_3 []))
  else
  (jj J 0 17 0 (s72_7 x0 r9.1 false x1 x2) (e72 J m w72_3 [])))))) (by simp only[jj_eq,i72_j7_eq m];rfl)
theorem i72_l3_eq m:∀M3 x0 x1 x2 x3 x4 x5,l72 jn m w72_0 [] M3 (s72_5 x0 x1 x2 x3 x4 x5)=i72_l3 m (i72 m) M3 x0 x1 x2 x3 x4 x5
 |0,_,_,_,_,_,_=>rfl
 | M3+1,x0,x1,x2,x3,x4,x5=>
   tl (g:=fun J=>(bif (decide (x3<x2)) then
  (jj J 0 11 0 (s72_5 x0 x1 x2 x3 x4 x5) (e72 J m w72_2 [M3]))
   else
  (jj J 0 15 0 (s72_6 x0 x4 x5) (e72 J m w72_4 [])))) (by simp only[jj_eq,i72_j4_eq m M3 (i72_l3 m (i72 m) M3) (i72_l3_eq m M3),i72_j6_eq m];rfl)
theorem i72_j2_eq m x0 x1 x2 x3 x4 x5:e72 jn m w72_5 [] (s72_5 x0 x1 x2 x3 x4 x5)=i72_j2 m (i72 m) x0 x1 x2 x3 x4 x5:=
 tq (g:=fun J=>(jj J 1 10 (Nat.succ m) (s72_5 x0 x1 x2 x3 x4 x5) (l72 J m w72_0 [] (Nat.succ m)))) (by simp only[jj_eq,i72_l3_eq m];rfl)
theorem i72_j0_eq m x0 x1 x2:e72 jn m [1,1] [] (s72_6 x0 x1 x2)=i72_j0 m (i72 m) x0 x1 x2:=
 tq (g:=fun J=>(bif ((Dt.I x2 0)==5) then
  ((idx x0 0).bind fun v1=>
  ((zI m (Dt.L x2 4) (Dt.toStr v1)).bind fun r2=>
  (bif (decide (0≤r2)) then
  ((idx (Dt.L x2 4) r2).bind fun v3=>
  ((cutL x0 1 (List.length x0:Int)).bind fun v4=>
  ((i72 m (Dt.fld v3 1) v4 x1).bind fun r5=>
  (jj J 0 18 0 (s72_1 r5) (e72 J m [1,1,1] [])))))
  else
  (jj J 0 18 0 (s72_1 x1) (e72 J m [1,1,1] [])))))
   else
  (bif ((Dt.I x2 0)==6) then
  (jj J 0 10 0 (s72_5 x0 (Dt.L x2 3) (List.length (Dt.L x2 3):Int) 0 x1 x2) (e72 J m w72_5 []))
  else
  (jj J 0 18 0 (s72_1 x1) (e72 J m [1,1,1] []))))) (by simp only[jj_eq,i72_j1_eq m,i72_j2_eq m];rfl)
theorem i72_eq m a0 a1 a2:e72 jn m [] [] ⟨[(.row 0),(.dat 36 a0),(.dat 38 (.lst a1))],[(.row 23 a2)],1⟩=i72 (m+1) a0 a1 a2:=
 tq (g:=fun J=>(bif ((List.length a1:Int)==0) then
  ((app a2 [a0]).bind fun v0=>
  some v0)
   else
  (jj J 0 3 0 (s72_6 a1 a2 a0) (e72 J m [1,1] [])))) (by simp only[jj_eq,i72_j0_eq m];rfl)
def w75_7:List Nat:=[1,1,0,1,0,1,1]
def w75_0:List Nat:=w75_7++[0]
def w75_6:List Nat:=[1,1,1,0,1,0,1,1]
def w75_3:List Nat:=w75_6++[0]
def w75_2:List Nat:=w75_0++[0,1,1]
def w75_1:List Nat:=w75_2++[1]
def w75_5:List Nat:=w75_3++[0,1,1]
def w75_4:List Nat:=w75_5++[1]
noncomputable def e75 (J:Nat→Nat→Nat→St→Option (Int×Int×ByteArray×List Dt×List Dt)→Option (Int×Int×ByteArray×List Dt×List Dt)) (m:Nat) (p ms:List Nat) (σ:St):=evAt Tryz.prog env (ct m) J (m+1) 116 68 Tryz.f116 d75 p ms σ
noncomputable def l75 (J:Nat→Nat→Nat→St→Option (Int×Int×ByteArray×List Dt×List Dt)→Option (Int×Int×ByteArray×List Dt×List Dt)) (m:Nat) (p ms:List Nat) (M:Nat) (σ:St):=loopAt Tryz.prog env (ct m) J (m+1) 116 68 Tryz.f116 d75 p ms M σ
noncomputable def s75_3 (x0:List Dt) (x1 x2:Int) (x3 x4:Dt) (x5 x6:Int) (x7:ByteArray) (x8 x9:List Dt):St:=⟨tsOf [(1,(.ptr 0 [] 0)),(2,(.ptr 1 [] 0)),(3,(.ptr 2 [] 0)),(25,(.dat 23 (.lst x0))),(26,(.dat 3 (.int x1))),(27,(.dat 3 (.int x2)))],[(.box 36 (.dat 36 x3)),(.box 36 (.dat 36 x4)),(.box 36 (.agg 36 [(.dat 3 (.int x5)),(.dat 3 (.int x6)),(.dat 9 (.str x7)),(.row 3),(.row 4)])),(.row 23 x8),(.row 34 x9)],0⟩
noncomputable def s75_8 (x0:List Dt) (x1 x2:Int) (x3:Dt) (x4 x5:Int) (x6:ByteArray) (x7 x8:List Dt):St:=⟨tsOf [(2,(.ptr 0 [] 0)),(3,(.ptr 1 [] 0)),(49,(.dat 34 (.lst x0))),(50,(.dat 3 (.int x1))),(51,(.dat 3 (.int x2)))],[(.box 36 (.dat 36 x3)),(.box 36 (.agg 36 [(.dat 3 (.int x4)),(.dat 3 (.int x5)),(.dat 9 (.str x6)),(.row 2),(.row 3)])),(.row 23 x7),(.row 34 x8)],0⟩
noncomputable def s75_9 (x0:Dt) (x1 x2:Int) (x3:ByteArray) (x4 x5:List Dt):St:=⟨tsOf [(2,(.ptr 0 [] 0)),(3,(.ptr 1 [] 0))],[(.box 36 (.dat 36 x0)),(.box 36 (.agg 36 [(.dat 3 (.int x1)),(.dat 3 (.int x2)),(.dat 9 (.str x3)),(.row 2),(.row 3)])),(.row 23 x4),(.row 34 x5)],0⟩
noncomputable def s75_4 (x0 x1:Dt) (x2 x3:Int) (x4:ByteArray) (x5 x6:List Dt):St:=⟨tsOf [(1,(.ptr 0 [] 0)),(2,(.ptr 1 [] 0)),(3,(.ptr 2 [] 0))],[(.box 36 (.dat 36 x0)),(.box 36 (.dat 36 x1)),(.box 36 (.agg 36 [(.dat 3 (.int x2)),(.dat 3 (.int x3)),(.dat 9 (.str x4)),(.row 3),(.row 4)])),(.row 23 x5),(.row 34 x6)],0⟩
abbrev H75_1 (m M1:Nat) (rec1:List Dt→Int→Int→Dt→Dt→Int→Int→ByteArray→List Dt→List Dt→Option (Int×Int×ByteArray×List Dt×List Dt)):Prop:=∀x0 x1 x2 x3 x4 x5 x6 x7 x8 x9,l75 jn m w75_0 [] M1 (s75_3 x0 x1 x2 x3 x4 x5 x6 x7 x8 x9)=rec1 x0 x1 x2 x3 x4 x5 x6 x7 x8 x9
theorem qV_j3_eq m M1 rec1 (h1:H75_1 m M1 rec1) x0 x1 x2 x3 x4 x5 x6 x7 x8 x9:e75 jn m w75_1 [M1] (s75_3 x0 x1 x2 x3 x4 x5 x6 x7 x8 x9)=qV_j3 m (qV m) rec1 x0 x1 x2 x3 x4 x5 x6 x7 x8 x9:=
 tq (g:=fun J=>(jj J 1 5 M1 (s75_3 x0 x1 (IntKind.wrap .i64 (x2+1)) x3 x4 x5 x6 x7 x8 x9) (l75 J m w75_0 [] M1))) (by simp only[jj_eq,h1];rfl)
theorem qV_j2_eq m M1 rec1 (h1:H75_1 m M1 rec1) x0 x1 x2 x3 x4 x5 x6 x7 x8 x9:e75 jn m w75_2 [M1] (s75_3 x0 x1 x2 x3 x4 x5 x6 x7 x8 x9)=qV_j2 m (qV m) rec1 x0 x1 x2 x3 x4 x5 x6 x7 x8 x9:=
 tq (g:=fun J=>((idx x0 x2).bind fun v1=>
  ((qV m v1).bind fun r2=>
  ((inL x8 x2).bind fun v3=>
  ((x8[(Int.toNat x2)]?).bind fun v4=>
  (jj J 0 8 0 (s75_3 x0 x1 x2 x3 x4 x5 x6 x7 (List.set x8 (Int.toNat x2) (Dt.agg [(Dt.int r2.1),(Dt.int r2.2.1),(Dt.str r2.2.2.1),(Dt.lst r2.2.2.2.1),(Dt.lst r2.2.2.2.2)])) x9) (e75 J m w75_1 [M1]))))))) (by simp only[jj_eq,qV_j3_eq m M1 rec1 h1];rfl)
abbrev H75_6 (m M6:Nat) (rec6:List Dt→Int→Int→Dt→Int→Int→ByteArray→List Dt→List Dt→Option (Int×Int×ByteArray×List Dt×List Dt)):Prop:=∀x0 x1 x2 x3 x4 x5 x6 x7 x8,l75 jn m w75_3 [] M6 (s75_8 x0 x1 x2 x3 x4 x5 x6 x7 x8)=rec6 x0 x1 x2 x3 x4 x5 x6 x7 x8
theorem qV_j8_eq m M6 rec6 (h6:H75_6 m M6 rec6) x0 x1 x2 x3 x4 x5 x6 x7 x8:e75 jn m w75_4 [M6] (s75_8 x0 x1 x2 x3 x4 x5 x6 x7 x8)=qV_j8 m (qV m) rec6 x0 x1 x2 x3 x4 x5 x6 x7 x8:=
 tq (g:=fun J=>(jj J 1 12 M6 (s75_8 x0 x1 (IntKind.wrap .i64 (x2+1)) x3 x4 x5 x6 x7 x8) (l75 J m w75_3 [] M6))) (by simp only[jj_eq,h6];rfl)
theorem qV_j7_eq m M6 rec6 (h6:H75_6 m M6 rec6) x0 x1 x2 x3 x4 x5 x6 x7 x8:e75 jn m w75_5 [M6] (s75_8 x0 x1 x2 x3 x4 x5 x6 x7 x8)=qV_j7 m (qV m) rec6 x0 x1 x2 x3 x4 x5 x6 x7 x8:=
 tq (g:=fun J=>((idx x0 x2).bind fun v6=>
  ((qV m (Dt.fld v6 1)).bind fun r7=>
  ((inL x8 x2).bind fun v8=>
  ((x8[(Int.toNat x2)]?).bind fun v9=>
  (jj J 0 15 0 (s75_8 x0 x1 x2 x3 x4 x5 x6 x7 (List.set x8 (Int.toNat x2) (Dt.agg [(Dt.str (Dt.S v6 0)),(Dt.agg [(Dt.int r7.1),(Dt.int r7.2.1),(Dt.str r7.2.2.1),(Dt.lst r7.2.2.2.1),(Dt.lst r7.2.2.2.2)])]))) (e75 J m w75_4 [M6]))))))) (by simp only[jj_eq,qV_j8_eq m M6 rec6 h6];rfl)
theorem qV_j9_eq m x0 x1 x2 x3 x4 x5:e75 jn m [1,1,1,1] [] (s75_9 x0 x1 x2 x3 x4 x5)=qV_j9 m (qV m) x0 x1 x2 x3 x4 x5:=
 tq (g:=fun J=>some (x1,x2,x3,x4,x5)) (by rfl)
theorem qV_l6_eq m:∀M6 x0 x1 x2 x3 x4 x5 x6 x7 x8,l75 jn m w75_3 [] M6 (s75_8 x0 x1 x2 x3 x4 x5 x6 x7 x8)=qV_l6 m (qV m) M6 x0 x1 x2 x3 x4 x5 x6 x7 x8
 |0,_,_,_,_,_,_,_,_,_=>rfl
 | M6+1,x0,x1,x2,x3,x4,x5,x6,x7,x8=>
   tl (g:=fun J=>(bif (decide (x2<x1)) then
  (jj J 0 13 0 (s75_8 x0 x1 x2 x3 x4 x5 x6 x7 x8) (e75 J m w75_5 [M6]))
   else
  (jj J 0 16 0 (s75_9 x3 x4 x5 x6 x7 x8) (e75 J m [1,1,1,1] [])))) (by simp only[jj_eq,qV_j7_eq m M6 (qV_l6 m (qV m) M6) (qV_l6_eq m M6),qV_j9_eq m];rfl)
theorem qV_j5_eq m x0 x1 x2 x3 x4 x5 x6 x7 x8:e75 jn m w75_6 [] (s75_8 x0 x1 x2 x3 x4 x5 x6 x7 x8)=qV_j5 m (qV m) x0 x1 x2 x3 x4 x5 x6 x7 x8:=
 tq (g:=fun J=>(jj J 1 12 (Nat.succ m) (s75_8 x0 x1 x2 x3 x4 x5 x6 x7 x8) (l75 J m w75_3 [] (Nat.succ m)))) (by simp only[jj_eq,qV_l6_eq m];rfl)
theorem qV_j4_eq m x0 x1 x2 x3 x4 x5 x6:e75 jn m [1,1,1] [] (s75_4 x0 x1 x2 x3 x4 x5 x6)=qV_j4 m (qV m) x0 x1 x2 x3 x4 x5 x6:=
 tq (g:=fun J=>(bif (decide (0<(List.length (Dt.L x0 4):Int))) then
  ((mkL (List.length (Dt.L x0 4):Int) (List.length (Dt.L x0 4):Int) kzcda49).bind fun v5=>
  (jj J 0 12 0 (s75_8 (Dt.L x0 4) (List.length (Dt.L x0 4):Int) 0 x1 x2 x3 x4 x5 v5) (e75 J m w75_6 [])))
   else
  (jj J 0 16 0 (s75_9 x1 x2 x3 x4 x5 x6) (e75 J m [1,1,1,1] [])))) (by simp only[jj_eq,qV_j5_eq m,qV_j9_eq m];rfl)
theorem qV_l1_eq m:∀M1 x0 x1 x2 x3 x4 x5 x6 x7 x8 x9,l75 jn m w75_0 [] M1 (s75_3 x0 x1 x2 x3 x4 x5 x6 x7 x8 x9)=qV_l1 m (qV m) M1 x0 x1 x2 x3 x4 x5 x6 x7 x8 x9
 |0,_,_,_,_,_,_,_,_,_,_=>rfl
 | M1+1,x0,x1,x2,x3,x4,x5,x6,x7,x8,x9=>
   tl (g:=fun J=>(bif (decide (x2<x1)) then
  (jj J 0 6 0 (s75_3 x0 x1 x2 x3 x4 x5 x6 x7 x8 x9) (e75 J m w75_2 [M1]))
   else
  (jj J 0 9 0 (s75_4 x3 x4 x5 x6 x7 x8 x9) (e75 J m [1,1,1] [])))) (by simp only[jj_eq,qV_j2_eq m M1 (qV_l1 m (qV m) M1) (qV_l1_eq m M1),qV_j4_eq m];rfl)
theorem qV_j0_eq m x0 x1 x2 x3 x4 x5 x6 x7 x8 x9:e75 jn m w75_7 [] (s75_3 x0 x1 x2 x3 x4 x5 x6 x7 x8 x9)=qV_j0 m (qV m) x0 x1 x2 x3 x4 x5 x6 x7 x8 x9:=
 tq (g:=fun J=>(jj J 1 5 (Nat.succ m) (s75_3 x0 x1 x2 x3 x4 x5 x6 x7 x8 x9) (l75 J m w75_0 [] (Nat.succ m)))) (by simp only[jj_eq,qV_l1_eq m];rfl)
theorem qV_eq m a0:e75 jn m [] [] ⟨[(.dat 36 a0)],[],0⟩=qV (m+1) a0:=
 tq (g:=fun J=>(bif (decide (0<(List.length (Dt.L a0 3):Int))) then
  ((mkL (List.length (Dt.L a0 3):Int) (List.length (Dt.L a0 3):Int) kza2373).bind fun v0=>
  (jj J 0 5 0 (s75_3 (Dt.L a0 3) (List.length (Dt.L a0 3):Int) 0 a0 kza2373 (Dt.I a0 0) (Dt.I a0 1) (Dt.S a0 2) v0 []) (e75 J m w75_7 [])))
   else
  (jj J 0 9 0 (s75_4 a0 kza2373 (Dt.I a0 0) (Dt.I a0 1) (Dt.S a0 2) [] []) (e75 J m [1,1,1] [])))) (by simp only[jj_eq,qV_j0_eq m,qV_j4_eq m];rfl)
def w64_3:List Nat:=[1,1,1,0,1]
def w64_0:List Nat:=[1,1,1,0,1,0]
def w64_2:List Nat:=w64_0++[0,1,1]
def w64_1:List Nat:=w64_2++[1]
noncomputable def e64 (J:Nat→Nat→Nat→St→Option (List Dt)→Option (List Dt)) (m:Nat) (p ms:List Nat) (σ:St):=evAt Tryz.prog env (ct m) J (m+1) 99 30 Tryz.f99 d11 p ms σ
noncomputable def l64 (J:Nat→Nat→Nat→St→Option (List Dt)→Option (List Dt)) (m:Nat) (p ms:List Nat) (M:Nat) (σ:St):=loopAt Tryz.prog env (ct m) J (m+1) 99 30 Tryz.f99 d11 p ms M σ
noncomputable def s64_4 (x0 x1:Int) (x2:List Dt):St:=⟨tsOf [(5,(.row 0)),(16,(.row 0)),(17,(.dat 3 (.int x0))),(18,(.dat 3 (.int x1)))],[(.row 23 x2)],0⟩
noncomputable def s64_5 (x0:List Dt):St:=⟨tsOf [(5,(.row 0))],[(.row 23 x0)],0⟩
abbrev H64_2 (m M2:Nat) (rec2:Int→Int→List Dt→Option (List Dt)):Prop:=∀x0 x1 x2,l64 jn m w64_0 [] M2 (s64_4 x0 x1 x2)=rec2 x0 x1 x2
theorem zG_j4_eq m M2 rec2 (h2:H64_2 m M2 rec2) x0 x1 x2:e64 jn m w64_1 [M2] (s64_4 x0 x1 x2)=zG_j4 m rec2 x0 x1 x2:=
 tq (g:=fun J=>(jj J 1 5 M2 (s64_4 x0 (IntKind.wrap .i64 (x1+1)) x2) (l64 J m w64_0 [] M2))) (by simp only[jj_eq,h2];rfl)
theorem zG_j3_eq m M2 rec2 (h2:H64_2 m M2 rec2) x0 x1 x2:e64 jn m w64_2 [M2] (s64_4 x0 x1 x2)=zG_j3 m rec2 x0 x1 x2:=
 tq (g:=fun J=>((inL x2 x1).bind fun v1=>
  ((x2[(Int.toNat x1)]?).bind fun v2=>
  ((qV m v2).bind fun r3=>
  ((inL x2 x1).bind fun v4=>
  ((x2[(Int.toNat x1)]?).bind fun v5=>
  (jj J 0 8 0 (s64_4 x0 x1 (List.set x2 (Int.toNat x1) (Dt.agg [(Dt.int r3.1),(Dt.int r3.2.1),(Dt.str r3.2.2.1),(Dt.lst r3.2.2.2.1),(Dt.lst r3.2.2.2.2)]))) (e64 J m w64_1 [M2])))))))) (by simp only[jj_eq,zG_j4_eq m M2 rec2 h2];rfl)
theorem zG_j5_eq m x0:e64 jn m [1,1,1,1] [] (s64_5 x0)=zG_j5 m x0:=
 tq (g:=fun J=>some x0) (by rfl)
theorem zG_l2_eq m:∀M2 x0 x1 x2,l64 jn m w64_0 [] M2 (s64_4 x0 x1 x2)=zG_l2 m M2 x0 x1 x2
 |0,_,_,_=>rfl
 | M2+1,x0,x1,x2=>
   tl (g:=fun J=>(bif (decide (x1<x0)) then
  (jj J 0 6 0 (s64_4 x0 x1 x2) (e64 J m w64_2 [M2]))
   else
  (jj J 0 9 0 (s64_5 x2) (e64 J m [1,1,1,1] [])))) (by simp only[jj_eq,zG_j3_eq m M2 (zG_l2 m M2) (zG_l2_eq m M2),zG_j5_eq m];rfl)
theorem zG_j1_eq m x0 x1 x2:e64 jn m w64_3 [] (s64_4 x0 x1 x2)=zG_j1 m x0 x1 x2:=
 tq (g:=fun J=>(jj J 1 5 (Nat.succ m) (s64_4 x0 x1 x2) (l64 J m w64_0 [] (Nat.succ m)))) (by simp only[jj_eq,zG_l2_eq m];rfl)
theorem zG_j0_eq m x0:e64 jn m [1,1,1] [] (s64_5 x0)=zG_j0 m x0:=
 tq (g:=fun J=>(jj J 0 5 0 (s64_4 (List.length x0:Int) 0 x0) (e64 J m w64_3 []))) (by simp only[jj_eq,zG_j1_eq m];rfl)
theorem zG_eq m a0 a1:e64 jn m [] [] ⟨[(.dat 36 a0),(.dat 38 (.lst a1))],[],0⟩=zG (m+1) a0 a1:=
 tq (g:=fun J=>((i72 m a0 a1 []).bind fun r0=>
  (bif ((List.length r0:Int)==0) then
  some [kza2373]
  else
  (jj J 0 4 0 (s64_5 r0) (e64 J m [1,1,1] []))))) (by simp only[jj_eq,zG_j0_eq m];rfl)
noncomputable def e76 (J:Nat→Nat→Nat→St→Option Bool→Option Bool) (m:Nat) (p ms:List Nat) (σ:St):=evAt Tryz.prog env (ct m) J (m+1) 107 6 Tryz.f107 d14 p ms σ
theorem zX_eq m a0:e76 jn m [] [] ⟨[(.dat 3 (.int a0))],[],0⟩=zX (m+1) a0:=
 tq (g:=fun J=>some (a0 !=a0)) (by rfl)
def w65_3:List Nat:=[1,1,1,1,1]
def w65_2:List Nat:=[1,1,1,1,1,1]
def w65_0:List Nat:=[1,1,1,0,1,0,1]
def w65_1:List Nat:=w65_2++[1]
noncomputable def e65 (J:Nat→Nat→Nat→St→Option Int→Option Int) (m:Nat) (p ms:List Nat) (σ:St):=evAt Tryz.prog env (ct m) J (m+1) 90 20 Tryz.f90 d32 p ms σ
noncomputable def s65_0:St:=⟨tsOf [],[],0⟩
noncomputable def s65_3 (x0 x1:Int):St:=⟨tsOf [(0,(.dat 3 (.int x0))),(1,(.dat 3 (.int x1)))],[],0⟩
noncomputable def s65_1 (x0 x1:Int) (x2:Bool):St:=⟨tsOf [(0,(.dat 3 (.int x0))),(1,(.dat 3 (.int x1))),(6,(.dat 4 (.bool x2)))],[],0⟩
theorem zE_j0_eq m:e65 jn m w65_0 [] s65_0=zE_j0 m:=
 tq (g:=fun J=>some (-1)) (by rfl)
theorem zE_j4_eq m:e65 jn m w65_1 [] s65_0=zE_j4 m:=
 tq (g:=fun J=>some 0) (by rfl)
theorem zE_j3_eq m x0 x1:e65 jn m w65_2 [] (s65_3 x0 x1)=zE_j3 m x0 x1:=
 tq (g:=fun J=>(bif (decide (x1<x0)) then
  some 1
   else
  (jj J 0 13 0 s65_0 (e65 J m w65_1 [])))) (by simp only[jj_eq,zE_j4_eq m];rfl)
theorem zE_j2_eq m x0 x1:e65 jn m w65_3 [] (s65_3 x0 x1)=zE_j2 m x0 x1:=
 tq (g:=fun J=>(bif (decide (x0<x1)) then
  some (-1)
   else
  (jj J 0 11 0 (s65_3 x0 x1) (e65 J m w65_2 [])))) (by simp only[jj_eq,zE_j3_eq m];rfl)
theorem zE_j1_eq m x0 x1 x2:e65 jn m [1,1,1,1] [] (s65_1 x0 x1 x2)=zE_j1 m x0 x1 x2:=
 tq (g:=fun J=>(bif x2 then
  some 1
   else
  (jj J 0 9 0 (s65_3 x0 x1) (e65 J m w65_3 [])))) (by simp only[jj_eq,zE_j2_eq m];rfl)
theorem zE_eq m a0 a1:e65 jn m [] [] ⟨[(.dat 3 (.int a0)),(.dat 3 (.int a1))],[],0⟩=zE (m+1) a0 a1:=
 tq (g:=fun J=>((zX m a0).bind fun r0=>
  ((zX m a1).bind fun r1=>
  (bif r0 then
  (bif r1 then
  some 0
  else
  (jj J 0 6 0 s65_0 (e65 J m w65_0 [])))
  else
  (jj J 0 7 0 (s65_1 a0 a1 r1) (e65 J m [1,1,1,1] [])))))) (by simp only[jj_eq,zE_j0_eq m,zE_j1_eq m];rfl)
def w58_12:List Nat:=[1,1,0,1,0,1]
def w58_11:List Nat:=w58_12++[1,1]
def w58_3:List Nat:=w58_11++[1,1,0,1]
def w58_4:List Nat:=w58_11++[1,1,0,0,1]
def w58_0:List Nat:=w58_4++[0]
def w58_9:List Nat:=w58_11++[1,1,1,1,0,1]
def w58_10:List Nat:=w58_11++[1,1,1,1,0,0,1]
def w58_5:List Nat:=w58_10++[0]
def w58_2:List Nat:=w58_0++[0,1,1]
def w58_1:List Nat:=w58_2++[1]
def w58_8:List Nat:=w58_5++[0,1,1]
def w58_6:List Nat:=w58_8++[1]
def w58_7:List Nat:=w58_8++[0,0,1,1]
noncomputable def e58 (J:Nat→Nat→Nat→St→Option Int→Option Int) (m:Nat) (p ms:List Nat) (σ:St):=evAt Tryz.prog env (ct m) J (m+1) 68 126 Tryz.f68 d32 p ms σ
noncomputable def l58 (J:Nat→Nat→Nat→St→Option Int→Option Int) (m:Nat) (p ms:List Nat) (M:Nat) (σ:St):=loopAt Tryz.prog env (ct m) J (m+1) 68 126 Tryz.f68 d32 p ms M σ
noncomputable def s58_6 (x0 x1:Int) (x2 x3:Dt):St:=⟨tsOf [(2,(.ptr 0 [] 0)),(3,(.ptr 1 [] 0)),(48,(.dat 3 (.int x0))),(49,(.dat 3 (.int x1)))],[(.box 36 (.dat 36 x2)),(.box 36 (.dat 36 x3))],0⟩
noncomputable def s58_7 (x0 x1:Dt):St:=⟨tsOf [(2,(.ptr 0 [] 0)),(3,(.ptr 1 [] 0))],[(.box 36 (.dat 36 x0)),(.box 36 (.dat 36 x1))],0⟩
noncomputable def s58_12 (x0 x1:Int) (x2 x3:Dt):St:=⟨tsOf [(2,(.ptr 0 [] 0)),(3,(.ptr 1 [] 0)),(82,(.dat 3 (.int x0))),(83,(.dat 3 (.int x1)))],[(.box 36 (.dat 36 x2)),(.box 36 (.dat 36 x3))],0⟩
noncomputable def s58_11 (x0 x1 x2:Int) (x3 x4:Dt):St:=⟨tsOf [(2,(.ptr 0 [] 0)),(3,(.ptr 1 [] 0)),(7,(.dat 3 (.int x0))),(82,(.dat 3 (.int x1))),(83,(.dat 3 (.int x2)))],[(.box 36 (.dat 36 x3)),(.box 36 (.dat 36 x4))],0⟩
noncomputable def s58_14:St:=⟨tsOf [],[],0⟩
noncomputable def s58_2 (x0:Int) (x1:Bool) (x2 x3:Dt):St:=⟨tsOf [(2,(.ptr 0 [] 0)),(3,(.ptr 1 [] 0)),(21,(.dat 3 (.int x0))),(31,(.dat 4 (.bool x1)))],[(.box 36 (.dat 36 x2)),(.box 36 (.dat 36 x3))],0⟩
noncomputable def s58_1 (x0:Int) (x1:Bool) (x2 x3:Dt):St:=⟨tsOf [(2,(.ptr 0 [] 0)),(3,(.ptr 1 [] 0)),(21,(.dat 3 (.int x0))),(22,(.dat 4 (.bool x1)))],[(.box 36 (.dat 36 x2)),(.box 36 (.dat 36 x3))],0⟩
abbrev H58_4 (m M4:Nat) (rec4:Int→Int→Dt→Dt→Option Int):Prop:=∀x0 x1 x2 x3,l58 jn m w58_0 [] M4 (s58_6 x0 x1 x2 x3)=rec4 x0 x1 x2 x3
theorem qC_j6_eq m M4 rec4 (h4:H58_4 m M4 rec4) x0 x1 x2 x3:e58 jn m w58_1 [M4] (s58_6 x0 x1 x2 x3)=qC_j6 m (qC m) rec4 x0 x1 x2 x3:=
 tq (g:=fun J=>(jj J 1 14 M4 (s58_6 x0 (IntKind.wrap .i64 (x1+1)) x2 x3) (l58 J m w58_0 [] M4))) (by simp only[jj_eq,h4];rfl)
theorem qC_j5_eq m M4 rec4 (h4:H58_4 m M4 rec4) x0 x1 x2 x3:e58 jn m w58_2 [M4] (s58_6 x0 x1 x2 x3)=qC_j5 m (qC m) rec4 x0 x1 x2 x3:=
 tq (g:=fun J=>((idx (Dt.L x2 3) x1).bind fun v3=>
  ((idx (Dt.L x3 3) x1).bind fun v4=>
  ((qC m v3 v4).bind fun r5=>
  (bif (r5 !=0) then
  some r5
  else
  (jj J 0 19 0 (s58_6 x0 x1 x2 x3) (e58 J m w58_1 [M4]))))))) (by simp only[jj_eq,qC_j6_eq m M4 rec4 h4];rfl)
theorem qC_j7_eq m x0 x1:e58 jn m w58_3 [] (s58_7 x0 x1)=qC_j7 m (qC m) x0 x1:=
 tq (g:=fun J=>((zE m (List.length (Dt.L x0 3):Int) (List.length (Dt.L x1 3):Int)).bind fun r6=>
  some r6)) (by rfl)
theorem qC_l4_eq m:∀M4 x0 x1 x2 x3,l58 jn m w58_0 [] M4 (s58_6 x0 x1 x2 x3)=qC_l4 m (qC m) M4 x0 x1 x2 x3
 |0,_,_,_,_=>rfl
 | M4+1,x0,x1,x2,x3=>
   tl (g:=fun J=>(bif (decide (x1<x0)) then
  (jj J 0 15 0 (s58_6 x0 x1 x2 x3) (e58 J m w58_2 [M4]))
   else
  (jj J 0 20 0 (s58_7 x2 x3) (e58 J m w58_3 [])))) (by simp only[jj_eq,qC_j5_eq m M4 (qC_l4 m (qC m) M4) (qC_l4_eq m M4),qC_j7_eq m];rfl)
theorem qC_j3_eq m x0 x1 x2 x3:e58 jn m w58_4 [] (s58_6 x0 x1 x2 x3)=qC_j3 m (qC m) x0 x1 x2 x3:=
 tq (g:=fun J=>(jj J 1 14 (Nat.succ m) (s58_6 x0 x1 x2 x3) (l58 J m w58_0 [] (Nat.succ m)))) (by simp only[jj_eq,qC_l4_eq m];rfl)
abbrev H58_9 (m M9:Nat) (rec9:Int→Int→Dt→Dt→Option Int):Prop:=∀x0 x1 x2 x3,l58 jn m w58_5 [] M9 (s58_12 x0 x1 x2 x3)=rec9 x0 x1 x2 x3
theorem qC_j12_eq m M9 rec9 (h9:H58_9 m M9 rec9) x0 x1 x2 x3:e58 jn m w58_6 [M9] (s58_12 x0 x1 x2 x3)=qC_j12 m (qC m) rec9 x0 x1 x2 x3:=
 tq (g:=fun J=>(jj J 1 23 M9 (s58_12 x0 (IntKind.wrap .i64 (x1+1)) x2 x3) (l58 J m w58_5 [] M9))) (by simp only[jj_eq,h9];rfl)
theorem qC_j11_eq m M9 rec9 (h9:H58_9 m M9 rec9) x0 x1 x2 x3 x4:e58 jn m w58_7 [M9] (s58_11 x0 x1 x2 x3 x4)=qC_j11 m (qC m) rec9 x0 x1 x2 x3 x4:=
 tq (g:=fun J=>((idx (Dt.L x3 4) x0).bind fun v10=>
  ((idx (Dt.L x4 4) x0).bind fun v11=>
  ((qC m (Dt.fld v10 1) (Dt.fld v11 1)).bind fun r12=>
  (bif (r12 !=0) then
  some r12
  else
  (jj J 0 31 0 (s58_12 x1 x2 x3 x4) (e58 J m w58_6 [M9]))))))) (by simp only[jj_eq,qC_j12_eq m M9 rec9 h9];rfl)
theorem qC_j10_eq m M9 rec9 (h9:H58_9 m M9 rec9) x0 x1 x2 x3:e58 jn m w58_8 [M9] (s58_12 x0 x1 x2 x3)=qC_j10 m (qC m) rec9 x0 x1 x2 x3:=
 tq (g:=fun J=>((idx (Dt.L x2 4) x1).bind fun v7=>
  ((idx (Dt.L x3 4) x1).bind fun v8=>
  ((strings_Compare (Dt.S v7 0) (Dt.S v8 0)).bind fun r9=>
  (bif (r9 !=0) then
  some r9
  else
  (jj J 0 28 0 (s58_11 x1 x0 x1 x2 x3) (e58 J m w58_7 [M9]))))))) (by simp only[jj_eq,qC_j11_eq m M9 rec9 h9];rfl)
theorem qC_j13_eq m x0 x1:e58 jn m w58_9 [] (s58_7 x0 x1)=qC_j13 m (qC m) x0 x1:=
 tq (g:=fun J=>((zE m (List.length (Dt.L x0 4):Int) (List.length (Dt.L x1 4):Int)).bind fun r13=>
  some r13)) (by rfl)
theorem qC_l9_eq m:∀M9 x0 x1 x2 x3,l58 jn m w58_5 [] M9 (s58_12 x0 x1 x2 x3)=qC_l9 m (qC m) M9 x0 x1 x2 x3
 |0,_,_,_,_=>rfl
 | M9+1,x0,x1,x2,x3=>
   tl (g:=fun J=>(bif (decide (x1<x0)) then
  (jj J 0 24 0 (s58_12 x0 x1 x2 x3) (e58 J m w58_8 [M9]))
   else
  (jj J 0 32 0 (s58_7 x2 x3) (e58 J m w58_9 [])))) (by simp only[jj_eq,qC_j10_eq m M9 (qC_l9 m (qC m) M9) (qC_l9_eq m M9),qC_j13_eq m];rfl)
theorem qC_j8_eq m x0 x1 x2 x3:e58 jn m w58_10 [] (s58_12 x0 x1 x2 x3)=qC_j8 m (qC m) x0 x1 x2 x3:=
 tq (g:=fun J=>(jj J 1 23 (Nat.succ m) (s58_12 x0 x1 x2 x3) (l58 J m w58_5 [] (Nat.succ m)))) (by simp only[jj_eq,qC_l9_eq m];rfl)
theorem qC_j14_eq m:e58 jn m [1,1,1] [] s58_14=qC_j14 m (qC m):=
 tq (g:=fun J=>some 0) (by rfl)
theorem qC_j2_eq m x0 x1 x2 x3:e58 jn m w58_11 [] (s58_2 x0 x1 x2 x3)=qC_j2 m (qC m) x0 x1 x2 x3:=
 tq (g:=fun J=>(bif x1 then
  ((strings_Compare (Dt.S x2 2) (Dt.S x3 2)).bind fun r2=>
  some r2)
   else
  (bif (x0==6) then
  (jj J 0 14 0 (s58_6 (bif (decide ((List.length (Dt.L x3 3):Int)<(List.length (Dt.L x2 3):Int))) then(List.length (Dt.L x3 3):Int) else(List.length (Dt.L x2 3):Int)) 0 x2 x3) (e58 J m w58_4 []))
  else
  (bif (x0==5) then
  (jj J 0 23 0 (s58_12 (bif (decide ((List.length (Dt.L x3 4):Int)<(List.length (Dt.L x2 4):Int))) then(List.length (Dt.L x3 4):Int) else(List.length (Dt.L x2 4):Int)) 0 x2 x3) (e58 J m w58_10 []))
  else
  (jj J 0 33 0 s58_14 (e58 J m [1,1,1] [])))))) (by simp only[jj_eq,qC_j3_eq m,qC_j8_eq m,qC_j14_eq m];rfl)
theorem qC_j1_eq m x0 x1 x2 x3:e58 jn m w58_12 [] (s58_1 x0 x1 x2 x3)=qC_j1 m (qC m) x0 x1 x2 x3:=
 tq (g:=fun J=>(bif x1 then
  ((zE m (Dt.I x2 1) (Dt.I x3 1)).bind fun r1=>
  some r1)
   else
  (bif (x0==4) then
  (jj J 0 11 0 (s58_2 x0 (x0==4) x2 x3) (e58 J m w58_11 []))
  else
  (bif (x0==7) then
  (jj J 0 11 0 (s58_2 x0 (x0==7) x2 x3) (e58 J m w58_11 []))
  else
  (jj J 0 11 0 (s58_2 x0 (x0==8) x2 x3) (e58 J m w58_11 [])))))) (by simp only[jj_eq,qC_j2_eq m];rfl)
theorem qC_j0_eq m x0 x1:e58 jn m [1,1] [] (s58_7 x0 x1)=qC_j0 m (qC m) x0 x1:=
 tq (g:=fun J=>(bif ((Dt.I x0 0)==3) then
  (jj J 0 7 0 (s58_1 (Dt.I x0 0) ((Dt.I x0 0)==3) x0 x1) (e58 J m w58_12 []))
   else
  (bif ((Dt.I x0 0)==9) then
  (jj J 0 7 0 (s58_1 (Dt.I x0 0) ((Dt.I x0 0)==9) x0 x1) (e58 J m w58_12 []))
  else
  (jj J 0 7 0 (s58_1 (Dt.I x0 0) ((Dt.I x0 0)==10) x0 x1) (e58 J m w58_12 []))))) (by simp only[jj_eq,qC_j1_eq m];rfl)
theorem qC_eq m a0 a1:e58 jn m [] [] ⟨[(.dat 36 a0),(.dat 36 a1)],[],0⟩=qC (m+1) a0 a1:=
 tq (g:=fun J=>(bif ((Dt.I a0 0) !=(Dt.I a1 0)) then
  ((zE m (Dt.I a0 0) (Dt.I a1 0)).bind fun r0=>
  some r0)
   else
  (jj J 0 3 0 (s58_7 a0 a1) (e58 J m [1,1] [])))) (by simp only[jj_eq,qC_j0_eq m];rfl)
def w43_2:List Nat:=[1,0,1,0,0,1,1]
def w43_0:List Nat:=w43_2++[1]
def w43_1:List Nat:=w43_2++[0,0,1,1,1]
noncomputable def e43 (J:Nat→Nat→Nat→St→Option Int→Option Int) (m:Nat) (p ms:List Nat) (σ:St):=evAt Tryz.prog env (ct m) J (m+1) 51 34 Tryz.f51 d32 p ms σ
noncomputable def l43 (J:Nat→Nat→Nat→St→Option Int→Option Int) (m:Nat) (p ms:List Nat) (M:Nat) (σ:St):=loopAt Tryz.prog env (ct m) J (m+1) 51 34 Tryz.f51 d32 p ms M σ
noncomputable def s43_4 (x0 x1 x2:List Dt) (x3 x4:Int):St:=⟨tsOf [(1,(.dat 23 (.lst x0))),(2,(.dat 23 (.lst x1))),(10,(.dat 22 (.lst x2))),(11,(.dat 3 (.int x3))),(12,(.dat 3 (.int x4)))],[],0⟩
noncomputable def s43_3 (x0 x1:List Dt) (x2:Int) (x3:List Dt) (x4 x5:Int):St:=⟨tsOf [(1,(.dat 23 (.lst x0))),(2,(.dat 23 (.lst x1))),(9,(.dat 3 (.int x2))),(10,(.dat 22 (.lst x3))),(11,(.dat 3 (.int x4))),(12,(.dat 3 (.int x5)))],[],0⟩
noncomputable def s43_5:St:=⟨tsOf [],[],0⟩
abbrev H43_1 (m M1:Nat) (rec1:List Dt→List Dt→List Dt→Int→Int→Option Int):Prop:=∀x0 x1 x2 x3 x4,l43 jn m [1,0,1,0] [] M1 (s43_4 x0 x1 x2 x3 x4)=rec1 x0 x1 x2 x3 x4
theorem qY_j4_eq m M1 rec1 (h1:H43_1 m M1 rec1) x0 x1 x2 x3 x4:e43 jn m w43_0 [M1] (s43_4 x0 x1 x2 x3 x4)=qY_j4 m rec1 x0 x1 x2 x3 x4:=
 tq (g:=fun J=>(jj J 1 2 M1 (s43_4 x0 x1 x2 x3 (IntKind.wrap .i64 (x4+1))) (l43 J m [1,0,1,0] [] M1))) (by simp only[jj_eq,h1];rfl)
theorem qY_j3_eq m M1 rec1 (h1:H43_1 m M1 rec1) x0 x1 x2 x3 x4 x5:e43 jn m w43_1 [M1] (s43_3 x0 x1 x2 x3 x4 x5)=qY_j3 m rec1 x0 x1 x2 x3 x4 x5:=
 tq (g:=fun J=>(bif (x2 !=0) then
  some x2
   else
  (jj J 0 9 0 (s43_4 x0 x1 x3 x4 x5) (e43 J m w43_0 [M1])))) (by simp only[jj_eq,qY_j4_eq m M1 rec1 h1];rfl)
theorem qY_j2_eq m M1 rec1 (h1:H43_1 m M1 rec1) x0 x1 x2 x3 x4:e43 jn m w43_2 [M1] (s43_4 x0 x1 x2 x3 x4)=qY_j2 m rec1 x0 x1 x2 x3 x4:=
 tq (g:=fun J=>((idx x2 x4).bind fun v0=>
  ((idx x0 x4).bind fun v1=>
  ((idx x1 x4).bind fun v2=>
  ((qC m v1 v2).bind fun r3=>
  (bif (Dt.B v0 1) then
  (jj J 0 7 0 (s43_3 x0 x1 (IntKind.wrap .i64 (0-r3)) x2 x3 x4) (e43 J m w43_1 [M1]))
  else
  (jj J 0 7 0 (s43_3 x0 x1 r3 x2 x3 x4) (e43 J m w43_1 [M1])))))))) (by simp only[jj_eq,qY_j3_eq m M1 rec1 h1];rfl)
theorem qY_j5_eq m:e43 jn m [1,1] [] s43_5=qY_j5 m:=
 tq (g:=fun J=>some 0) (by rfl)
theorem qY_l1_eq m:∀M1 x0 x1 x2 x3 x4,l43 jn m [1,0,1,0] [] M1 (s43_4 x0 x1 x2 x3 x4)=qY_l1 m M1 x0 x1 x2 x3 x4
 |0,_,_,_,_,_=>rfl
 | M1+1,x0,x1,x2,x3,x4=>
   tl (g:=fun J=>(bif (decide (x4<x3)) then
  (jj J 0 3 0 (s43_4 x0 x1 x2 x3 x4) (e43 J m w43_2 [M1]))
   else
  (jj J 0 10 0 s43_5 (e43 J m [1,1] [])))) (by simp only[jj_eq,qY_j2_eq m M1 (qY_l1 m M1) (qY_l1_eq m M1),qY_j5_eq m];rfl)
theorem qY_j0_eq m x0 x1 x2 x3 x4:e43 jn m [1,0,1] [] (s43_4 x0 x1 x2 x3 x4)=qY_j0 m x0 x1 x2 x3 x4:=
 tq (g:=fun J=>(jj J 1 2 (Nat.succ m) (s43_4 x0 x1 x2 x3 x4) (l43 J m [1,0,1,0] [] (Nat.succ m)))) (by simp only[jj_eq,qY_l1_eq m];rfl)
theorem qY_eq m a0 a1 a2:e43 jn m [] [] ⟨[(.dat 22 (.lst a0)),(.dat 23 (.lst a1)),(.dat 23 (.lst a2))],[],0⟩=qY (m+1) a0 a1 a2:=
 tq (g:=fun J=>(jj J 0 2 0 (s43_4 a1 a2 a0 (List.length a0:Int) 0) (e43 J m [1,0,1] []))) (by simp only[jj_eq,qY_j0_eq m];rfl)
noncomputable def e42 (J:Nat→Nat→Nat→St→Option (Int×List Dt)→Option (Int×List Dt)) (m:Nat) (p ms:List Nat) (σ:St):=evAt Tryz.prog env (ct m) J (m+1) 50 12 Tryz.f50 d42 p ms σ
theorem i42_eq m a0 a1 a2:e42 jn m [] [] ⟨[(.dat 94 a0),(.dat 94 a1),(.ptr 0 [] 0)],[(.box 22 (.dat 22 (.lst a2)))],1⟩=i42 (m+1) a0 a1 a2:=
 tq (g:=fun J=>((qY m a2 (Dt.L a0 1) (Dt.L a1 1)).bind fun r0=>
  some (r0,a2))) (by rfl)
def w41_3:List Nat:=[1,0,0,1,1]
def w41_4:List Nat:=[1,0,0,1,0,0,1]
def w41_0:List Nat:=w41_4++[0]
def w41_2:List Nat:=w41_0++[0,1]
def w41_1:List Nat:=w41_2++[1]
noncomputable def e41 (J:Nat→Nat→Nat→St→Option (List Dt×List Dt)→Option (List Dt×List Dt)) (m:Nat) (p ms:List Nat) (σ:St):=evAt Tryz.prog env (ct m) J (m+1) 100 53 Tryz.f100 d46 p ms σ
noncomputable def l41 (J:Nat→Nat→Nat→St→Option (List Dt×List Dt)→Option (List Dt×List Dt)) (m:Nat) (p ms:List Nat) (M:Nat) (σ:St):=loopAt Tryz.prog env (ct m) J (m+1) 100 53 Tryz.f100 d46 p ms M σ
noncomputable def s41_6 (x0 x1 x2 x3:Int) (x4 x5:List Dt):St:=⟨tsOf [(0,(.row 0)),(1,(.dat 3 (.int x0))),(2,(.dat 3 (.int x1))),(3,(.fn 50 [(.ptr 1 [] 0)])),(8,(.dat 3 (.int x2))),(9,(.dat 3 (.int x3)))],[(.row 91 x4),(.box 22 (.dat 22 (.lst x5)))],2⟩
noncomputable def s41_7 (x0 x1 x2:Int) (x3 x4:List Dt):St:=⟨tsOf [(0,(.row 0)),(1,(.dat 3 (.int x0))),(2,(.dat 3 (.int x1))),(3,(.fn 50 [(.ptr 1 [] 0)])),(8,(.dat 3 (.int x2)))],[(.row 91 x3),(.box 22 (.dat 22 (.lst x4)))],2⟩
abbrev H41_1 (m M1:Nat) (rec1:Int→Int→Int→List Dt→List Dt→Option (List Dt×List Dt)):Prop:=∀x0 x1 x2 x3 x4,l41 jn m [1,0] [] M1 (s41_7 x0 x1 x2 x3 x4)=rec1 x0 x1 x2 x3 x4
abbrev H41_4 (m M1 M4:Nat) (rec4:Int→Int→Int→Int→List Dt→List Dt→Option (List Dt×List Dt)):Prop:=∀x0 x1 x2 x3 x4 x5,l41 jn m w41_0 [M1] M4 (s41_6 x0 x1 x2 x3 x4 x5)=rec4 x0 x1 x2 x3 x4 x5
theorem i41_j6_eq m M1 rec1 (h1:H41_1 m M1 rec1) M4 rec4 (h4:H41_4 m M1 M4 rec4) x0 x1 x2 x3 x4 x5:e41 jn m w41_1 [M1,M4] (s41_6 x0 x1 x2 x3 x4 x5)=i41_j6 m rec1 rec4 x0 x1 x2 x3 x4 x5:=
 tq (g:=fun J=>(jj J 1 4 M4 (s41_6 x0 x1 x2 (IntKind.wrap .i64 (x3-1)) x4 x5) (l41 J m w41_0 [M1] M4))) (by simp only[jj_eq,h4];rfl)
theorem i41_j5_eq m M1 rec1 (h1:H41_1 m M1 rec1) M4 rec4 (h4:H41_4 m M1 M4 rec4) x0 x1 x2 x3 x4 x5:e41 jn m w41_2 [M1,M4] (s41_6 x0 x1 x2 x3 x4 x5)=i41_j5 m rec1 rec4 x0 x1 x2 x3 x4 x5:=
 tq (g:=fun J=>((inL x4 (IntKind.wrap .i64 (x3-1))).bind fun v5=>
  ((x4[(Int.toNat (IntKind.wrap .i64 (x3-1)))]?).bind fun v6=>
  ((inL x4 x3).bind fun v7=>
  ((x4[(Int.toNat x3)]?).bind fun v8=>
  ((inL x4 x3).bind fun v9=>
  ((x4[(Int.toNat x3)]?).bind fun v10=>
  ((inL (List.set x4 (Int.toNat x3) v6) (IntKind.wrap .i64 (x3-1))).bind fun v11=>
  (((List.set x4 (Int.toNat x3) v6)[(Int.toNat (IntKind.wrap .i64 (x3-1)))]?).bind fun v12=>
  (jj J 0 5 0 (s41_6 x0 x1 x2 x3 (List.set (List.set x4 (Int.toNat x3) v6) (Int.toNat (IntKind.wrap .i64 (x3-1))) v8) x5) (e41 J m w41_1 [M1,M4]))))))))))) (by simp only[jj_eq,i41_j6_eq m M1 rec1 h1 M4 rec4 h4];rfl)
theorem i41_j7_eq m M1 rec1 (h1:H41_1 m M1 rec1) x0 x1 x2 x3 x4:e41 jn m w41_3 [M1] (s41_7 x0 x1 x2 x3 x4)=i41_j7 m rec1 x0 x1 x2 x3 x4:=
 tq (g:=fun J=>(jj J 1 1 M1 (s41_7 x0 x1 (IntKind.wrap .i64 (x2+1)) x3 x4) (l41 J m [1,0] [] M1))) (by simp only[jj_eq,h1];rfl)
theorem i41_l4_eq m M1 rec1 (h1:H41_1 m M1 rec1):∀M4 x0 x1 x2 x3 x4 x5,l41 jn m w41_0 [M1] M4 (s41_6 x0 x1 x2 x3 x4 x5)=i41_l4 m rec1 M4 x0 x1 x2 x3 x4 x5
 |0,_,_,_,_,_,_=>rfl
 | M4+1,x0,x1,x2,x3,x4,x5=>
   tl (g:=fun J=>(bif (decide (x0<x3)) then
  ((inL x4 x3).bind fun v0=>
  ((x4[(Int.toNat x3)]?).bind fun v1=>
  ((inL x4 (IntKind.wrap .i64 (x3-1))).bind fun v2=>
  ((x4[(Int.toNat (IntKind.wrap .i64 (x3-1)))]?).bind fun v3=>
  ((i42 m v1 v3 x5).bind fun r4=>
  (bif (decide (r4.1<0)) then
  (jj J 0 6 0 (s41_6 x0 x1 x2 x3 x4 r4.2) (e41 J m w41_2 [M1,M4]))
  else
  (jj J 0 2 0 (s41_7 x0 x1 x2 x4 r4.2) (e41 J m w41_3 [M1]))))))))
   else
  (jj J 0 2 0 (s41_7 x0 x1 x2 x4 x5) (e41 J m w41_3 [M1])))) (by simp only[jj_eq,i41_j5_eq m M1 rec1 h1 M4 (i41_l4 m rec1 M4) (i41_l4_eq m M1 rec1 h1 M4),i41_j7_eq m M1 rec1 h1];rfl)
theorem i41_j3_eq m M1 rec1 (h1:H41_1 m M1 rec1) x0 x1 x2 x3 x4 x5:e41 jn m w41_4 [M1] (s41_6 x0 x1 x2 x3 x4 x5)=i41_j3 m rec1 x0 x1 x2 x3 x4 x5:=
 tq (g:=fun J=>(jj J 1 4 (Nat.succ m) (s41_6 x0 x1 x2 x3 x4 x5) (l41 J m w41_0 [M1] (Nat.succ m)))) (by simp only[jj_eq,i41_l4_eq m M1 rec1 h1];rfl)
theorem i41_j2_eq m M1 rec1 (h1:H41_1 m M1 rec1) x0 x1 x2 x3 x4:e41 jn m [1,0,0,1] [M1] (s41_7 x0 x1 x2 x3 x4)=i41_j2 m rec1 x0 x1 x2 x3 x4:=
 tq (g:=fun J=>(jj J 0 4 0 (s41_6 x0 x1 x2 x2 x3 x4) (e41 J m w41_4 [M1]))) (by simp only[jj_eq,i41_j3_eq m M1 rec1 h1];rfl)
theorem i41_l1_eq m:∀M1 x0 x1 x2 x3 x4,l41 jn m [1,0] [] M1 (s41_7 x0 x1 x2 x3 x4)=i41_l1 m M1 x0 x1 x2 x3 x4
 |0,_,_,_,_,_=>rfl
 | M1+1,x0,x1,x2,x3,x4=>
   tl (g:=fun J=>(bif (decide (x2<x1)) then
  (jj J 0 3 0 (s41_7 x0 x1 x2 x3 x4) (e41 J m [1,0,0,1] [M1]))
   else
  some (x3,x4))) (by simp only[jj_eq,i41_j2_eq m M1 (i41_l1 m M1) (i41_l1_eq m M1)];rfl)
theorem i41_j0_eq m x0 x1 x2 x3 x4:e41 jn m [1] [] (s41_7 x0 x1 x2 x3 x4)=i41_j0 m x0 x1 x2 x3 x4:=
 tq (g:=fun J=>(jj J 1 1 (Nat.succ m) (s41_7 x0 x1 x2 x3 x4) (l41 J m [1,0] [] (Nat.succ m)))) (by simp only[jj_eq,i41_l1_eq m];rfl)
theorem i41_eq m a0 a1 a2 a3:e41 jn m [] [] ⟨[(.row 0),(.dat 3 (.int a0)),(.dat 3 (.int a1)),(.fn 50 [(.ptr 1 [] 0)])],[(.row 91 a2),(.box 22 (.dat 22 (.lst a3)))],2⟩=i41 (m+1) a0 a1 a2 a3:=
 tq (g:=fun J=>(jj J 0 1 0 (s41_7 a0 a1 (IntKind.wrap .i64 (a0+1)) a2 a3) (e41 J m [1] []))) (by simp only[jj_eq,i41_j0_eq m];rfl)
def w44_7:List Nat:=[0,1,0,1,1]
def w44_6:List Nat:=[0,1,0,1,1,1]
def w44_15:List Nat:=[1,0,1,0,1,1]
def w44_25:List Nat:=[1,1,1,1,1,1]
def w44_0:List Nat:=[0,1,0,1,1,0,0]
def w44_14:List Nat:=w44_15++[1]
def w44_24:List Nat:=w44_25++[1]
def w44_5:List Nat:=w44_6++[0,1]
def w44_8:List Nat:=w44_15++[0,0]
def w44_23:List Nat:=w44_24++[1]
def w44_1:List Nat:=w44_0++[0,1]
def w44_2:List Nat:=w44_5++[0]
def w44_13:List Nat:=w44_14++[0,1]
def w44_16:List Nat:=w44_24++[0,0]
def w44_9:List Nat:=w44_8++[0,1]
def w44_10:List Nat:=w44_13++[0]
def w44_21:List Nat:=w44_23++[1,1]
def w44_4:List Nat:=w44_2++[0,1]
def w44_17:List Nat:=w44_16++[0,1]
def w44_19:List Nat:=w44_21++[1]
def w44_22:List Nat:=w44_23++[1,0,1]
def w44_3:List Nat:=w44_4++[1]
def w44_12:List Nat:=w44_10++[0,1]
def w44_18:List Nat:=w44_19++[1]
def w44_20:List Nat:=w44_21++[0,1]
def w44_11:List Nat:=w44_12++[1]
noncomputable def e44 (J:Nat→Nat→Nat→St→Option (List Dt×List Dt)→Option (List Dt×List Dt)) (m:Nat) (p ms:List Nat) (σ:St):=evAt Tryz.prog env (ct m) J (m+1) 101 220 Tryz.f101 d46 p ms σ
noncomputable def l44 (J:Nat→Nat→Nat→St→Option (List Dt×List Dt)→Option (List Dt×List Dt)) (m:Nat) (p ms:List Nat) (M:Nat) (σ:St):=loopAt Tryz.prog env (ct m) J (m+1) 101 220 Tryz.f101 d46 p ms M σ
noncomputable def s44_2 (x0 x1 x2:Int) (x3 x4:List Dt):St:=⟨tsOf [(0,(.row 0)),(1,(.dat 3 (.int x0))),(4,(.fn 50 [(.ptr 1 [] 0)])),(10,(.dat 3 (.int x1))),(11,(.dat 3 (.int x2)))],[(.row 91 x3),(.box 22 (.dat 22 (.lst x4)))],2⟩
noncomputable def s44_7 (x0 x1:Int) (x2 x3:List Dt):St:=⟨tsOf [(0,(.row 0)),(10,(.dat 3 (.int x0))),(13,(.dat 3 (.int x1)))],[(.row 91 x2),(.box 22 (.dat 22 (.lst x3)))],2⟩
noncomputable def s44_3 (x0 x1:Int) (x2 x3:List Dt):St:=⟨tsOf [(0,(.row 0)),(1,(.dat 3 (.int x0))),(10,(.dat 3 (.int x1)))],[(.row 91 x2),(.box 22 (.dat 22 (.lst x3)))],2⟩
noncomputable def s44_11 (x0 x1 x2:Int) (x3 x4:List Dt):St:=⟨tsOf [(0,(.row 0)),(2,(.dat 3 (.int x0))),(4,(.fn 50 [(.ptr 1 [] 0)])),(14,(.dat 3 (.int x1))),(15,(.dat 3 (.int x2)))],[(.row 91 x3),(.box 22 (.dat 22 (.lst x4)))],2⟩
noncomputable def s44_16 (x0 x1:Int) (x2 x3:List Dt):St:=⟨tsOf [(0,(.row 0)),(14,(.dat 3 (.int x0))),(17,(.dat 3 (.int x1)))],[(.row 91 x2),(.box 22 (.dat 22 (.lst x3)))],2⟩
noncomputable def s44_12 (x0 x1:Int) (x2 x3:List Dt):St:=⟨tsOf [(0,(.row 0)),(2,(.dat 3 (.int x0))),(14,(.dat 3 (.int x1)))],[(.row 91 x2),(.box 22 (.dat 22 (.lst x3)))],2⟩
noncomputable def s44_21 (x0 x1 x2 x3 x4 x5 x6 x7:Int) (x8 x9:List Dt):St:=⟨tsOf [(0,(.row 0)),(1,(.dat 3 (.int x0))),(2,(.dat 3 (.int x1))),(3,(.dat 3 (.int x2))),(4,(.fn 50 [(.ptr 1 [] 0)])),(18,(.dat 3 (.int x3))),(19,(.dat 3 (.int x4))),(20,(.dat 3 (.int x5))),(21,(.dat 3 (.int x6))),(22,(.dat 3 (.int x7)))],[(.row 91 x8),(.box 22 (.dat 22 (.lst x9)))],2⟩
noncomputable def s44_27 (x0 x1 x2:Int) (x3:Bool) (x4 x5:List Dt):St:=⟨tsOf [(0,(.row 0)),(3,(.dat 3 (.int x0))),(4,(.fn 50 [(.ptr 1 [] 0)])),(18,(.dat 3 (.int x1))),(24,(.dat 3 (.int x2))),(213,(.dat 4 (.bool x3)))],[(.row 91 x4),(.box 22 (.dat 22 (.lst x5)))],2⟩
noncomputable def s44_26 (x0 x1 x2:Int) (x3 x4:List Dt):St:=⟨tsOf [(0,(.row 0)),(3,(.dat 3 (.int x0))),(4,(.fn 50 [(.ptr 1 [] 0)])),(18,(.dat 3 (.int x1))),(24,(.dat 3 (.int x2)))],[(.row 91 x3),(.box 22 (.dat 22 (.lst x4)))],2⟩
noncomputable def s44_25 (x0 x1 x2 x3 x4:Int) (x5:Bool) (x6 x7:List Dt):St:=⟨tsOf [(0,(.row 0)),(1,(.dat 3 (.int x0))),(3,(.dat 3 (.int x1))),(4,(.fn 50 [(.ptr 1 [] 0)])),(18,(.dat 3 (.int x2))),(20,(.dat 3 (.int x3))),(24,(.dat 3 (.int x4))),(199,(.dat 4 (.bool x5)))],[(.row 91 x6),(.box 22 (.dat 22 (.lst x7)))],2⟩
noncomputable def s44_24 (x0 x1 x2 x3 x4:Int) (x5 x6:List Dt):St:=⟨tsOf [(0,(.row 0)),(1,(.dat 3 (.int x0))),(3,(.dat 3 (.int x1))),(4,(.fn 50 [(.ptr 1 [] 0)])),(18,(.dat 3 (.int x2))),(20,(.dat 3 (.int x3))),(24,(.dat 3 (.int x4)))],[(.row 91 x5),(.box 22 (.dat 22 (.lst x6)))],2⟩
noncomputable def s44_23 (x0 x1 x2 x3 x4 x5:Int) (x6:Bool) (x7 x8:List Dt):St:=⟨tsOf [(0,(.row 0)),(1,(.dat 3 (.int x0))),(2,(.dat 3 (.int x1))),(3,(.dat 3 (.int x2))),(4,(.fn 50 [(.ptr 1 [] 0)])),(18,(.dat 3 (.int x3))),(20,(.dat 3 (.int x4))),(24,(.dat 3 (.int x5))),(185,(.dat 4 (.bool x6)))],[(.row 91 x7),(.box 22 (.dat 22 (.lst x8)))],2⟩
noncomputable def s44_22 (x0 x1 x2 x3 x4 x5:Int) (x6 x7:List Dt):St:=⟨tsOf [(0,(.row 0)),(1,(.dat 3 (.int x0))),(2,(.dat 3 (.int x1))),(3,(.dat 3 (.int x2))),(4,(.fn 50 [(.ptr 1 [] 0)])),(18,(.dat 3 (.int x3))),(19,(.dat 3 (.int x4))),(20,(.dat 3 (.int x5)))],[(.row 91 x6),(.box 22 (.dat 22 (.lst x7)))],2⟩
noncomputable def s44_18 (x0 x1 x2 x3 x4 x5 x6:Int) (x7 x8:List Dt):St:=⟨tsOf [(0,(.row 0)),(1,(.dat 3 (.int x0))),(2,(.dat 3 (.int x1))),(3,(.dat 3 (.int x2))),(4,(.fn 50 [(.ptr 1 [] 0)])),(18,(.dat 3 (.int x3))),(19,(.dat 3 (.int x4))),(20,(.dat 3 (.int x5))),(21,(.dat 3 (.int x6)))],[(.row 91 x7),(.box 22 (.dat 22 (.lst x8)))],2⟩
noncomputable def s44_17 (x0 x1 x2:Int) (x3 x4:List Dt):St:=⟨tsOf [(0,(.row 0)),(1,(.dat 3 (.int x0))),(2,(.dat 3 (.int x1))),(3,(.dat 3 (.int x2))),(4,(.fn 50 [(.ptr 1 [] 0)]))],[(.row 91 x3),(.box 22 (.dat 22 (.lst x4)))],2⟩
abbrev H44_1 (m M1:Nat) (rec1:Int→Int→Int→List Dt→List Dt→Option (List Dt×List Dt)):Prop:=∀x0 x1 x2 x3 x4,l44 jn m w44_0 [] M1 (s44_2 x0 x1 x2 x3 x4)=rec1 x0 x1 x2 x3 x4
theorem i44_j2_eq m M1 rec1 (h1:H44_1 m M1 rec1) x0 x1 x2 x3 x4:e44 jn m w44_1 [M1] (s44_2 x0 x1 x2 x3 x4)=i44_j2 m (i44 m) rec1 x0 x1 x2 x3 x4:=
 tq (g:=fun J=>((inL x3 (IntKind.wrap .i64 (shrI IntKind.u64 (IntKind.wrap IntKind.u64 (IntKind.wrap .i64 (x1+x2))) 1))).bind fun v0=>
  ((x3[(Int.toNat (IntKind.wrap .i64 (shrI IntKind.u64 (IntKind.wrap IntKind.u64 (IntKind.wrap .i64 (x1+x2))) 1)))]?).bind fun v1=>
  ((inL x3 x0).bind fun v2=>
  ((x3[(Int.toNat x0)]?).bind fun v3=>
  ((i42 m v1 v3 x4).bind fun r4=>
  (bif (decide (r4.1<0)) then
  (jj J 1 3 M1 (s44_2 x0 (IntKind.wrap .i64 ((IntKind.wrap .i64 (shrI IntKind.u64 (IntKind.wrap IntKind.u64 (IntKind.wrap .i64 (x1+x2))) 1))+1)) x2 x3 r4.2) (l44 J m w44_0 [] M1))
  else
  (jj J 1 3 M1 (s44_2 x0 x1 (IntKind.wrap .i64 (shrI IntKind.u64 (IntKind.wrap IntKind.u64 (IntKind.wrap .i64 (x1+x2))) 1)) x3 r4.2) (l44 J m w44_0 [] M1))))))))) (by simp only[jj_eq,h1];rfl)
abbrev H44_5 (m M5:Nat) (rec5:Int→Int→List Dt→List Dt→Option (List Dt×List Dt)):Prop:=∀x0 x1 x2 x3,l44 jn m w44_2 [] M5 (s44_7 x0 x1 x2 x3)=rec5 x0 x1 x2 x3
theorem i44_j7_eq m M5 rec5 (h5:H44_5 m M5 rec5) x0 x1 x2 x3:e44 jn m w44_3 [M5] (s44_7 x0 x1 x2 x3)=i44_j7 m (i44 m) rec5 x0 x1 x2 x3:=
 tq (g:=fun J=>(jj J 1 9 M5 (s44_7 x0 (IntKind.wrap .i64 (x1+1)) x2 x3) (l44 J m w44_2 [] M5))) (by simp only[jj_eq,h5];rfl)
theorem i44_j6_eq m M5 rec5 (h5:H44_5 m M5 rec5) x0 x1 x2 x3:e44 jn m w44_4 [M5] (s44_7 x0 x1 x2 x3)=i44_j6 m (i44 m) rec5 x0 x1 x2 x3:=
 tq (g:=fun J=>((inL x2 (IntKind.wrap .i64 (x1+1))).bind fun v5=>
  ((x2[(Int.toNat (IntKind.wrap .i64 (x1+1)))]?).bind fun v6=>
  ((inL x2 x1).bind fun v7=>
  ((x2[(Int.toNat x1)]?).bind fun v8=>
  ((inL x2 x1).bind fun v9=>
  ((x2[(Int.toNat x1)]?).bind fun v10=>
  ((inL (List.set x2 (Int.toNat x1) v6) (IntKind.wrap .i64 (x1+1))).bind fun v11=>
  (((List.set x2 (Int.toNat x1) v6)[(Int.toNat (IntKind.wrap .i64 (x1+1)))]?).bind fun v12=>
  (jj J 0 10 0 (s44_7 x0 x1 (List.set (List.set x2 (Int.toNat x1) v6) (Int.toNat (IntKind.wrap .i64 (x1+1))) v8) x3) (e44 J m w44_3 [M5]))))))))))) (by simp only[jj_eq,i44_j7_eq m M5 rec5 h5];rfl)
theorem i44_l5_eq m:∀M5 x0 x1 x2 x3,l44 jn m w44_2 [] M5 (s44_7 x0 x1 x2 x3)=i44_l5 m (i44 m) M5 x0 x1 x2 x3
 |0,_,_,_,_=>rfl
 | M5+1,x0,x1,x2,x3=>
   tl (g:=fun J=>(bif (decide (x1<(IntKind.wrap .i64 (x0-1)))) then
  (jj J 0 11 0 (s44_7 x0 x1 x2 x3) (e44 J m w44_4 [M5]))
   else
  some (x2,x3))) (by simp only[jj_eq,i44_j6_eq m M5 (i44_l5 m (i44 m) M5) (i44_l5_eq m M5)];rfl)
theorem i44_j4_eq m x0 x1 x2 x3:e44 jn m w44_5 [] (s44_7 x0 x1 x2 x3)=i44_j4 m (i44 m) x0 x1 x2 x3:=
 tq (g:=fun J=>(jj J 1 9 (Nat.succ m) (s44_7 x0 x1 x2 x3) (l44 J m w44_2 [] (Nat.succ m)))) (by simp only[jj_eq,i44_l5_eq m];rfl)
theorem i44_j3_eq m x0 x1 x2 x3:e44 jn m w44_6 [] (s44_3 x0 x1 x2 x3)=i44_j3 m (i44 m) x0 x1 x2 x3:=
 tq (g:=fun J=>(jj J 0 9 0 (s44_7 x1 x0 x2 x3) (e44 J m w44_5 []))) (by simp only[jj_eq,i44_j4_eq m];rfl)
theorem i44_l1_eq m:∀M1 x0 x1 x2 x3 x4,l44 jn m w44_0 [] M1 (s44_2 x0 x1 x2 x3 x4)=i44_l1 m (i44 m) M1 x0 x1 x2 x3 x4
 |0,_,_,_,_,_=>rfl
 | M1+1,x0,x1,x2,x3,x4=>
   tl (g:=fun J=>(bif (decide (x1<x2)) then
  (jj J 0 4 0 (s44_2 x0 x1 x2 x3 x4) (e44 J m w44_1 [M1]))
   else
  (jj J 0 8 0 (s44_3 x0 x1 x3 x4) (e44 J m w44_6 [])))) (by simp only[jj_eq,i44_j2_eq m M1 (i44_l1 m (i44 m) M1) (i44_l1_eq m M1),i44_j3_eq m];rfl)
theorem i44_j0_eq m x0 x1 x2 x3 x4:e44 jn m w44_7 [] (s44_2 x0 x1 x2 x3 x4)=i44_j0 m (i44 m) x0 x1 x2 x3 x4:=
 tq (g:=fun J=>(jj J 1 3 (Nat.succ m) (s44_2 x0 x1 x2 x3 x4) (l44 J m w44_0 [] (Nat.succ m)))) (by simp only[jj_eq,i44_l1_eq m];rfl)
abbrev H44_10 (m M10:Nat) (rec10:Int→Int→Int→List Dt→List Dt→Option (List Dt×List Dt)):Prop:=∀x0 x1 x2 x3 x4,l44 jn m w44_8 [] M10 (s44_11 x0 x1 x2 x3 x4)=rec10 x0 x1 x2 x3 x4
theorem i44_j11_eq m M10 rec10 (h10:H44_10 m M10 rec10) x0 x1 x2 x3 x4:e44 jn m w44_9 [M10] (s44_11 x0 x1 x2 x3 x4)=i44_j11 m (i44 m) rec10 x0 x1 x2 x3 x4:=
 tq (g:=fun J=>((inL x3 x0).bind fun v13=>
  ((x3[(Int.toNat x0)]?).bind fun v14=>
  ((inL x3 (IntKind.wrap .i64 (shrI IntKind.u64 (IntKind.wrap IntKind.u64 (IntKind.wrap .i64 (x1+x2))) 1))).bind fun v15=>
  ((x3[(Int.toNat (IntKind.wrap .i64 (shrI IntKind.u64 (IntKind.wrap IntKind.u64 (IntKind.wrap .i64 (x1+x2))) 1)))]?).bind fun v16=>
  ((i42 m v14 v16 x4).bind fun r17=>
  (bif (Bool.not (decide (r17.1<0))) then
  (jj J 1 15 M10 (s44_11 x0 (IntKind.wrap .i64 ((IntKind.wrap .i64 (shrI IntKind.u64 (IntKind.wrap IntKind.u64 (IntKind.wrap .i64 (x1+x2))) 1))+1)) x2 x3 r17.2) (l44 J m w44_8 [] M10))
  else
  (jj J 1 15 M10 (s44_11 x0 x1 (IntKind.wrap .i64 (shrI IntKind.u64 (IntKind.wrap IntKind.u64 (IntKind.wrap .i64 (x1+x2))) 1)) x3 r17.2) (l44 J m w44_8 [] M10))))))))) (by simp only[jj_eq,h10];rfl)
abbrev H44_14 (m M14:Nat) (rec14:Int→Int→List Dt→List Dt→Option (List Dt×List Dt)):Prop:=∀x0 x1 x2 x3,l44 jn m w44_10 [] M14 (s44_16 x0 x1 x2 x3)=rec14 x0 x1 x2 x3
theorem i44_j16_eq m M14 rec14 (h14:H44_14 m M14 rec14) x0 x1 x2 x3:e44 jn m w44_11 [M14] (s44_16 x0 x1 x2 x3)=i44_j16 m (i44 m) rec14 x0 x1 x2 x3:=
 tq (g:=fun J=>(jj J 1 21 M14 (s44_16 x0 (IntKind.wrap .i64 (x1-1)) x2 x3) (l44 J m w44_10 [] M14))) (by simp only[jj_eq,h14];rfl)
theorem i44_j15_eq m M14 rec14 (h14:H44_14 m M14 rec14) x0 x1 x2 x3:e44 jn m w44_12 [M14] (s44_16 x0 x1 x2 x3)=i44_j15 m (i44 m) rec14 x0 x1 x2 x3:=
 tq (g:=fun J=>((inL x2 (IntKind.wrap .i64 (x1-1))).bind fun v18=>
  ((x2[(Int.toNat (IntKind.wrap .i64 (x1-1)))]?).bind fun v19=>
  ((inL x2 x1).bind fun v20=>
  ((x2[(Int.toNat x1)]?).bind fun v21=>
  ((inL x2 x1).bind fun v22=>
  ((x2[(Int.toNat x1)]?).bind fun v23=>
  ((inL (List.set x2 (Int.toNat x1) v19) (IntKind.wrap .i64 (x1-1))).bind fun v24=>
  (((List.set x2 (Int.toNat x1) v19)[(Int.toNat (IntKind.wrap .i64 (x1-1)))]?).bind fun v25=>
  (jj J 0 22 0 (s44_16 x0 x1 (List.set (List.set x2 (Int.toNat x1) v19) (Int.toNat (IntKind.wrap .i64 (x1-1))) v21) x3) (e44 J m w44_11 [M14]))))))))))) (by simp only[jj_eq,i44_j16_eq m M14 rec14 h14];rfl)
theorem i44_l14_eq m:∀M14 x0 x1 x2 x3,l44 jn m w44_10 [] M14 (s44_16 x0 x1 x2 x3)=i44_l14 m (i44 m) M14 x0 x1 x2 x3
 |0,_,_,_,_=>rfl
 | M14+1,x0,x1,x2,x3=>
   tl (g:=fun J=>(bif (decide (x0<x1)) then
  (jj J 0 23 0 (s44_16 x0 x1 x2 x3) (e44 J m w44_12 [M14]))
   else
  some (x2,x3))) (by simp only[jj_eq,i44_j15_eq m M14 (i44_l14 m (i44 m) M14) (i44_l14_eq m M14)];rfl)
theorem i44_j13_eq m x0 x1 x2 x3:e44 jn m w44_13 [] (s44_16 x0 x1 x2 x3)=i44_j13 m (i44 m) x0 x1 x2 x3:=
 tq (g:=fun J=>(jj J 1 21 (Nat.succ m) (s44_16 x0 x1 x2 x3) (l44 J m w44_10 [] (Nat.succ m)))) (by simp only[jj_eq,i44_l14_eq m];rfl)
theorem i44_j12_eq m x0 x1 x2 x3:e44 jn m w44_14 [] (s44_12 x0 x1 x2 x3)=i44_j12 m (i44 m) x0 x1 x2 x3:=
 tq (g:=fun J=>(jj J 0 21 0 (s44_16 x1 x0 x2 x3) (e44 J m w44_13 []))) (by simp only[jj_eq,i44_j13_eq m];rfl)
theorem i44_l10_eq m:∀M10 x0 x1 x2 x3 x4,l44 jn m w44_8 [] M10 (s44_11 x0 x1 x2 x3 x4)=i44_l10 m (i44 m) M10 x0 x1 x2 x3 x4
 |0,_,_,_,_,_=>rfl
 | M10+1,x0,x1,x2,x3,x4=>
   tl (g:=fun J=>(bif (decide (x1<x2)) then
  (jj J 0 16 0 (s44_11 x0 x1 x2 x3 x4) (e44 J m w44_9 [M10]))
   else
  (jj J 0 20 0 (s44_12 x0 x1 x3 x4) (e44 J m w44_14 [])))) (by simp only[jj_eq,i44_j11_eq m M10 (i44_l10 m (i44 m) M10) (i44_l10_eq m M10),i44_j12_eq m];rfl)
theorem i44_j9_eq m x0 x1 x2 x3 x4:e44 jn m w44_15 [] (s44_11 x0 x1 x2 x3 x4)=i44_j9 m (i44 m) x0 x1 x2 x3 x4:=
 tq (g:=fun J=>(jj J 1 15 (Nat.succ m) (s44_11 x0 x1 x2 x3 x4) (l44 J m w44_8 [] (Nat.succ m)))) (by simp only[jj_eq,i44_l10_eq m];rfl)
abbrev H44_20 (m M20:Nat) (rec20:Int→Int→Int→Int→Int→Int→Int→Int→List Dt→List Dt→Option (List Dt×List Dt)):Prop:=∀x0 x1 x2 x3 x4 x5 x6 x7 x8 x9,l44 jn m w44_16 [] M20 (s44_21 x0 x1 x2 x3 x4 x5 x6 x7 x8 x9)=rec20 x0 x1 x2 x3 x4 x5 x6 x7 x8 x9
theorem i44_j21_eq m M20 rec20 (h20:H44_20 m M20 rec20) x0 x1 x2 x3 x4 x5 x6 x7 x8 x9:e44 jn m w44_17 [M20] (s44_21 x0 x1 x2 x3 x4 x5 x6 x7 x8 x9)=i44_j21 m (i44 m) rec20 x0 x1 x2 x3 x4 x5 x6 x7 x8 x9:=
 tq (g:=fun J=>((inL x8 (IntKind.wrap .i64 (x7-(IntKind.wrap .i64 (shrI IntKind.u64 (IntKind.wrap IntKind.u64 (IntKind.wrap .i64 (x5+x6))) 1))))).bind fun v26=>
  ((x8[(Int.toNat (IntKind.wrap .i64 (x7-(IntKind.wrap .i64 (shrI IntKind.u64 (IntKind.wrap IntKind.u64 (IntKind.wrap .i64 (x5+x6))) 1)))))]?).bind fun v27=>
  ((inL x8 (IntKind.wrap .i64 (shrI IntKind.u64 (IntKind.wrap IntKind.u64 (IntKind.wrap .i64 (x5+x6))) 1))).bind fun v28=>
  ((x8[(Int.toNat (IntKind.wrap .i64 (shrI IntKind.u64 (IntKind.wrap IntKind.u64 (IntKind.wrap .i64 (x5+x6))) 1)))]?).bind fun v29=>
  ((i42 m v27 v29 x9).bind fun r30=>
  (bif (Bool.not (decide (r30.1<0))) then
  (jj J 1 33 M20 (s44_21 x0 x1 x2 x3 x4 (IntKind.wrap .i64 ((IntKind.wrap .i64 (shrI IntKind.u64 (IntKind.wrap IntKind.u64 (IntKind.wrap .i64 (x5+x6))) 1))+1)) x6 x7 x8 r30.2) (l44 J m w44_16 [] M20))
  else
  (jj J 1 33 M20 (s44_21 x0 x1 x2 x3 x4 x5 (IntKind.wrap .i64 (shrI IntKind.u64 (IntKind.wrap IntKind.u64 (IntKind.wrap .i64 (x5+x6))) 1)) x7 x8 r30.2) (l44 J m w44_16 [] M20))))))))) (by simp only[jj_eq,h20];rfl)
theorem i44_j27_eq m x0 x1 x2 x3 x4 x5:e44 jn m w44_18 [] (s44_27 x0 x1 x2 x3 x4 x5)=i44_j27 m (i44 m) x0 x1 x2 x3 x4 x5:=
 tq (g:=fun J=>(bif x3 then
  ((i44 m x1 x2 x0 x4 x5).bind fun r33=>
  some (r33.1,r33.2))
   else
  some (x4,x5))) (by rfl)
theorem i44_j26_eq m x0 x1 x2 x3 x4:e44 jn m w44_19 [] (s44_26 x0 x1 x2 x3 x4)=i44_j26 m (i44 m) x0 x1 x2 x3 x4:=
 tq (g:=fun J=>(bif (decide (x1<x2)) then
  (jj J 0 44 0 (s44_27 x0 x1 x2 (decide (x2<x0)) x3 x4) (e44 J m w44_18 []))
   else
  (jj J 0 44 0 (s44_27 x0 x1 x2 false x3 x4) (e44 J m w44_18 [])))) (by simp only[jj_eq,i44_j27_eq m];rfl)
theorem i44_j25_eq m x0 x1 x2 x3 x4 x5 x6 x7:e44 jn m w44_20 [] (s44_25 x0 x1 x2 x3 x4 x5 x6 x7)=i44_j25 m (i44 m) x0 x1 x2 x3 x4 x5 x6 x7:=
 tq (g:=fun J=>(bif x5 then
  ((i44 m x0 x3 x2 x6 x7).bind fun r32=>
  (jj J 0 43 0 (s44_26 x1 x2 x4 r32.1 r32.2) (e44 J m w44_19 [])))
   else
  (jj J 0 43 0 (s44_26 x1 x2 x4 x6 x7) (e44 J m w44_19 [])))) (by simp only[jj_eq,i44_j26_eq m];rfl)
theorem i44_j24_eq m x0 x1 x2 x3 x4 x5 x6:e44 jn m w44_21 [] (s44_24 x0 x1 x2 x3 x4 x5 x6)=i44_j24 m (i44 m) x0 x1 x2 x3 x4 x5 x6:=
 tq (g:=fun J=>(bif (decide (x0<x3)) then
  (jj J 0 42 0 (s44_25 x0 x1 x2 x3 x4 (decide (x3<x2)) x5 x6) (e44 J m w44_20 []))
   else
  (jj J 0 42 0 (s44_25 x0 x1 x2 x3 x4 false x5 x6) (e44 J m w44_20 [])))) (by simp only[jj_eq,i44_j25_eq m];rfl)
theorem i44_j23_eq m x0 x1 x2 x3 x4 x5 x6 x7 x8:e44 jn m w44_22 [] (s44_23 x0 x1 x2 x3 x4 x5 x6 x7 x8)=i44_j23 m (i44 m) x0 x1 x2 x3 x4 x5 x6 x7 x8:=
 tq (g:=fun J=>(bif x6 then
  ((i45 m x4 x1 x5 x7 x8).bind fun r31=>
  (jj J 0 41 0 (s44_24 x0 x2 x3 x4 x5 r31.1 r31.2) (e44 J m w44_21 [])))
   else
  (jj J 0 41 0 (s44_24 x0 x2 x3 x4 x5 x7 x8) (e44 J m w44_21 [])))) (by simp only[jj_eq,i44_j24_eq m];rfl)
theorem i44_j22_eq m x0 x1 x2 x3 x4 x5 x6 x7:e44 jn m w44_23 [] (s44_22 x0 x1 x2 x3 x4 x5 x6 x7)=i44_j22 m (i44 m) x0 x1 x2 x3 x4 x5 x6 x7:=
 tq (g:=fun J=>(bif (decide (x5<x1)) then
  (jj J 0 40 0 (s44_23 x0 x1 x2 x3 x5 (IntKind.wrap .i64 (x4-x5)) (decide (x1<(IntKind.wrap .i64 (x4-x5)))) x6 x7) (e44 J m w44_22 []))
   else
  (jj J 0 40 0 (s44_23 x0 x1 x2 x3 x5 (IntKind.wrap .i64 (x4-x5)) false x6 x7) (e44 J m w44_22 [])))) (by simp only[jj_eq,i44_j23_eq m];rfl)
theorem i44_l20_eq m:∀M20 x0 x1 x2 x3 x4 x5 x6 x7 x8 x9,l44 jn m w44_16 [] M20 (s44_21 x0 x1 x2 x3 x4 x5 x6 x7 x8 x9)=i44_l20 m (i44 m) M20 x0 x1 x2 x3 x4 x5 x6 x7 x8 x9
 |0,_,_,_,_,_,_,_,_,_,_=>rfl
 | M20+1,x0,x1,x2,x3,x4,x5,x6,x7,x8,x9=>
   tl (g:=fun J=>(bif (decide (x5<x6)) then
  (jj J 0 34 0 (s44_21 x0 x1 x2 x3 x4 x5 x6 x7 x8 x9) (e44 J m w44_17 [M20]))
   else
  (jj J 0 38 0 (s44_22 x0 x1 x2 x3 x4 x5 x8 x9) (e44 J m w44_23 [])))) (by simp only[jj_eq,i44_j21_eq m M20 (i44_l20 m (i44 m) M20) (i44_l20_eq m M20),i44_j22_eq m];rfl)
theorem i44_j19_eq m x0 x1 x2 x3 x4 x5 x6 x7 x8 x9:e44 jn m w44_24 [] (s44_21 x0 x1 x2 x3 x4 x5 x6 x7 x8 x9)=i44_j19 m (i44 m) x0 x1 x2 x3 x4 x5 x6 x7 x8 x9:=
 tq (g:=fun J=>(jj J 1 33 (Nat.succ m) (s44_21 x0 x1 x2 x3 x4 x5 x6 x7 x8 x9) (l44 J m w44_16 [] (Nat.succ m)))) (by simp only[jj_eq,i44_l20_eq m];rfl)
theorem i44_j18_eq m x0 x1 x2 x3 x4 x5 x6 x7 x8:e44 jn m w44_25 [] (s44_18 x0 x1 x2 x3 x4 x5 x6 x7 x8)=i44_j18 m (i44 m) x0 x1 x2 x3 x4 x5 x6 x7 x8:=
 tq (g:=fun J=>(jj J 0 33 0 (s44_21 x0 x1 x2 x3 x4 x5 x6 (IntKind.wrap .i64 (x4-1)) x7 x8) (e44 J m w44_24 []))) (by simp only[jj_eq,i44_j19_eq m];rfl)
theorem i44_j17_eq m x0 x1 x2 x3 x4:e44 jn m [1,1] [] (s44_17 x0 x1 x2 x3 x4)=i44_j17 m (i44 m) x0 x1 x2 x3 x4:=
 tq (g:=fun J=>(bif (decide ((IntKind.wrap .i64 (shrI IntKind.u64 (IntKind.wrap IntKind.u64 (IntKind.wrap .i64 (x0+x2))) 1))<x1)) then
  (jj J 0 32 0 (s44_18 x0 x1 x2 (IntKind.wrap .i64 (shrI IntKind.u64 (IntKind.wrap IntKind.u64 (IntKind.wrap .i64 (x0+x2))) 1)) (IntKind.wrap .i64 ((IntKind.wrap .i64 (shrI IntKind.u64 (IntKind.wrap IntKind.u64 (IntKind.wrap .i64 (x0+x2))) 1))+x1)) (IntKind.wrap .i64 ((IntKind.wrap .i64 ((IntKind.wrap .i64 (shrI IntKind.u64 (IntKind.wrap IntKind.u64 (IntKind.wrap .i64 (x0+x2))) 1))+x1))-x2)) (IntKind.wrap .i64 (shrI IntKind.u64 (IntKind.wrap IntKind.u64 (IntKind.wrap .i64 (x0+x2))) 1)) x3 x4) (e44 J m w44_25 []))
   else
  (jj J 0 32 0 (s44_18 x0 x1 x2 (IntKind.wrap .i64 (shrI IntKind.u64 (IntKind.wrap IntKind.u64 (IntKind.wrap .i64 (x0+x2))) 1)) (IntKind.wrap .i64 ((IntKind.wrap .i64 (shrI IntKind.u64 (IntKind.wrap IntKind.u64 (IntKind.wrap .i64 (x0+x2))) 1))+x1)) x0 x1 x3 x4) (e44 J m w44_25 [])))) (by simp only[jj_eq,i44_j18_eq m];rfl)
theorem i44_j8_eq m x0 x1 x2 x3 x4:e44 jn m [1] [] (s44_17 x0 x1 x2 x3 x4)=i44_j8 m (i44 m) x0 x1 x2 x3 x4:=
 tq (g:=fun J=>(bif ((IntKind.wrap .i64 (x2-x1))==1) then
  (jj J 0 15 0 (s44_11 x1 x0 x1 x3 x4) (e44 J m w44_15 []))
   else
  (jj J 0 24 0 (s44_17 x0 x1 x2 x3 x4) (e44 J m [1,1] [])))) (by simp only[jj_eq,i44_j9_eq m,i44_j17_eq m];rfl)
theorem i44_eq m a0 a1 a2 a3 a4:e44 jn m [] [] ⟨[(.row 0),(.dat 3 (.int a0)),(.dat 3 (.int a1)),(.dat 3 (.int a2)),(.fn 50 [(.ptr 1 [] 0)])],[(.row 91 a3),(.box 22 (.dat 22 (.lst a4)))],2⟩=i44 (m+1) a0 a1 a2 a3 a4:=
 tq (g:=fun J=>(bif ((IntKind.wrap .i64 (a1-a0))==1) then
  (jj J 0 3 0 (s44_2 a0 a1 a2 a3 a4) (e44 J m w44_7 []))
   else
  (jj J 0 12 0 (s44_17 a0 a1 a2 a3 a4) (e44 J m [1] [])))) (by simp only[jj_eq,i44_j0_eq m,i44_j8_eq m];rfl)
def w40_1:List Nat:=[1,1,1,1,0]
def w40_0:List Nat:=[1,1,0,0,0,1]
def w40_7:List Nat:=[1,1,1,1,0,0,1]
def w40_6:List Nat:=w40_7++[0,1]
def w40_5:List Nat:=w40_6++[1]
def w40_2:List Nat:=w40_6++[0,0]
def w40_4:List Nat:=w40_5++[1]
def w40_3:List Nat:=w40_2++[0,1]
noncomputable def e40 (J:Nat→Nat→Nat→St→Option (List Dt×List Dt)→Option (List Dt×List Dt)) (m:Nat) (p ms:List Nat) (σ:St):=evAt Tryz.prog env (ct m) J (m+1) 80 63 Tryz.f80 d46 p ms σ
noncomputable def l40 (J:Nat→Nat→Nat→St→Option (List Dt×List Dt)→Option (List Dt×List Dt)) (m:Nat) (p ms:List Nat) (M:Nat) (σ:St):=loopAt Tryz.prog env (ct m) J (m+1) 80 63 Tryz.f80 d46 p ms M σ
noncomputable def s40_2 (x0 x1 x2 x3:Int) (x4 x5:List Dt):St:=⟨tsOf [(0,(.row 0)),(1,(.dat 3 (.int x0))),(2,(.fn 50 [(.ptr 1 [] 0)])),(6,(.dat 3 (.int x1))),(7,(.dat 3 (.int x2))),(8,(.dat 3 (.int x3)))],[(.row 91 x4),(.box 22 (.dat 22 (.lst x5)))],2⟩
noncomputable def s40_11 (x0 x1:Int) (x2 x3:List Dt):St:=⟨tsOf [(0,(.row 0)),(1,(.dat 3 (.int x0))),(2,(.fn 50 [(.ptr 1 [] 0)])),(6,(.dat 3 (.int x1)))],[(.row 91 x2),(.box 22 (.dat 22 (.lst x3)))],2⟩
noncomputable def s40_10 (x0 x1 x2:Int) (x3 x4:List Dt):St:=⟨tsOf [(0,(.row 0)),(1,(.dat 3 (.int x0))),(2,(.fn 50 [(.ptr 1 [] 0)])),(6,(.dat 3 (.int x1))),(7,(.dat 3 (.int x2)))],[(.row 91 x3),(.box 22 (.dat 22 (.lst x4)))],2⟩
abbrev H40_1 (m M1:Nat) (rec1:Int→Int→Int→Int→List Dt→List Dt→Option (List Dt×List Dt)):Prop:=∀x0 x1 x2 x3 x4 x5,l40 jn m [1,1,0,0] [] M1 (s40_2 x0 x1 x2 x3 x4 x5)=rec1 x0 x1 x2 x3 x4 x5
theorem i40_j2_eq m M1 rec1 (h1:H40_1 m M1 rec1) x0 x1 x2 x3 x4 x5:e40 jn m w40_0 [M1] (s40_2 x0 x1 x2 x3 x4 x5)=i40_j2 m rec1 x0 x1 x2 x3 x4 x5:=
 tq (g:=fun J=>((i41 m x2 x3 x4 x5).bind fun r0=>
  (jj J 1 2 M1 (s40_2 x0 x1 x3 (IntKind.wrap .i64 (x3+x1)) r0.1 r0.2) (l40 J m [1,1,0,0] [] M1)))) (by simp only[jj_eq,h1];rfl)
abbrev H40_5 (m M5:Nat) (rec5:Int→Int→List Dt→List Dt→Option (List Dt×List Dt)):Prop:=∀x0 x1 x2 x3,l40 jn m w40_1 [] M5 (s40_11 x0 x1 x2 x3)=rec5 x0 x1 x2 x3
abbrev H40_8 (m M5 M8:Nat) (rec8:Int→Int→Int→Int→List Dt→List Dt→Option (List Dt×List Dt)):Prop:=∀x0 x1 x2 x3 x4 x5,l40 jn m w40_2 [M5] M8 (s40_2 x0 x1 x2 x3 x4 x5)=rec8 x0 x1 x2 x3 x4 x5
theorem i40_j9_eq m M5 rec5 (h5:H40_5 m M5 rec5) M8 rec8 (h8:H40_8 m M5 M8 rec8) x0 x1 x2 x3 x4 x5:e40 jn m w40_3 [M5,M8] (s40_2 x0 x1 x2 x3 x4 x5)=i40_j9 m rec5 rec8 x0 x1 x2 x3 x4 x5:=
 tq (g:=fun J=>((i44 m x2 (IntKind.wrap .i64 (x2+x1)) x3 x4 x5).bind fun r2=>
  (jj J 1 9 M8 (s40_2 x0 x1 x3 (IntKind.wrap .i64 (x3+(IntKind.wrap .i64 (2*x1)))) r2.1 r2.2) (l40 J m w40_2 [M5] M8)))) (by simp only[jj_eq,h8];rfl)
theorem i40_j11_eq m M5 rec5 (h5:H40_5 m M5 rec5) x0 x1 x2 x3:e40 jn m w40_4 [M5] (s40_11 x0 x1 x2 x3)=i40_j11 m rec5 x0 x1 x2 x3:=
 tq (g:=fun J=>(jj J 1 7 M5 (s40_11 x0 (IntKind.wrap .i64 (x1*2)) x2 x3) (l40 J m w40_1 [] M5))) (by simp only[jj_eq,h5];rfl)
theorem i40_j10_eq m M5 rec5 (h5:H40_5 m M5 rec5) x0 x1 x2 x3 x4:e40 jn m w40_5 [M5] (s40_10 x0 x1 x2 x3 x4)=i40_j10 m rec5 x0 x1 x2 x3 x4:=
 tq (g:=fun J=>(bif (decide ((IntKind.wrap .i64 (x2+x1))<x0)) then
  ((i44 m x2 (IntKind.wrap .i64 (x2+x1)) x0 x3 x4).bind fun r3=>
  (jj J 0 16 0 (s40_11 x0 x1 r3.1 r3.2) (e40 J m w40_4 [M5])))
   else
  (jj J 0 16 0 (s40_11 x0 x1 x3 x4) (e40 J m w40_4 [M5])))) (by simp only[jj_eq,i40_j11_eq m M5 rec5 h5];rfl)
theorem i40_l8_eq m M5 rec5 (h5:H40_5 m M5 rec5):∀M8 x0 x1 x2 x3 x4 x5,l40 jn m w40_2 [M5] M8 (s40_2 x0 x1 x2 x3 x4 x5)=i40_l8 m rec5 M8 x0 x1 x2 x3 x4 x5
 |0,_,_,_,_,_,_=>rfl
 | M8+1,x0,x1,x2,x3,x4,x5=>
   tl (g:=fun J=>(bif (decide (x3≤x0)) then
  (jj J 0 10 0 (s40_2 x0 x1 x2 x3 x4 x5) (e40 J m w40_3 [M5,M8]))
   else
  (jj J 0 13 0 (s40_10 x0 x1 x2 x4 x5) (e40 J m w40_5 [M5])))) (by simp only[jj_eq,i40_j9_eq m M5 rec5 h5 M8 (i40_l8 m rec5 M8) (i40_l8_eq m M5 rec5 h5 M8),i40_j10_eq m M5 rec5 h5];rfl)
theorem i40_j7_eq m M5 rec5 (h5:H40_5 m M5 rec5) x0 x1 x2 x3 x4 x5:e40 jn m w40_6 [M5] (s40_2 x0 x1 x2 x3 x4 x5)=i40_j7 m rec5 x0 x1 x2 x3 x4 x5:=
 tq (g:=fun J=>(jj J 1 9 (Nat.succ m) (s40_2 x0 x1 x2 x3 x4 x5) (l40 J m w40_2 [M5] (Nat.succ m)))) (by simp only[jj_eq,i40_l8_eq m M5 rec5 h5];rfl)
theorem i40_j6_eq m M5 rec5 (h5:H40_5 m M5 rec5) x0 x1 x2 x3:e40 jn m w40_7 [M5] (s40_11 x0 x1 x2 x3)=i40_j6 m rec5 x0 x1 x2 x3:=
 tq (g:=fun J=>(jj J 0 9 0 (s40_2 x0 x1 0 (IntKind.wrap .i64 (2*x1)) x2 x3) (e40 J m w40_6 [M5]))) (by simp only[jj_eq,i40_j7_eq m M5 rec5 h5];rfl)
theorem i40_l5_eq m:∀M5 x0 x1 x2 x3,l40 jn m w40_1 [] M5 (s40_11 x0 x1 x2 x3)=i40_l5 m M5 x0 x1 x2 x3
 |0,_,_,_,_=>rfl
 | M5+1,x0,x1,x2,x3=>
   tl (g:=fun J=>(bif (decide (x1<x0)) then
  (jj J 0 8 0 (s40_11 x0 x1 x2 x3) (e40 J m w40_7 [M5]))
   else
  some (x2,x3))) (by simp only[jj_eq,i40_j6_eq m M5 (i40_l5 m M5) (i40_l5_eq m M5)];rfl)
theorem i40_j4_eq m x0 x1 x2 x3:e40 jn m [1,1,1,1] [] (s40_11 x0 x1 x2 x3)=i40_j4 m x0 x1 x2 x3:=
 tq (g:=fun J=>(jj J 1 7 (Nat.succ m) (s40_11 x0 x1 x2 x3) (l40 J m w40_1 [] (Nat.succ m)))) (by simp only[jj_eq,i40_l5_eq m];rfl)
theorem i40_j3_eq m x0 x1 x2 x3 x4:e40 jn m [1,1,1] [] (s40_10 x0 x1 x2 x3 x4)=i40_j3 m x0 x1 x2 x3 x4:=
 tq (g:=fun J=>((i41 m x2 x0 x3 x4).bind fun r1=>
  (jj J 0 7 0 (s40_11 x0 x1 r1.1 r1.2) (e40 J m [1,1,1,1] [])))) (by simp only[jj_eq,i40_j4_eq m];rfl)
theorem i40_l1_eq m:∀M1 x0 x1 x2 x3 x4 x5,l40 jn m [1,1,0,0] [] M1 (s40_2 x0 x1 x2 x3 x4 x5)=i40_l1 m M1 x0 x1 x2 x3 x4 x5
 |0,_,_,_,_,_,_=>rfl
 | M1+1,x0,x1,x2,x3,x4,x5=>
   tl (g:=fun J=>(bif (decide (x3≤x0)) then
  (jj J 0 3 0 (s40_2 x0 x1 x2 x3 x4 x5) (e40 J m w40_0 [M1]))
   else
  (jj J 0 6 0 (s40_10 x0 x1 x2 x4 x5) (e40 J m [1,1,1] [])))) (by simp only[jj_eq,i40_j2_eq m M1 (i40_l1 m M1) (i40_l1_eq m M1),i40_j3_eq m];rfl)
theorem i40_j0_eq m x0 x1 x2 x3 x4 x5:e40 jn m [1,1] [] (s40_2 x0 x1 x2 x3 x4 x5)=i40_j0 m x0 x1 x2 x3 x4 x5:=
 tq (g:=fun J=>(jj J 1 2 (Nat.succ m) (s40_2 x0 x1 x2 x3 x4 x5) (l40 J m [1,1,0,0] [] (Nat.succ m)))) (by simp only[jj_eq,i40_l1_eq m];rfl)
theorem i40_eq m a0 a1 a2:e40 jn m [] [] ⟨[(.row 0),(.dat 3 (.int a0)),(.fn 50 [(.ptr 1 [] 0)])],[(.row 91 a1),(.box 22 (.dat 22 (.lst a2)))],2⟩=i40 (m+1) a0 a1 a2:=
 tq (g:=fun J=>(jj J 0 2 0 (s40_2 a0 20 0 20 a1 a2) (e40 J m [1,1] []))) (by simp only[jj_eq,i40_j0_eq m];rfl)
noncomputable def e39 (J:Nat→Nat→Nat→St→Option (List Dt×List Dt)→Option (List Dt×List Dt)) (m:Nat) (p ms:List Nat) (σ:St):=evAt Tryz.prog env (ct m) J (m+1) 49 9 Tryz.f49 d46 p ms σ
theorem i39_eq m a0 a1:e39 jn m [] [] ⟨[(.row 0),(.fn 50 [(.ptr 1 [] 0)])],[(.row 91 a0),(.box 22 (.dat 22 (.lst a1)))],2⟩=i39 (m+1) a0 a1:=
 tq (g:=fun J=>((i40 m (List.length a0:Int) a0 a1).bind fun r0=>
  some (r0.1,r0.2))) (by rfl)
def w57_0:List Nat:=[1,1,0,1,0]
def w57_8:List Nat:=[1,1,1,1,1]
def w57_9:List Nat:=[1,1,1,1,0,1]
def w57_4:List Nat:=w57_9++[0]
def w57_3:List Nat:=[1,1,0,1,0,0,1,1]
def w57_1:List Nat:=w57_3++[1]
def w57_7:List Nat:=w57_4++[0,1,1]
def w57_5:List Nat:=w57_7++[1]
def w57_2:List Nat:=w57_3++[0,0,1,0,1,1,1]
def w57_6:List Nat:=w57_7++[0,0,1,1,1]
noncomputable def e57 (J:Nat→Nat→Nat→St→Option Dt→Option Dt) (m:Nat) (p ms:List Nat) (σ:St):=evAt Tryz.prog env (ct m) J (m+1) 79 79 Tryz.f79 d3 p ms σ
noncomputable def l57 (J:Nat→Nat→Nat→St→Option Dt→Option Dt) (m:Nat) (p ms:List Nat) (M:Nat) (σ:St):=loopAt Tryz.prog env (ct m) J (m+1) 79 79 Tryz.f79 d3 p ms M σ
noncomputable def s57_3 (x0:List Dt) (x1 x2:Int) (x3 x4:Dt) (x5:List Dt):St:=⟨tsOf [(2,(.ptr 0 [] 0)),(4,(.ptr 1 [] 0)),(5,(.row 2)),(15,(.dat 23 (.lst x0))),(16,(.dat 3 (.int x1))),(17,(.dat 3 (.int x2)))],[(.box 50 (.dat 50 x3)),(.box 36 (.dat 36 x4)),(.row 23 x5)],0⟩
noncomputable def s57_4 (x0:List Dt) (x1 x2:Int) (x3:Bool) (x4 x5:Dt) (x6:List Dt) (x7:Dt):St:=⟨tsOf [(2,(.ptr 0 [] 0)),(4,(.ptr 1 [] 0)),(5,(.row 2)),(7,(.ptr 3 [] 0)),(15,(.dat 23 (.lst x0))),(16,(.dat 3 (.int x1))),(17,(.dat 3 (.int x2))),(33,(.dat 4 (.bool x3)))],[(.box 50 (.dat 50 x4)),(.box 36 (.dat 36 x5)),(.row 23 x6),(.box 36 (.dat 36 x7))],0⟩
noncomputable def s57_10 (x0:List Dt) (x1 x2:Int) (x3 x4 x5:Dt):St:=⟨tsOf [(2,(.ptr 0 [] 0)),(4,(.ptr 1 [] 0)),(8,(.ptr 2 [] 0)),(52,(.dat 23 (.lst x0))),(53,(.dat 3 (.int x1))),(54,(.dat 3 (.int x2)))],[(.box 50 (.dat 50 x3)),(.box 36 (.dat 36 x4)),(.box 36 (.dat 36 x5))],0⟩
noncomputable def s57_9 (x0:List Dt) (x1 x2:Int) (x3:Bool) (x4 x5 x6 x7:Dt):St:=⟨tsOf [(2,(.ptr 0 [] 0)),(4,(.ptr 1 [] 0)),(8,(.ptr 2 [] 0)),(10,(.ptr 3 [] 0)),(52,(.dat 23 (.lst x0))),(53,(.dat 3 (.int x1))),(54,(.dat 3 (.int x2))),(75,(.dat 4 (.bool x3)))],[(.box 50 (.dat 50 x4)),(.box 36 (.dat 36 x5)),(.box 36 (.dat 36 x6)),(.box 36 (.dat 36 x7))],0⟩
noncomputable def s57_11 (x0 x1:Dt):St:=⟨tsOf [(4,(.ptr 0 [] 0)),(8,(.ptr 1 [] 0))],[(.box 36 (.dat 36 x0)),(.box 36 (.dat 36 x1))],0⟩
noncomputable def s57_5 (x0 x1:Dt) (x2:List Dt):St:=⟨tsOf [(2,(.ptr 0 [] 0)),(4,(.ptr 1 [] 0)),(5,(.row 2))],[(.box 50 (.dat 50 x0)),(.box 36 (.dat 36 x1)),(.row 23 x2)],0⟩
abbrev H57_1 (m M1:Nat) (rec1:List Dt→Int→Int→Dt→Dt→List Dt→Option Dt):Prop:=∀x0 x1 x2 x3 x4 x5,l57 jn m w57_0 [] M1 (s57_3 x0 x1 x2 x3 x4 x5)=rec1 x0 x1 x2 x3 x4 x5
theorem qX_j3_eq m M1 rec1 (h1:H57_1 m M1 rec1) x0 x1 x2 x3 x4 x5:e57 jn m w57_1 [M1] (s57_3 x0 x1 x2 x3 x4 x5)=qX_j3 m rec1 x0 x1 x2 x3 x4 x5:=
 tq (g:=fun J=>(jj J 1 3 M1 (s57_3 x0 x1 (IntKind.wrap .i64 (x2+1)) x3 x4 x5) (l57 J m w57_0 [] M1))) (by simp only[jj_eq,h1];rfl)
theorem qX_j4_eq m M1 rec1 (h1:H57_1 m M1 rec1) x0 x1 x2 x3 x4 x5 x6 x7:e57 jn m w57_2 [M1] (s57_4 x0 x1 x2 x3 x4 x5 x6 x7)=qX_j4 m rec1 x0 x1 x2 x3 x4 x5 x6 x7:=
 tq (g:=fun J=>(bif x3 then
  ((app x6 (Dt.L x7 3)).bind fun v3=>
  (jj J 0 10 0 (s57_3 x0 x1 x2 x4 x5 v3) (e57 J m w57_1 [M1])))
   else
  ((app x6 [x7]).bind fun v4=>
  (jj J 0 10 0 (s57_3 x0 x1 x2 x4 x5 v4) (e57 J m w57_1 [M1]))))) (by simp only[jj_eq,qX_j3_eq m M1 rec1 h1];rfl)
theorem qX_j2_eq m M1 rec1 (h1:H57_1 m M1 rec1) x0 x1 x2 x3 x4 x5:e57 jn m w57_3 [M1] (s57_3 x0 x1 x2 x3 x4 x5)=qX_j2 m rec1 x0 x1 x2 x3 x4 x5:=
 tq (g:=fun J=>((idx x0 x2).bind fun v1=>
  (bif ((Dt.I v1 0)==0) then
  ((app x5 [kz3c25e]).bind fun v2=>
  (jj J 0 10 0 (s57_3 x0 x1 x2 x3 x4 v2) (e57 J m w57_1 [M1])))
  else
  (bif ((Dt.I v1 0)==6) then
  (jj J 0 9 0 (s57_4 x0 x1 x2 (decide (0<(List.length (Dt.L v1 3):Int))) x3 x4 x5 v1) (e57 J m w57_2 [M1]))
  else
  (jj J 0 9 0 (s57_4 x0 x1 x2 false x3 x4 x5 v1) (e57 J m w57_2 [M1])))))) (by simp only[jj_eq,qX_j3_eq m M1 rec1 h1,qX_j4_eq m M1 rec1 h1];rfl)
abbrev H57_7 (m M7:Nat) (rec7:List Dt→Int→Int→Dt→Dt→Dt→Option Dt):Prop:=∀x0 x1 x2 x3 x4 x5,l57 jn m w57_4 [] M7 (s57_10 x0 x1 x2 x3 x4 x5)=rec7 x0 x1 x2 x3 x4 x5
theorem qX_j10_eq m M7 rec7 (h7:H57_7 m M7 rec7) x0 x1 x2 x3 x4 x5:e57 jn m w57_5 [M7] (s57_10 x0 x1 x2 x3 x4 x5)=qX_j10 m rec7 x0 x1 x2 x3 x4 x5:=
 tq (g:=fun J=>(jj J 1 13 M7 (s57_10 x0 x1 (IntKind.wrap .i64 (x2+1)) x3 x4 x5) (l57 J m w57_4 [] M7))) (by simp only[jj_eq,h7];rfl)
theorem qX_j9_eq m M7 rec7 (h7:H57_7 m M7 rec7) x0 x1 x2 x3 x4 x5 x6 x7:e57 jn m w57_6 [M7] (s57_9 x0 x1 x2 x3 x4 x5 x6 x7)=qX_j9 m rec7 x0 x1 x2 x3 x4 x5 x6 x7:=
 tq (g:=fun J=>(bif x3 then
  (jj J 0 18 0 (s57_10 x0 x1 x2 x4 x5 x7) (e57 J m w57_5 [M7]))
   else
  (jj J 0 18 0 (s57_10 x0 x1 x2 x4 x5 x6) (e57 J m w57_5 [M7])))) (by simp only[jj_eq,qX_j10_eq m M7 rec7 h7];rfl)
theorem qX_j8_eq m M7 rec7 (h7:H57_7 m M7 rec7) x0 x1 x2 x3 x4 x5:e57 jn m w57_7 [M7] (s57_10 x0 x1 x2 x3 x4 x5)=qX_j8 m rec7 x0 x1 x2 x3 x4 x5:=
 tq (g:=fun J=>((idx x0 x2).bind fun v8=>
  ((qC m v8 x5).bind fun r9=>
  (bif (decide (r9<0)) then
  (bif (Bool.not (Dt.B x3 1)) then
  (jj J 0 17 0 (s57_9 x0 x1 x2 true x3 x4 x5 v8) (e57 J m w57_6 [M7]))
  else
  (bif (decide (0<r9)) then
  (jj J 0 17 0 (s57_9 x0 x1 x2 (Dt.B x3 1) x3 x4 x5 v8) (e57 J m w57_6 [M7]))
  else
  (jj J 0 17 0 (s57_9 x0 x1 x2 false x3 x4 x5 v8) (e57 J m w57_6 [M7]))))
  else
  (bif (decide (0<r9)) then
  (jj J 0 17 0 (s57_9 x0 x1 x2 (Dt.B x3 1) x3 x4 x5 v8) (e57 J m w57_6 [M7]))
  else
  (jj J 0 17 0 (s57_9 x0 x1 x2 false x3 x4 x5 v8) (e57 J m w57_6 [M7]))))))) (by simp only[jj_eq,qX_j9_eq m M7 rec7 h7];rfl)
theorem qX_j11_eq m x0 x1:e57 jn m w57_8 [] (s57_11 x0 x1)=qX_j11 m x0 x1:=
 tq (g:=fun J=>some x1) (by rfl)
theorem qX_l7_eq m:∀M7 x0 x1 x2 x3 x4 x5,l57 jn m w57_4 [] M7 (s57_10 x0 x1 x2 x3 x4 x5)=qX_l7 m M7 x0 x1 x2 x3 x4 x5
 |0,_,_,_,_,_,_=>rfl
 | M7+1,x0,x1,x2,x3,x4,x5=>
   tl (g:=fun J=>(bif (decide (x2<x1)) then
  (jj J 0 14 0 (s57_10 x0 x1 x2 x3 x4 x5) (e57 J m w57_7 [M7]))
   else
  (jj J 0 19 0 (s57_11 x4 x5) (e57 J m w57_8 [])))) (by simp only[jj_eq,qX_j8_eq m M7 (qX_l7 m M7) (qX_l7_eq m M7),qX_j11_eq m];rfl)
theorem qX_j6_eq m x0 x1 x2 x3 x4 x5:e57 jn m w57_9 [] (s57_10 x0 x1 x2 x3 x4 x5)=qX_j6 m x0 x1 x2 x3 x4 x5:=
 tq (g:=fun J=>(jj J 1 13 (Nat.succ m) (s57_10 x0 x1 x2 x3 x4 x5) (l57 J m w57_4 [] (Nat.succ m)))) (by simp only[jj_eq,qX_l7_eq m];rfl)
theorem qX_j5_eq m x0 x1 x2:e57 jn m [1,1,1] [] (s57_5 x0 x1 x2)=qX_j5 m x0 x1 x2:=
 tq (g:=fun J=>((inL x2 0).bind fun v5=>
  ((x2[0]?).bind fun v6=>
  ((cutL x2 1 (List.length x2:Int)).bind fun v7=>
  (jj J 0 13 0 (s57_10 v7 (List.length v7:Int) 0 x0 x1 v6) (e57 J m w57_9 [])))))) (by simp only[jj_eq,qX_j6_eq m];rfl)
theorem qX_l1_eq m:∀M1 x0 x1 x2 x3 x4 x5,l57 jn m w57_0 [] M1 (s57_3 x0 x1 x2 x3 x4 x5)=qX_l1 m M1 x0 x1 x2 x3 x4 x5
 |0,_,_,_,_,_,_=>rfl
 | M1+1,x0,x1,x2,x3,x4,x5=>
   tl (g:=fun J=>(bif (decide (x2<x1)) then
  (jj J 0 4 0 (s57_3 x0 x1 x2 x3 x4 x5) (e57 J m w57_3 [M1]))
   else
  (jj J 0 11 0 (s57_5 x3 x4 x5) (e57 J m [1,1,1] [])))) (by simp only[jj_eq,qX_j2_eq m M1 (qX_l1 m M1) (qX_l1_eq m M1),qX_j5_eq m];rfl)
theorem qX_j0_eq m x0 x1 x2 x3 x4 x5:e57 jn m [1,1,0,1] [] (s57_3 x0 x1 x2 x3 x4 x5)=qX_j0 m x0 x1 x2 x3 x4 x5:=
 tq (g:=fun J=>(jj J 1 3 (Nat.succ m) (s57_3 x0 x1 x2 x3 x4 x5) (l57 J m w57_0 [] (Nat.succ m)))) (by simp only[jj_eq,qX_l1_eq m];rfl)
theorem qX_eq m a0 a1:e57 jn m [] [] ⟨[(.dat 50 a0),(.dat 36 a1)],[],0⟩=qX (m+1) a0 a1:=
 tq (g:=fun J=>((zG m a1 (Dt.L a0 0)).bind fun r0=>
  (jj J 0 3 0 (s57_3 r0 (List.length r0:Int) 0 a0 kza2373 []) (e57 J m [1,1,0,1] [])))) (by simp only[jj_eq,qX_j0_eq m];rfl)
def w38_0:List Nat:=[1,1,0,1,0]
def w38_2:List Nat:=[1,1,0,1,0,0,1,1]
def w38_1:List Nat:=w38_2++[1]
noncomputable def e38 (J:Nat→Nat→Nat→St→Option (List Dt)→Option (List Dt)) (m:Nat) (p ms:List Nat) (σ:St):=evAt Tryz.prog env (ct m) J (m+1) 48 22 Tryz.f48 d11 p ms σ
noncomputable def l38 (J:Nat→Nat→Nat→St→Option (List Dt)→Option (List Dt)) (m:Nat) (p ms:List Nat) (M:Nat) (σ:St):=loopAt Tryz.prog env (ct m) J (m+1) 48 22 Tryz.f48 d11 p ms M σ
noncomputable def s38_3 (x0:List Dt) (x1 x2:Int) (x3:Dt) (x4:List Dt):St:=⟨tsOf [(3,(.ptr 0 [] 0)),(5,(.row 1)),(8,(.dat 22 (.lst x0))),(9,(.dat 3 (.int x1))),(10,(.dat 3 (.int x2)))],[(.box 36 (.dat 36 x3)),(.row 23 x4)],0⟩
noncomputable def s38_4 (x0:List Dt):St:=⟨tsOf [(5,(.row 0))],[(.row 23 x0)],0⟩
abbrev H38_1 (m M1:Nat) (rec1:List Dt→Int→Int→Dt→List Dt→Option (List Dt)):Prop:=∀x0 x1 x2 x3 x4,l38 jn m w38_0 [] M1 (s38_3 x0 x1 x2 x3 x4)=rec1 x0 x1 x2 x3 x4
theorem zH_j3_eq m M1 rec1 (h1:H38_1 m M1 rec1) x0 x1 x2 x3 x4:e38 jn m w38_1 [M1] (s38_3 x0 x1 x2 x3 x4)=zH_j3 m rec1 x0 x1 x2 x3 x4:=
 tq (g:=fun J=>(jj J 1 3 M1 (s38_3 x0 x1 (IntKind.wrap .i64 (x2+1)) x3 x4) (l38 J m w38_0 [] M1))) (by simp only[jj_eq,h1];rfl)
theorem zH_j2_eq m M1 rec1 (h1:H38_1 m M1 rec1) x0 x1 x2 x3 x4:e38 jn m w38_2 [M1] (s38_3 x0 x1 x2 x3 x4)=zH_j2 m rec1 x0 x1 x2 x3 x4:=
 tq (g:=fun J=>((idx x0 x2).bind fun v0=>
  ((qX m v0 x3).bind fun r1=>
  ((app x4 [r1]).bind fun v2=>
  (jj J 0 6 0 (s38_3 x0 x1 x2 x3 v2) (e38 J m w38_1 [M1])))))) (by simp only[jj_eq,zH_j3_eq m M1 rec1 h1];rfl)
theorem zH_j4_eq m x0:e38 jn m [1,1,1] [] (s38_4 x0)=zH_j4 m x0:=
 tq (g:=fun J=>some x0) (by rfl)
theorem zH_l1_eq m:∀M1 x0 x1 x2 x3 x4,l38 jn m w38_0 [] M1 (s38_3 x0 x1 x2 x3 x4)=zH_l1 m M1 x0 x1 x2 x3 x4
 |0,_,_,_,_,_=>rfl
 | M1+1,x0,x1,x2,x3,x4=>
   tl (g:=fun J=>(bif (decide (x2<x1)) then
  (jj J 0 4 0 (s38_3 x0 x1 x2 x3 x4) (e38 J m w38_2 [M1]))
   else
  (jj J 0 7 0 (s38_4 x4) (e38 J m [1,1,1] [])))) (by simp only[jj_eq,zH_j2_eq m M1 (zH_l1 m M1) (zH_l1_eq m M1),zH_j4_eq m];rfl)
theorem zH_j0_eq m x0 x1 x2 x3 x4:e38 jn m [1,1,0,1] [] (s38_3 x0 x1 x2 x3 x4)=zH_j0 m x0 x1 x2 x3 x4:=
 tq (g:=fun J=>(jj J 1 3 (Nat.succ m) (s38_3 x0 x1 x2 x3 x4) (l38 J m w38_0 [] (Nat.succ m)))) (by simp only[jj_eq,zH_l1_eq m];rfl)
theorem zH_eq m a0 a1:e38 jn m [] [] ⟨[(.dat 22 (.lst a0)),(.dat 36 a1)],[],0⟩=zH (m+1) a0 a1:=
 tq (g:=fun J=>(jj J 0 3 0 (s38_3 a0 (List.length a0:Int) 0 a1 []) (e38 J m [1,1,0,1] []))) (by simp only[jj_eq,zH_j0_eq m];rfl)
def w19_0:List Nat:=[1,1,0,1,0]
def w19_6:List Nat:=[1,1,1,1,1,1]
def w19_7:List Nat:=[1,1,1,1,1,0,1]
def w19_2:List Nat:=[1,1,0,1,0,0,1,1]
def w19_3:List Nat:=w19_7++[0]
def w19_1:List Nat:=w19_2++[1]
def w19_5:List Nat:=w19_3++[0,1,1]
def w19_4:List Nat:=w19_5++[1]
noncomputable def e19 (J:Nat→Nat→Nat→St→Option (List Dt)→Option (List Dt)) (m:Nat) (p ms:List Nat) (σ:St):=evAt Tryz.prog env (ct m) J (m+1) 30 51 Tryz.f30 d11 p ms σ
noncomputable def l19 (J:Nat→Nat→Nat→St→Option (List Dt)→Option (List Dt)) (m:Nat) (p ms:List Nat) (M:Nat) (σ:St):=loopAt Tryz.prog env (ct m) J (m+1) 30 51 Tryz.f30 d11 p ms M σ
noncomputable def s19_3 (x0:Int) (x1:List Dt) (x2 x3:Int) (x4 x5:List Dt):St:=⟨tsOf [(2,(.dat 3 (.int x0))),(3,(.ptr 0 [] 0)),(7,(.row 1)),(16,(.dat 23 (.lst x1))),(17,(.dat 3 (.int x2))),(18,(.dat 3 (.int x3)))],[(.box 22 (.dat 22 (.lst x4))),(.row 91 x5)],0⟩
noncomputable def s19_8 (x0:List Dt) (x1 x2:Int) (x3:List Dt):St:=⟨tsOf [(10,(.row 0)),(37,(.dat 91 (.lst x0))),(38,(.dat 3 (.int x1))),(39,(.dat 3 (.int x2)))],[(.row 23 x3)],0⟩
noncomputable def s19_9 (x0:List Dt):St:=⟨tsOf [(10,(.row 0))],[(.row 23 x0)],0⟩
noncomputable def s19_4 (x0:Int) (x1 x2:List Dt):St:=⟨tsOf [(2,(.dat 3 (.int x0))),(3,(.ptr 0 [] 0)),(7,(.row 1))],[(.box 22 (.dat 22 (.lst x1))),(.row 91 x2)],0⟩
abbrev H19_1 (m M1:Nat) (rec1:Int→List Dt→Int→Int→List Dt→List Dt→Option (List Dt)):Prop:=∀x0 x1 x2 x3 x4 x5,l19 jn m w19_0 [] M1 (s19_3 x0 x1 x2 x3 x4 x5)=rec1 x0 x1 x2 x3 x4 x5
theorem qT_j3_eq m M1 rec1 (h1:H19_1 m M1 rec1) x0 x1 x2 x3 x4 x5:e19 jn m w19_1 [M1] (s19_3 x0 x1 x2 x3 x4 x5)=qT_j3 m rec1 x0 x1 x2 x3 x4 x5:=
 tq (g:=fun J=>(jj J 1 3 M1 (s19_3 x0 x1 x2 (IntKind.wrap .i64 (x3+1)) x4 x5) (l19 J m w19_0 [] M1))) (by simp only[jj_eq,h1];rfl)
theorem qT_j2_eq m M1 rec1 (h1:H19_1 m M1 rec1) x0 x1 x2 x3 x4 x5:e19 jn m w19_2 [M1] (s19_3 x0 x1 x2 x3 x4 x5)=qT_j2 m rec1 x0 x1 x2 x3 x4 x5:=
 tq (g:=fun J=>((idx x1 x3).bind fun v1=>
  ((zH m x4 v1).bind fun r2=>
  ((inL x5 x3).bind fun v3=>
  ((x5[(Int.toNat x3)]?).bind fun v4=>
  (jj J 0 6 0 (s19_3 x0 x1 x2 x3 x4 (List.set x5 (Int.toNat x3) (Dt.agg [v1,(Dt.lst r2)]))) (e19 J m w19_1 [M1]))))))) (by simp only[jj_eq,qT_j3_eq m M1 rec1 h1];rfl)
abbrev H19_6 (m M6:Nat) (rec6:List Dt→Int→Int→List Dt→Option (List Dt)):Prop:=∀x0 x1 x2 x3,l19 jn m w19_3 [] M6 (s19_8 x0 x1 x2 x3)=rec6 x0 x1 x2 x3
theorem qT_j8_eq m M6 rec6 (h6:H19_6 m M6 rec6) x0 x1 x2 x3:e19 jn m w19_4 [M6] (s19_8 x0 x1 x2 x3)=qT_j8 m rec6 x0 x1 x2 x3:=
 tq (g:=fun J=>(jj J 1 10 M6 (s19_8 x0 x1 (IntKind.wrap .i64 (x2+1)) x3) (l19 J m w19_3 [] M6))) (by simp only[jj_eq,h6];rfl)
theorem qT_j7_eq m M6 rec6 (h6:H19_6 m M6 rec6) x0 x1 x2 x3:e19 jn m w19_5 [M6] (s19_8 x0 x1 x2 x3)=qT_j7 m rec6 x0 x1 x2 x3:=
 tq (g:=fun J=>((idx x0 x2).bind fun v7=>
  ((qG m (Dt.fld v7 0)).bind fun r8=>
  ((app x3 [r8]).bind fun v9=>
  (jj J 0 13 0 (s19_8 x0 x1 x2 v9) (e19 J m w19_4 [M6])))))) (by simp only[jj_eq,qT_j8_eq m M6 rec6 h6];rfl)
theorem qT_j9_eq m x0:e19 jn m w19_6 [] (s19_9 x0)=qT_j9 m x0:=
 tq (g:=fun J=>some x0) (by rfl)
theorem qT_l6_eq m:∀M6 x0 x1 x2 x3,l19 jn m w19_3 [] M6 (s19_8 x0 x1 x2 x3)=qT_l6 m M6 x0 x1 x2 x3
 |0,_,_,_,_=>rfl
 | M6+1,x0,x1,x2,x3=>
   tl (g:=fun J=>(bif (decide (x2<x1)) then
  (jj J 0 11 0 (s19_8 x0 x1 x2 x3) (e19 J m w19_5 [M6]))
   else
  (jj J 0 14 0 (s19_9 x3) (e19 J m w19_6 [])))) (by simp only[jj_eq,qT_j7_eq m M6 (qT_l6 m M6) (qT_l6_eq m M6),qT_j9_eq m];rfl)
theorem qT_j5_eq m x0 x1 x2 x3:e19 jn m w19_7 [] (s19_8 x0 x1 x2 x3)=qT_j5 m x0 x1 x2 x3:=
 tq (g:=fun J=>(jj J 1 10 (Nat.succ m) (s19_8 x0 x1 x2 x3) (l19 J m w19_3 [] (Nat.succ m)))) (by simp only[jj_eq,qT_l6_eq m];rfl)
theorem qT_j4_eq m x0 x1 x2:e19 jn m [1,1,1] [] (s19_4 x0 x1 x2)=qT_j4 m x0 x1 x2:=
 tq (g:=fun J=>((i39 m x2 x1).bind fun r5=>
  ((cutL r5.1 0 x0).bind fun v6=>
  (jj J 0 10 0 (s19_8 v6 (List.length v6:Int) 0 []) (e19 J m w19_7 []))))) (by simp only[jj_eq,qT_j5_eq m];rfl)
theorem qT_l1_eq m:∀M1 x0 x1 x2 x3 x4 x5,l19 jn m w19_0 [] M1 (s19_3 x0 x1 x2 x3 x4 x5)=qT_l1 m M1 x0 x1 x2 x3 x4 x5
 |0,_,_,_,_,_,_=>rfl
 | M1+1,x0,x1,x2,x3,x4,x5=>
   tl (g:=fun J=>(bif (decide (x3<x2)) then
  (jj J 0 4 0 (s19_3 x0 x1 x2 x3 x4 x5) (e19 J m w19_2 [M1]))
   else
  (jj J 0 7 0 (s19_4 x0 x4 x5) (e19 J m [1,1,1] [])))) (by simp only[jj_eq,qT_j2_eq m M1 (qT_l1 m M1) (qT_l1_eq m M1),qT_j4_eq m];rfl)
theorem qT_j0_eq m x0 x1 x2 x3 x4 x5:e19 jn m [1,1,0,1] [] (s19_3 x0 x1 x2 x3 x4 x5)=qT_j0 m x0 x1 x2 x3 x4 x5:=
 tq (g:=fun J=>(jj J 1 3 (Nat.succ m) (s19_3 x0 x1 x2 x3 x4 x5) (l19 J m w19_0 [] (Nat.succ m)))) (by simp only[jj_eq,qT_l1_eq m];rfl)
theorem qT_eq m a0 a1 a2:e19 jn m [] [] ⟨[(.dat 22 (.lst a0)),(.dat 23 (.lst a1)),(.dat 3 (.int a2))],[],0⟩=qT (m+1) a0 a1 a2:=
 tq (g:=fun J=>((mkL (List.length a1:Int) (List.length a1:Int) kzd6e5e).bind fun v0=>
  (jj J 0 3 0 (s19_3 a2 a1 (List.length a1:Int) 0 a0 v0) (e19 J m [1,1,0,1] [])))) (by simp only[jj_eq,qT_j0_eq m];rfl)
noncomputable def e9 (J:Nat→Nat→Nat→St→Option (List Dt)→Option (List Dt)) (m:Nat) (p ms:List Nat) (σ:St):=evAt Tryz.prog env (ct m) J (m+1) 17 10 Tryz.f17 d11 p ms σ
theorem zU_eq m a0 a1:e9 jn m [] [] ⟨[(.dat 22 (.lst a0)),(.dat 23 (.lst a1))],[],0⟩=zU (m+1) a0 a1:=
 tq (g:=fun J=>((qT m a0 a1 (List.length a1:Int)).bind fun r0=>
  some r0)) (by rfl)
noncomputable def e20 (J:Nat→Nat→Nat→St→Option Int→Option Int) (m:Nat) (p ms:List Nat) (σ:St):=evAt Tryz.prog env (ct m) J (m+1) 31 15 Tryz.f31 d32 p ms σ
theorem zO_eq m a0 a1 a2:e20 jn m [] [] ⟨[(.dat 22 (.lst a0)),(.dat 36 a1),(.dat 36 a2)],[],0⟩=zO (m+1) a0 a1 a2:=
 tq (g:=fun J=>((zH m a0 a1).bind fun r0=>
  ((zH m a0 a2).bind fun r1=>
  ((qY m a0 r0 r1).bind fun r2=>
  some r2)))) (by rfl)
def w10_0:List Nat:=[1,1,0,0,0,1]
noncomputable def e10 (J:Nat→Nat→Nat→St→Option (List Dt)→Option (List Dt)) (m:Nat) (p ms:List Nat) (σ:St):=evAt Tryz.prog env (ct m) J (m+1) 18 53 Tryz.f18 d11 p ms σ
noncomputable def l10 (J:Nat→Nat→Nat→St→Option (List Dt)→Option (List Dt)) (m:Nat) (p ms:List Nat) (M:Nat) (σ:St):=loopAt Tryz.prog env (ct m) J (m+1) 18 53 Tryz.f18 d11 p ms M σ
noncomputable def s10_2 (x0 x1 x2 x3:List Dt):St:=⟨tsOf [(0,(.dat 22 (.lst x0))),(1,(.dat 23 (.lst x1))),(2,(.dat 23 (.lst x2))),(7,(.row 0))],[(.row 23 x3)],0⟩
noncomputable def s10_3 (x0 x1 x2:List Dt):St:=⟨tsOf [(1,(.dat 23 (.lst x0))),(2,(.dat 23 (.lst x1))),(7,(.row 0))],[(.row 23 x2)],0⟩
abbrev H10_1 (m M1:Nat) (rec1:List Dt→List Dt→List Dt→List Dt→Option (List Dt)):Prop:=∀x0 x1 x2 x3,l10 jn m [1,1,0,0] [] M1 (s10_2 x0 x1 x2 x3)=rec1 x0 x1 x2 x3
theorem zF_j2_eq m M1 rec1 (h1:H10_1 m M1 rec1) x0 x1 x2 x3:e10 jn m w10_0 [M1] (s10_2 x0 x1 x2 x3)=zF_j2 m rec1 x0 x1 x2 x3:=
 tq (g:=fun J=>((idx x1 0).bind fun v1=>
  ((idx x2 0).bind fun v2=>
  ((zO m x0 v1 v2).bind fun r3=>
  (bif (decide (r3≤0)) then
  ((idx x1 0).bind fun v4=>
  ((app x3 [v4]).bind fun v5=>
  ((cutL x1 1 (List.length x1:Int)).bind fun v6=>
  (jj J 1 2 M1 (s10_2 x0 v6 x2 v5) (l10 J m [1,1,0,0] [] M1)))))
  else
  ((idx x2 0).bind fun v7=>
  ((app x3 [v7]).bind fun v8=>
  ((cutL x2 1 (List.length x2:Int)).bind fun v9=>
  (jj J 1 2 M1 (s10_2 x0 x1 v9 v8) (l10 J m [1,1,0,0] [] M1)))))))))) (by simp only[jj_eq,h1];rfl)
theorem zF_j3_eq m x0 x1 x2:e10 jn m [1,1,1] [] (s10_3 x0 x1 x2)=zF_j3 m x0 x1 x2:=
 tq (g:=fun J=>((app x2 x0).bind fun v10=>
  ((app v10 x1).bind fun v11=>
  some v11))) (by rfl)
theorem zF_l1_eq m:∀M1 x0 x1 x2 x3,l10 jn m [1,1,0,0] [] M1 (s10_2 x0 x1 x2 x3)=zF_l1 m M1 x0 x1 x2 x3
 |0,_,_,_,_=>rfl
 | M1+1,x0,x1,x2,x3=>
   tl (g:=fun J=>(bif (decide (0<(List.length x1:Int))) then
  (bif (decide (0<(List.length x2:Int))) then
  (jj J 0 3 0 (s10_2 x0 x1 x2 x3) (e10 J m w10_0 [M1]))
  else
  (jj J 0 8 0 (s10_3 x1 x2 x3) (e10 J m [1,1,1] [])))
   else
  (jj J 0 8 0 (s10_3 x1 x2 x3) (e10 J m [1,1,1] [])))) (by simp only[jj_eq,zF_j2_eq m M1 (zF_l1 m M1) (zF_l1_eq m M1),zF_j3_eq m];rfl)
theorem zF_j0_eq m x0 x1 x2 x3:e10 jn m [1,1] [] (s10_2 x0 x1 x2 x3)=zF_j0 m x0 x1 x2 x3:=
 tq (g:=fun J=>(jj J 1 2 (Nat.succ m) (s10_2 x0 x1 x2 x3) (l10 J m [1,1,0,0] [] (Nat.succ m)))) (by simp only[jj_eq,zF_l1_eq m];rfl)
theorem zF_eq m a0 a1 a2:e10 jn m [] [] ⟨[(.dat 22 (.lst a0)),(.dat 23 (.lst a1)),(.dat 23 (.lst a2))],[],0⟩=zF (m+1) a0 a1 a2:=
 tq (g:=fun J=>((mkL 0 (IntKind.wrap .i64 ((List.length a1:Int)+(List.length a2:Int))) kza2373).bind fun v0=>
  (jj J 0 2 0 (s10_2 a0 a1 a2 v0) (e10 J m [1,1] [])))) (by simp only[jj_eq,zF_j0_eq m];rfl)
def w4_11:List Nat:=[1,1,1,1,1,1]
def w4_10:List Nat:=w4_11++[1]
def w4_12:List Nat:=[1,1,1,1,1,0,1]
def w4_0:List Nat:=w4_12++[0]
def w4_3:List Nat:=w4_11++[0,0]
def w4_9:List Nat:=w4_3++[0,1]
def w4_2:List Nat:=w4_0++[0,1,1]
def w4_1:List Nat:=w4_2++[1]
def w4_7:List Nat:=w4_9++[0,1,1]
def w4_8:List Nat:=w4_9++[0,1,0,1]
def w4_4:List Nat:=w4_8++[0]
def w4_6:List Nat:=w4_4++[0,1]
def w4_5:List Nat:=w4_6++[1]
noncomputable def e4 (J:Nat→Nat→Nat→St→Option (List Dt×Int×Int)→Option (List Dt×Int×Int)) (m:Nat) (p ms:List Nat) (σ:St):=evAt Tryz.prog env (ct m) J (m+1) 8 92 Tryz.f8 d5 p ms σ
noncomputable def l4 (J:Nat→Nat→Nat→St→Option (List Dt×Int×Int)→Option (List Dt×Int×Int)) (m:Nat) (p ms:List Nat) (M:Nat) (σ:St):=loopAt Tryz.prog env (ct m) J (m+1) 8 92 Tryz.f8 d5 p ms M σ
noncomputable def s4_5 (x0 x1 x2:List Dt) (x3 x4:Int) (x5:List Dt):St:=⟨tsOf [(0,(.dat 22 (.lst x0))),(11,(.dat 52 (.lst x1))),(13,(.row 0)),(37,(.dat 52 (.lst x2))),(38,(.dat 3 (.int x3))),(39,(.dat 3 (.int x4)))],[(.row 52 x5)],0⟩
noncomputable def s4_12 (x0 x1:List Dt) (x2:Int) (x3 x4:List Dt):St:=⟨tsOf [(0,(.dat 22 (.lst x0))),(11,(.dat 52 (.lst x1))),(13,(.row 0)),(16,(.row 1)),(17,(.dat 3 (.int x2)))],[(.row 52 x3),(.row 52 x4)],0⟩
noncomputable def s4_13 (x0 x1 x2:List Dt):St:=⟨tsOf [(0,(.dat 22 (.lst x0))),(11,(.dat 52 (.lst x1))),(16,(.row 0))],[(.row 52 x2)],0⟩
noncomputable def s4_8 (x0 x1 x2:List Dt):St:=⟨tsOf [(0,(.dat 22 (.lst x0))),(11,(.dat 52 (.lst x1))),(13,(.row 0))],[(.row 52 x2)],0⟩
noncomputable def s4_14 (x0 x1:List Dt):St:=⟨tsOf [(11,(.dat 52 (.lst x0))),(13,(.row 0))],[(.row 52 x1)],0⟩
noncomputable def s4_1 (x0 x1:List Dt):St:=⟨tsOf [(0,(.dat 22 (.lst x0))),(11,(.dat 52 (.lst x1)))],[],0⟩
noncomputable def s4_0 (x0 x1 x2:List Dt):St:=⟨tsOf [(0,(.dat 22 (.lst x0))),(1,(.dat 23 (.lst x1))),(11,(.dat 52 (.lst x2)))],[],0⟩
abbrev H4_3 (m M3:Nat) (rec3:List Dt→List Dt→List Dt→Int→Int→List Dt→Option (List Dt×Int×Int)):Prop:=∀x0 x1 x2 x3 x4 x5,l4 jn m w4_0 [] M3 (s4_5 x0 x1 x2 x3 x4 x5)=rec3 x0 x1 x2 x3 x4 x5
theorem qA_j5_eq m M3 rec3 (h3:H4_3 m M3 rec3) x0 x1 x2 x3 x4 x5:e4 jn m w4_1 [M3] (s4_5 x0 x1 x2 x3 x4 x5)=qA_j5 m rec3 x0 x1 x2 x3 x4 x5:=
 tq (g:=fun J=>(jj J 1 8 M3 (s4_5 x0 x1 x2 x3 (IntKind.wrap .i64 (x4+1)) x5) (l4 J m w4_0 [] M3))) (by simp only[jj_eq,h3];rfl)
theorem qA_j4_eq m M3 rec3 (h3:H4_3 m M3 rec3) x0 x1 x2 x3 x4 x5:e4 jn m w4_2 [M3] (s4_5 x0 x1 x2 x3 x4 x5)=qA_j4 m rec3 x0 x1 x2 x3 x4 x5:=
 tq (g:=fun J=>((idx x2 x4).bind fun v3=>
  ((zU m x0 (Dt.toLst v3)).bind fun r4=>
  ((inL x5 x4).bind fun v5=>
  ((x5[(Int.toNat x4)]?).bind fun v6=>
  (jj J 0 11 0 (s4_5 x0 x1 x2 x3 x4 (List.set x5 (Int.toNat x4) (Dt.lst r4))) (e4 J m w4_1 [M3]))))))) (by simp only[jj_eq,qA_j5_eq m M3 rec3 h3];rfl)
abbrev H4_7 (m M7:Nat) (rec7:List Dt→List Dt→List Dt→Option (List Dt×Int×Int)):Prop:=∀x0 x1 x2,l4 jn m w4_3 [] M7 (s4_8 x0 x1 x2)=rec7 x0 x1 x2
abbrev H4_10 (m M7 M10:Nat) (rec10:List Dt→List Dt→Int→List Dt→List Dt→Option (List Dt×Int×Int)):Prop:=∀x0 x1 x2 x3 x4,l4 jn m w4_4 [M7] M10 (s4_12 x0 x1 x2 x3 x4)=rec10 x0 x1 x2 x3 x4
theorem qA_j12_eq m M7 rec7 (h7:H4_7 m M7 rec7) M10 rec10 (h10:H4_10 m M7 M10 rec10) x0 x1 x2 x3 x4:e4 jn m w4_5 [M7,M10] (s4_12 x0 x1 x2 x3 x4)=qA_j12 m rec7 rec10 x0 x1 x2 x3 x4:=
 tq (g:=fun J=>(jj J 1 15 M10 (s4_12 x0 x1 (IntKind.wrap .i64 (x2+2)) x3 x4) (l4 J m w4_4 [M7] M10))) (by simp only[jj_eq,h10];rfl)
theorem qA_j11_eq m M7 rec7 (h7:H4_7 m M7 rec7) M10 rec10 (h10:H4_10 m M7 M10 rec10) x0 x1 x2 x3 x4:e4 jn m w4_6 [M7,M10] (s4_12 x0 x1 x2 x3 x4)=qA_j11 m rec7 rec10 x0 x1 x2 x3 x4:=
 tq (g:=fun J=>(bif (decide ((IntKind.wrap .i64 (x2+1))<(List.length x3:Int))) then
  ((inL x3 x2).bind fun v7=>
  ((x3[(Int.toNat x2)]?).bind fun v8=>
  ((inL x3 (IntKind.wrap .i64 (x2+1))).bind fun v9=>
  ((x3[(Int.toNat (IntKind.wrap .i64 (x2+1)))]?).bind fun v10=>
  ((zF m x0 (Dt.toLst v8) (Dt.toLst v10)).bind fun r11=>
  ((app x4 [(Dt.lst r11)]).bind fun v12=>
  (jj J 0 16 0 (s4_12 x0 x1 x2 x3 v12) (e4 J m w4_5 [M7,M10]))))))))
   else
  ((inL x3 x2).bind fun v13=>
  ((x3[(Int.toNat x2)]?).bind fun v14=>
  ((app x4 [(Dt.lst (Dt.toLst v14))]).bind fun v15=>
  (jj J 0 16 0 (s4_12 x0 x1 x2 x3 v15) (e4 J m w4_5 [M7,M10]))))))) (by simp only[jj_eq,qA_j12_eq m M7 rec7 h7 M10 rec10 h10];rfl)
theorem qA_j13_eq m M7 rec7 (h7:H4_7 m M7 rec7) x0 x1 x2:e4 jn m w4_7 [M7] (s4_13 x0 x1 x2)=qA_j13 m rec7 x0 x1 x2:=
 tq (g:=fun J=>(jj J 1 12 M7 (s4_8 x0 x1 x2) (l4 J m w4_3 [] M7))) (by simp only[jj_eq,h7];rfl)
theorem qA_l10_eq m M7 rec7 (h7:H4_7 m M7 rec7):∀M10 x0 x1 x2 x3 x4,l4 jn m w4_4 [M7] M10 (s4_12 x0 x1 x2 x3 x4)=qA_l10 m rec7 M10 x0 x1 x2 x3 x4
 |0,_,_,_,_,_=>rfl
 | M10+1,x0,x1,x2,x3,x4=>
   tl (g:=fun J=>(bif (decide (x2<(List.length x3:Int))) then
  (jj J 0 17 0 (s4_12 x0 x1 x2 x3 x4) (e4 J m w4_6 [M7,M10]))
   else
  (jj J 0 20 0 (s4_13 x0 x1 x4) (e4 J m w4_7 [M7])))) (by simp only[jj_eq,qA_j11_eq m M7 rec7 h7 M10 (qA_l10 m rec7 M10) (qA_l10_eq m M7 rec7 h7 M10),qA_j13_eq m M7 rec7 h7];rfl)
theorem qA_j9_eq m M7 rec7 (h7:H4_7 m M7 rec7) x0 x1 x2 x3 x4:e4 jn m w4_8 [M7] (s4_12 x0 x1 x2 x3 x4)=qA_j9 m rec7 x0 x1 x2 x3 x4:=
 tq (g:=fun J=>(jj J 1 15 (Nat.succ m) (s4_12 x0 x1 x2 x3 x4) (l4 J m w4_4 [M7] (Nat.succ m)))) (by simp only[jj_eq,qA_l10_eq m M7 rec7 h7];rfl)
theorem qA_j8_eq m M7 rec7 (h7:H4_7 m M7 rec7) x0 x1 x2:e4 jn m w4_9 [M7] (s4_8 x0 x1 x2)=qA_j8 m rec7 x0 x1 x2:=
 tq (g:=fun J=>(jj J 0 15 0 (s4_12 x0 x1 0 x2 []) (e4 J m w4_8 [M7]))) (by simp only[jj_eq,qA_j9_eq m M7 rec7 h7];rfl)
theorem qA_j14_eq m x0 x1:e4 jn m w4_10 [] (s4_14 x0 x1)=qA_j14 m x0 x1:=
 tq (g:=fun J=>((inL x1 0).bind fun v16=>
  ((x1[0]?).bind fun v17=>
  some ((Dt.toLst v17),(List.length x0:Int),0)))) (by rfl)
theorem qA_l7_eq m:∀M7 x0 x1 x2,l4 jn m w4_3 [] M7 (s4_8 x0 x1 x2)=qA_l7 m M7 x0 x1 x2
 |0,_,_,_=>rfl
 | M7+1,x0,x1,x2=>
   tl (g:=fun J=>(bif (decide (1<(List.length x2:Int))) then
  (jj J 0 13 0 (s4_8 x0 x1 x2) (e4 J m w4_9 [M7]))
   else
  (jj J 0 21 0 (s4_14 x1 x2) (e4 J m w4_10 [])))) (by simp only[jj_eq,qA_j8_eq m M7 (qA_l7 m M7) (qA_l7_eq m M7),qA_j14_eq m];rfl)
theorem qA_j6_eq m x0 x1 x2:e4 jn m w4_11 [] (s4_8 x0 x1 x2)=qA_j6 m x0 x1 x2:=
 tq (g:=fun J=>(jj J 1 12 (Nat.succ m) (s4_8 x0 x1 x2) (l4 J m w4_3 [] (Nat.succ m)))) (by simp only[jj_eq,qA_l7_eq m];rfl)
theorem qA_l3_eq m:∀M3 x0 x1 x2 x3 x4 x5,l4 jn m w4_0 [] M3 (s4_5 x0 x1 x2 x3 x4 x5)=qA_l3 m M3 x0 x1 x2 x3 x4 x5
 |0,_,_,_,_,_,_=>rfl
 | M3+1,x0,x1,x2,x3,x4,x5=>
   tl (g:=fun J=>(bif (decide (x4<x3)) then
  (jj J 0 9 0 (s4_5 x0 x1 x2 x3 x4 x5) (e4 J m w4_2 [M3]))
   else
  (jj J 0 12 0 (s4_8 x0 x1 x5) (e4 J m w4_11 [])))) (by simp only[jj_eq,qA_j4_eq m M3 (qA_l3 m M3) (qA_l3_eq m M3),qA_j6_eq m];rfl)
theorem qA_j2_eq m x0 x1 x2 x3 x4 x5:e4 jn m w4_12 [] (s4_5 x0 x1 x2 x3 x4 x5)=qA_j2 m x0 x1 x2 x3 x4 x5:=
 tq (g:=fun J=>(jj J 1 8 (Nat.succ m) (s4_5 x0 x1 x2 x3 x4 x5) (l4 J m w4_0 [] (Nat.succ m)))) (by simp only[jj_eq,qA_l3_eq m];rfl)
theorem qA_j1_eq m x0 x1:e4 jn m [1,1,1,1] [] (s4_1 x0 x1)=qA_j1 m x0 x1:=
 tq (g:=fun J=>((mkL (List.length x1:Int) (List.length x1:Int) (Dt.lst [])).bind fun v2=>
  (jj J 0 8 0 (s4_5 x0 x1 x1 (List.length x1:Int) 0 v2) (e4 J m w4_12 [])))) (by simp only[jj_eq,qA_j2_eq m];rfl)
theorem qA_j0_eq m x0 x1 x2:e4 jn m [1,1,1] [] (s4_0 x0 x1 x2)=qA_j0 m x0 x1 x2:=
 tq (g:=fun J=>(bif ((List.length x2:Int)==0) then
  ((zU m x0 x1).bind fun r1=>
  some (r1,0,0))
   else
  (jj J 0 6 0 (s4_1 x0 x2) (e4 J m [1,1,1,1] [])))) (by simp only[jj_eq,qA_j1_eq m];rfl)
theorem qA_eq m a0 a1 a2 a3:e4 jn m [] [] ⟨[(.dat 22 (.lst a0)),(.dat 23 (.lst a1)),(.dat 3 (.int a2)),(.dat 4 (.bool a3))],[],0⟩=qA (m+1) a0 a1 a2 a3:=
 tq (g:=fun J=>((qO m a1 a2 a3).bind fun r0=>
  (bif (r0.2 !=0) then
  some ([],0,r0.2)
  else
  (jj J 0 4 0 (s4_0 a0 a1 r0.1) (e4 J m [1,1,1] []))))) (by simp only[jj_eq,qA_j0_eq m];rfl)
def w0_1:List Nat:=[1,1,1,1,1,1,1,1]
def w0_0:List Nat:=w0_1++[1]
def w0_2:List Nat:=[1,1,1,1,1,1,1,0,1]
noncomputable def e0 (J:Nat→Nat→Nat→St→Option Bool→Option Bool) (m:Nat) (p ms:List Nat) (σ:St):=evAt Tryz.prog env (ct m) J (m+1) 4 121 Tryz.f4 d14 p ms σ
noncomputable def s0_4 (x0 x1:List Dt) (x2:Int):St:=⟨tsOf [(0,(.dat 23 (.lst x0))),(17,(.dat 23 (.lst x1))),(19,(.dat 27 (.int x2)))],[],0⟩
noncomputable def s0_3 (x0:List Dt) (x1:Int) (x2:List Dt) (x3:Int):St:=⟨tsOf [(0,(.dat 23 (.lst x0))),(9,(.dat 3 (.int x1))),(17,(.dat 23 (.lst x2))),(19,(.dat 27 (.int x3)))],[],0⟩
noncomputable def s0_2 (x0:List Dt) (x1:Int) (x2:List Dt) (x3:Int) (x4:Bool):St:=⟨tsOf [(0,(.dat 23 (.lst x0))),(9,(.dat 3 (.int x1))),(17,(.dat 23 (.lst x2))),(19,(.dat 27 (.int x3))),(98,(.dat 4 (.bool x4)))],[],0⟩
noncomputable def s0_1 (x0:List Dt) (x1 x2:Int):St:=⟨tsOf [(0,(.dat 23 (.lst x0))),(1,(.dat 3 (.int x1))),(2,(.dat 3 (.int x2)))],[],0⟩
noncomputable def s0_0 (x0:List Dt) (x1 x2:Int) (x3:Bool):St:=⟨tsOf [(0,(.dat 23 (.lst x0))),(1,(.dat 3 (.int x1))),(2,(.dat 3 (.int x2))),(31,(.dat 4 (.bool x3)))],[],0⟩
theorem qQ_j4_eq m x0 x1 x2:e0 jn m w0_0 [] (s0_4 x0 x1 x2)=qQ_j4 m x0 x1 x2:=
 tq (g:=fun J=>(bif (x2==0) then
  ((zM m x1 x0).bind fun r8=>
  (bif r8 then
  ((awakeC).bind fun r9=>
  some r9)
  else
  some false))
   else
  some false)) (by rfl)
theorem qQ_j3_eq m x0 x1 x2 x3:e0 jn m w0_1 [] (s0_3 x0 x1 x2 x3)=qQ_j3 m x0 x1 x2 x3:=
 tq (g:=fun J=>(bif (decide (0<x1)) then
  (bif (x3==22) then
  (bif ((List.length x2:Int)==0) then
  ((awakeC).bind fun r7=>
  some r7)
  else
  some false)
  else
  some false)
   else
  (jj J 0 12 0 (s0_4 x0 x2 x3) (e0 J m w0_0 [])))) (by simp only[jj_eq,qQ_j4_eq m];rfl)
theorem qQ_j2_eq m x0 x1 x2 x3 x4:e0 jn m w0_2 [] (s0_2 x0 x1 x2 x3 x4)=qQ_j2 m x0 x1 x2 x3 x4:=
 tq (g:=fun J=>(bif x4 then
  some false
   else
  (jj J 0 10 0 (s0_3 x0 x1 x2 x3) (e0 J m w0_1 [])))) (by simp only[jj_eq,qQ_j3_eq m];rfl)
theorem qQ_j1_eq m x0 x1 x2:e0 jn m [1,1] [] (s0_1 x0 x1 x2)=qQ_j1 m x0 x1 x2:=
 tq (g:=fun J=>((z6 m 1).bind fun r2=>
  ((qA m [] x0 x1 true).bind fun r3=>
  ((qW m (Dt.agg [(Dt.agg [(Dt.int 1),(Dt.lst []),(Dt.str (ByteArray.mk (List.toArray []))),(Dt.lst []),r2,(Dt.int 0),(Dt.lst [])]),(Dt.lst [])]) x0 x1 true).bind fun r4=>
  ((qA m [] x0 x2 true).bind fun r5=>
  ((qA m [] x0 x1 false).bind fun r6=>
  (bif (r3.2.2 !=0) then
  (jj J 0 9 0 (s0_2 x0 r3.2.1 r6.1 r6.2.2 true) (e0 J m w0_2 []))
  else
  (bif (r4.2.2 !=0) then
  (jj J 0 9 0 (s0_2 x0 r3.2.1 r6.1 r6.2.2 true) (e0 J m w0_2 []))
  else
  (bif (r5.2.2 !=0) then
  (jj J 0 9 0 (s0_2 x0 r3.2.1 r6.1 r6.2.2 true) (e0 J m w0_2 []))
  else
  (bif (r3.2.1 !=r4.2.1) then
  (jj J 0 9 0 (s0_2 x0 r3.2.1 r6.1 r6.2.2 true) (e0 J m w0_2 []))
  else
  (bif (decide (r3.2.1<0)) then
  (jj J 0 9 0 (s0_2 x0 r3.2.1 r6.1 r6.2.2 true) (e0 J m w0_2 []))
  else
  (bif (decide ((List.length x0:Int)<r3.2.1)) then
  (jj J 0 9 0 (s0_2 x0 r3.2.1 r6.1 r6.2.2 true) (e0 J m w0_2 []))
  else
  (bif (decide (r3.2.1<r5.2.1)) then
  (jj J 0 9 0 (s0_2 x0 r3.2.1 r6.1 r6.2.2 true) (e0 J m w0_2 []))
  else
  (jj J 0 9 0 (s0_2 x0 r3.2.1 r6.1 r6.2.2 (r6.2.1 !=0)) (e0 J m w0_2 []))))))))))))))) (by simp only[jj_eq,qQ_j2_eq m];rfl)
theorem qQ_j0_eq m x0 x1 x2 x3:e0 jn m [1,0,1] [] (s0_0 x0 x1 x2 x3)=qQ_j0 m x0 x1 x2 x3:=
 tq (g:=fun J=>(bif x3 then
  ((awakeC).bind fun r1=>
  some r1)
   else
  (jj J 0 3 0 (s0_1 x0 x1 x2) (e0 J m [1,1] [])))) (by simp only[jj_eq,qQ_j1_eq m];rfl)
theorem qQ_eq m a0 a1 a2:e0 jn m [] [] ⟨[(.dat 23 (.lst a0)),(.dat 3 (.int a1)),(.dat 3 (.int a2))],[],0⟩=qQ (m+1) a0 a1 a2:=
 tq (g:=fun J=>((zD m a0).bind fun r0=>
  (bif (Bool.not r0) then
  (jj J 0 2 0 (s0_0 a0 a1 a2 true) (e0 J m [1,0,1] []))
  else
  (bif (decide (a1<1)) then
  (jj J 0 2 0 (s0_0 a0 a1 a2 true) (e0 J m [1,0,1] []))
  else
  (jj J 0 2 0 (s0_0 a0 a1 a2 (decide (a2<a1))) (e0 J m [1,0,1] [])))))) (by simp only[jj_eq,qQ_j0_eq m];rfl)
end Go.Proofs.YtpifchdngodgjaaGreatDoor
