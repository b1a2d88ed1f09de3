/- Generated: each function's run in the abstract machine is its shallow function. -/
import Derived.Test.YtpifchdngodgjaaGreatDoorCt
import Derived.Test.YtpifchdngodgjaaGreatDoorAmEnv
import Derived.KernelRfl
set_option linter.unusedVariables false
set_option linter.unusedSimpArgs false
namespace Go.Proofs.YtpifchdngodgjaaGreatDoor
open Go.Am
set_option maxRecDepth 100000
def w52_12:List Nat:=[1,1,0,1,0,1]
def w52_11:List Nat:=w52_12++[1,1]
def w52_3:List Nat:=w52_11++[1,1,0,1]
def w52_4:List Nat:=w52_11++[1,1,0,0,1]
def w52_0:List Nat:=w52_4++[0]
def w52_9:List Nat:=w52_11++[1,1,1,1,0,1]
def w52_10:List Nat:=w52_11++[1,1,1,1,0,0,1]
def w52_5:List Nat:=w52_10++[0]
def w52_2:List Nat:=w52_0++[0,1,1]
def w52_1:List Nat:=w52_2++[1]
def w52_8:List Nat:=w52_5++[0,1,1]
def w52_6:List Nat:=w52_8++[1]
def w52_7:List Nat:=w52_8++[0,0,1,1]
noncomputable def e52 (J:Nat→Nat→Nat→St→Option Int→Option Int) (m:Nat) (p ms:List Nat) (σ:St):=evAt Tryz.prog env (ct m) J (m+1) 68 126 Tryz.f68 d25 p ms σ
noncomputable def l52 (J:Nat→Nat→Nat→St→Option Int→Option Int) (m:Nat) (p ms:List Nat) (M:Nat) (σ:St):=loopAt Tryz.prog env (ct m) J (m+1) 68 126 Tryz.f68 d25 p ms M σ
noncomputable def s52_6 (x0 x1:Int) (x2 x3:Dt):St:=⟨tsOf [(2,(.ptr 0 [] 0)),(3,(.ptr 1 [] 0)),(48,(.dat 3 (.int x0))),(49,(.dat 3 (.int x1)))],[(.box 36 (.dat 36 x2)),(.box 36 (.dat 36 x3))],0⟩
noncomputable def s52_7 (x0 x1:Dt):St:=⟨tsOf [(2,(.ptr 0 [] 0)),(3,(.ptr 1 [] 0))],[(.box 36 (.dat 36 x0)),(.box 36 (.dat 36 x1))],0⟩
noncomputable def s52_12 (x0 x1:Int) (x2 x3:Dt):St:=⟨tsOf [(2,(.ptr 0 [] 0)),(3,(.ptr 1 [] 0)),(82,(.dat 3 (.int x0))),(83,(.dat 3 (.int x1)))],[(.box 36 (.dat 36 x2)),(.box 36 (.dat 36 x3))],0⟩
noncomputable def s52_11 (x0 x1 x2:Int) (x3 x4:Dt):St:=⟨tsOf [(2,(.ptr 0 [] 0)),(3,(.ptr 1 [] 0)),(7,(.dat 3 (.int x0))),(82,(.dat 3 (.int x1))),(83,(.dat 3 (.int x2)))],[(.box 36 (.dat 36 x3)),(.box 36 (.dat 36 x4))],0⟩
noncomputable def s52_14:St:=⟨tsOf [],[],0⟩
noncomputable def s52_2 (x0:Int) (x1:Bool) (x2 x3:Dt):St:=⟨tsOf [(2,(.ptr 0 [] 0)),(3,(.ptr 1 [] 0)),(21,(.dat 3 (.int x0))),(31,(.dat 4 (.bool x1)))],[(.box 36 (.dat 36 x2)),(.box 36 (.dat 36 x3))],0⟩
noncomputable def s52_1 (x0:Int) (x1:Bool) (x2 x3:Dt):St:=⟨tsOf [(2,(.ptr 0 [] 0)),(3,(.ptr 1 [] 0)),(21,(.dat 3 (.int x0))),(22,(.dat 4 (.bool x1)))],[(.box 36 (.dat 36 x2)),(.box 36 (.dat 36 x3))],0⟩
abbrev H52_4 (m M4:Nat) (rec4:Int→Int→Dt→Dt→Option Int):Prop:=∀x0 x1 x2 x3,l52 jn m w52_0 [] M4 (s52_6 x0 x1 x2 x3)=rec4 x0 x1 x2 x3
theorem qD_j6_eq m M4 rec4 (h4:H52_4 m M4 rec4) x0 x1 x2 x3:e52 jn m w52_1 [M4] (s52_6 x0 x1 x2 x3)=qD_j6 m (qD m) rec4 x0 x1 x2 x3:=
 tq (g:=fun J=>(jj J 1 14 M4 (s52_6 x0 (IntKind.wrap .i64 (x1+1)) x2 x3) (l52 J m w52_0 [] M4))) (by simp only[jj_eq,h4];rfl)
theorem qD_j5_eq m M4 rec4 (h4:H52_4 m M4 rec4) x0 x1 x2 x3:e52 jn m w52_2 [M4] (s52_6 x0 x1 x2 x3)=qD_j5 m (qD m) rec4 x0 x1 x2 x3:=
 tq (g:=fun J=>((idx (Dt.L x2 3) x1).bind fun v3=>
  ((idx (Dt.L x3 3) x1).bind fun v4=>
  ((qD m v3 v4).bind fun r5=>
  (bif (r5 !=0) then
  some r5
  else
  (jj J 0 19 0 (s52_6 x0 x1 x2 x3) (e52 J m w52_1 [M4]))))))) (by simp only[jj_eq,qD_j6_eq m M4 rec4 h4];rfl)
theorem qD_j7_eq m x0 x1:e52 jn m w52_3 [] (s52_7 x0 x1)=qD_j7 m (qD m) x0 x1:=
 tq (g:=fun J=>((zM m (List.length (Dt.L x0 3):Int) (List.length (Dt.L x1 3):Int)).bind fun r6=>
  some r6)) (by rfl)
theorem qD_l4_eq m:∀M4 x0 x1 x2 x3,l52 jn m w52_0 [] M4 (s52_6 x0 x1 x2 x3)=qD_l4 m (qD m) M4 x0 x1 x2 x3
 |0,_,_,_,_=>rfl
 | M4+1,x0,x1,x2,x3=>
   tl (g:=fun J=>(bif (decide (x1<x0)) then
  (jj J 0 15 0 (s52_6 x0 x1 x2 x3) (e52 J m w52_2 [M4]))
   else
  (jj J 0 20 0 (s52_7 x2 x3) (e52 J m w52_3 [])))) (by simp only[jj_eq,qD_j5_eq m M4 (qD_l4 m (qD m) M4) (qD_l4_eq m M4),qD_j7_eq m];rfl)
theorem qD_j3_eq m x0 x1 x2 x3:e52 jn m w52_4 [] (s52_6 x0 x1 x2 x3)=qD_j3 m (qD m) x0 x1 x2 x3:=
 tq (g:=fun J=>(jj J 1 14 (Nat.succ m) (s52_6 x0 x1 x2 x3) (l52 J m w52_0 [] (Nat.succ m)))) (by simp only[jj_eq,qD_l4_eq m];rfl)
abbrev H52_9 (m M9:Nat) (rec9:Int→Int→Dt→Dt→Option Int):Prop:=∀x0 x1 x2 x3,l52 jn m w52_5 [] M9 (s52_12 x0 x1 x2 x3)=rec9 x0 x1 x2 x3
theorem qD_j12_eq m M9 rec9 (h9:H52_9 m M9 rec9) x0 x1 x2 x3:e52 jn m w52_6 [M9] (s52_12 x0 x1 x2 x3)=qD_j12 m (qD m) rec9 x0 x1 x2 x3:=
 tq (g:=fun J=>(jj J 1 23 M9 (s52_12 x0 (IntKind.wrap .i64 (x1+1)) x2 x3) (l52 J m w52_5 [] M9))) (by simp only[jj_eq,h9];rfl)
theorem qD_j11_eq m M9 rec9 (h9:H52_9 m M9 rec9) x0 x1 x2 x3 x4:e52 jn m w52_7 [M9] (s52_11 x0 x1 x2 x3 x4)=qD_j11 m (qD m) rec9 x0 x1 x2 x3 x4:=
 tq (g:=fun J=>((idx (Dt.L x3 4) x0).bind fun v10=>
  ((idx (Dt.L x4 4) x0).bind fun v11=>
  ((qD m (Dt.fld v10 1) (Dt.fld v11 1)).bind fun r12=>
  (bif (r12 !=0) then
  some r12
  else
  (jj J 0 31 0 (s52_12 x1 x2 x3 x4) (e52 J m w52_6 [M9]))))))) (by simp only[jj_eq,qD_j12_eq m M9 rec9 h9];rfl)
theorem qD_j10_eq m M9 rec9 (h9:H52_9 m M9 rec9) x0 x1 x2 x3:e52 jn m w52_8 [M9] (s52_12 x0 x1 x2 x3)=qD_j10 m (qD m) rec9 x0 x1 x2 x3:=
 tq (g:=fun J=>((idx (Dt.L x2 4) x1).bind fun v7=>
  ((idx (Dt.L x3 4) x1).bind fun v8=>
  ((strings_Compare (Dt.S v7 0) (Dt.S v8 0)).bind fun r9=>
  (bif (r9 !=0) then
  some r9
  else
  (jj J 0 28 0 (s52_11 x1 x0 x1 x2 x3) (e52 J m w52_7 [M9]))))))) (by simp only[jj_eq,qD_j11_eq m M9 rec9 h9];rfl)
theorem qD_j13_eq m x0 x1:e52 jn m w52_9 [] (s52_7 x0 x1)=qD_j13 m (qD m) x0 x1:=
 tq (g:=fun J=>((zM m (List.length (Dt.L x0 4):Int) (List.length (Dt.L x1 4):Int)).bind fun r13=>
  some r13)) (by rfl)
theorem qD_l9_eq m:∀M9 x0 x1 x2 x3,l52 jn m w52_5 [] M9 (s52_12 x0 x1 x2 x3)=qD_l9 m (qD m) M9 x0 x1 x2 x3
 |0,_,_,_,_=>rfl
 | M9+1,x0,x1,x2,x3=>
   tl (g:=fun J=>(bif (decide (x1<x0)) then
  (jj J 0 24 0 (s52_12 x0 x1 x2 x3) (e52 J m w52_8 [M9]))
   else
  (jj J 0 32 0 (s52_7 x2 x3) (e52 J m w52_9 [])))) (by simp only[jj_eq,qD_j10_eq m M9 (qD_l9 m (qD m) M9) (qD_l9_eq m M9),qD_j13_eq m];rfl)
theorem qD_j8_eq m x0 x1 x2 x3:e52 jn m w52_10 [] (s52_12 x0 x1 x2 x3)=qD_j8 m (qD m) x0 x1 x2 x3:=
 tq (g:=fun J=>(jj J 1 23 (Nat.succ m) (s52_12 x0 x1 x2 x3) (l52 J m w52_5 [] (Nat.succ m)))) (by simp only[jj_eq,qD_l9_eq m];rfl)
theorem qD_j14_eq m:e52 jn m [1,1,1] [] s52_14=qD_j14 m (qD m):=
 tq (g:=fun J=>some 0) (by rfl)
theorem qD_j2_eq m x0 x1 x2 x3:e52 jn m w52_11 [] (s52_2 x0 x1 x2 x3)=qD_j2 m (qD m) x0 x1 x2 x3:=
 tq (g:=fun J=>(bif x1 then
  ((strings_Compare (Dt.S x2 2) (Dt.S x3 2)).bind fun r2=>
  some r2)
   else
  (bif (x0==6) then
  (jj J 0 14 0 (s52_6 (bif (decide ((List.length (Dt.L x3 3):Int)<(List.length (Dt.L x2 3):Int))) then(List.length (Dt.L x3 3):Int) else(List.length (Dt.L x2 3):Int)) 0 x2 x3) (e52 J m w52_4 []))
  else
  (bif (x0==5) then
  (jj J 0 23 0 (s52_12 (bif (decide ((List.length (Dt.L x3 4):Int)<(List.length (Dt.L x2 4):Int))) then(List.length (Dt.L x3 4):Int) else(List.length (Dt.L x2 4):Int)) 0 x2 x3) (e52 J m w52_10 []))
  else
  (jj J 0 33 0 s52_14 (e52 J m [1,1,1] [])))))) (by simp only[jj_eq,qD_j3_eq m,qD_j8_eq m,qD_j14_eq m];rfl)
theorem qD_j1_eq m x0 x1 x2 x3:e52 jn m w52_12 [] (s52_1 x0 x1 x2 x3)=qD_j1 m (qD m) x0 x1 x2 x3:=
 tq (g:=fun J=>(bif x1 then
  ((zM m (Dt.I x2 1) (Dt.I x3 1)).bind fun r1=>
  some r1)
   else
  (bif (x0==4) then
  (jj J 0 11 0 (s52_2 x0 (x0==4) x2 x3) (e52 J m w52_11 []))
  else
  (bif (x0==7) then
  (jj J 0 11 0 (s52_2 x0 (x0==7) x2 x3) (e52 J m w52_11 []))
  else
  (jj J 0 11 0 (s52_2 x0 (x0==8) x2 x3) (e52 J m w52_11 [])))))) (by simp only[jj_eq,qD_j2_eq m];rfl)
theorem qD_j0_eq m x0 x1:e52 jn m [1,1] [] (s52_7 x0 x1)=qD_j0 m (qD m) x0 x1:=
 tq (g:=fun J=>(bif ((Dt.I x0 0)==3) then
  (jj J 0 7 0 (s52_1 (Dt.I x0 0) ((Dt.I x0 0)==3) x0 x1) (e52 J m w52_12 []))
   else
  (bif ((Dt.I x0 0)==9) then
  (jj J 0 7 0 (s52_1 (Dt.I x0 0) ((Dt.I x0 0)==9) x0 x1) (e52 J m w52_12 []))
  else
  (jj J 0 7 0 (s52_1 (Dt.I x0 0) ((Dt.I x0 0)==10) x0 x1) (e52 J m w52_12 []))))) (by simp only[jj_eq,qD_j1_eq m];rfl)
theorem qD_eq m a0 a1:e52 jn m [] [] ⟨[(.dat 36 a0),(.dat 36 a1)],[],0⟩=qD (m+1) a0 a1:=
 tq (g:=fun J=>(bif ((Dt.I a0 0) !=(Dt.I a1 0)) then
  ((zM m (Dt.I a0 0) (Dt.I a1 0)).bind fun r0=>
  some r0)
   else
  (jj J 0 3 0 (s52_7 a0 a1) (e52 J m [1,1] [])))) (by simp only[jj_eq,qD_j0_eq m];rfl)
def w36_2:List Nat:=[1,0,1,0,0,1,1]
def w36_0:List Nat:=w36_2++[1]
def w36_1:List Nat:=w36_2++[0,0,1,1,1]
noncomputable def e36 (J:Nat→Nat→Nat→St→Option Int→Option Int) (m:Nat) (p ms:List Nat) (σ:St):=evAt Tryz.prog env (ct m) J (m+1) 51 34 Tryz.f51 d25 p ms σ
noncomputable def l36 (J:Nat→Nat→Nat→St→Option Int→Option Int) (m:Nat) (p ms:List Nat) (M:Nat) (σ:St):=loopAt Tryz.prog env (ct m) J (m+1) 51 34 Tryz.f51 d25 p ms M σ
noncomputable def s36_4 (x0 x1 x2:List Dt) (x3 x4:Int):St:=⟨tsOf [(1,(.dat 23 (.lst x0))),(2,(.dat 23 (.lst x1))),(10,(.dat 22 (.lst x2))),(11,(.dat 3 (.int x3))),(12,(.dat 3 (.int x4)))],[],0⟩
noncomputable def s36_3 (x0 x1:List Dt) (x2:Int) (x3:List Dt) (x4 x5:Int):St:=⟨tsOf [(1,(.dat 23 (.lst x0))),(2,(.dat 23 (.lst x1))),(9,(.dat 3 (.int x2))),(10,(.dat 22 (.lst x3))),(11,(.dat 3 (.int x4))),(12,(.dat 3 (.int x5)))],[],0⟩
noncomputable def s36_5:St:=⟨tsOf [],[],0⟩
abbrev H36_1 (m M1:Nat) (rec1:List Dt→List Dt→List Dt→Int→Int→Option Int):Prop:=∀x0 x1 x2 x3 x4,l36 jn m [1,0,1,0] [] M1 (s36_4 x0 x1 x2 x3 x4)=rec1 x0 x1 x2 x3 x4
theorem zF_j4_eq m M1 rec1 (h1:H36_1 m M1 rec1) x0 x1 x2 x3 x4:e36 jn m w36_0 [M1] (s36_4 x0 x1 x2 x3 x4)=zF_j4 m rec1 x0 x1 x2 x3 x4:=
 tq (g:=fun J=>(jj J 1 2 M1 (s36_4 x0 x1 x2 x3 (IntKind.wrap .i64 (x4+1))) (l36 J m [1,0,1,0] [] M1))) (by simp only[jj_eq,h1];rfl)
theorem zF_j3_eq m M1 rec1 (h1:H36_1 m M1 rec1) x0 x1 x2 x3 x4 x5:e36 jn m w36_1 [M1] (s36_3 x0 x1 x2 x3 x4 x5)=zF_j3 m rec1 x0 x1 x2 x3 x4 x5:=
 tq (g:=fun J=>(bif (x2 !=0) then
  some x2
   else
  (jj J 0 9 0 (s36_4 x0 x1 x3 x4 x5) (e36 J m w36_0 [M1])))) (by simp only[jj_eq,zF_j4_eq m M1 rec1 h1];rfl)
theorem zF_j2_eq m M1 rec1 (h1:H36_1 m M1 rec1) x0 x1 x2 x3 x4:e36 jn m w36_2 [M1] (s36_4 x0 x1 x2 x3 x4)=zF_j2 m rec1 x0 x1 x2 x3 x4:=
 tq (g:=fun J=>((idx x2 x4).bind fun v0=>
  ((idx x0 x4).bind fun v1=>
  ((idx x1 x4).bind fun v2=>
  ((qD m v1 v2).bind fun r3=>
  (bif (Dt.B v0 1) then
  (jj J 0 7 0 (s36_3 x0 x1 (IntKind.wrap .i64 (0-r3)) x2 x3 x4) (e36 J m w36_1 [M1]))
  else
  (jj J 0 7 0 (s36_3 x0 x1 r3 x2 x3 x4) (e36 J m w36_1 [M1])))))))) (by simp only[jj_eq,zF_j3_eq m M1 rec1 h1];rfl)
theorem zF_j5_eq m:e36 jn m [1,1] [] s36_5=zF_j5 m:=
 tq (g:=fun J=>some 0) (by rfl)
theorem zF_l1_eq m:∀M1 x0 x1 x2 x3 x4,l36 jn m [1,0,1,0] [] M1 (s36_4 x0 x1 x2 x3 x4)=zF_l1 m M1 x0 x1 x2 x3 x4
 |0,_,_,_,_,_=>rfl
 | M1+1,x0,x1,x2,x3,x4=>
   tl (g:=fun J=>(bif (decide (x4<x3)) then
  (jj J 0 3 0 (s36_4 x0 x1 x2 x3 x4) (e36 J m w36_2 [M1]))
   else
  (jj J 0 10 0 s36_5 (e36 J m [1,1] [])))) (by simp only[jj_eq,zF_j2_eq m M1 (zF_l1 m M1) (zF_l1_eq m M1),zF_j5_eq m];rfl)
theorem zF_j0_eq m x0 x1 x2 x3 x4:e36 jn m [1,0,1] [] (s36_4 x0 x1 x2 x3 x4)=zF_j0 m x0 x1 x2 x3 x4:=
 tq (g:=fun J=>(jj J 1 2 (Nat.succ m) (s36_4 x0 x1 x2 x3 x4) (l36 J m [1,0,1,0] [] (Nat.succ m)))) (by simp only[jj_eq,zF_l1_eq m];rfl)
theorem zF_eq m a0 a1 a2:e36 jn m [] [] ⟨[(.dat 22 (.lst a0)),(.dat 23 (.lst a1)),(.dat 23 (.lst a2))],[],0⟩=zF (m+1) a0 a1 a2:=
 tq (g:=fun J=>(jj J 0 2 0 (s36_4 a1 a2 a0 (List.length a0:Int) 0) (e36 J m [1,0,1] []))) (by simp only[jj_eq,zF_j0_eq m];rfl)
noncomputable def e35 (J:Nat→Nat→Nat→St→Option (Int×List Dt)→Option (Int×List Dt)) (m:Nat) (p ms:List Nat) (σ:St):=evAt Tryz.prog env (ct m) J (m+1) 50 12 Tryz.f50 d35 p ms σ
theorem i35_eq m a0 a1 a2:e35 jn m [] [] ⟨[(.dat 94 a0),(.dat 94 a1),(.ptr 0 [] 0)],[(.box 22 (.dat 22 (.lst a2)))],1⟩=i35 (m+1) a0 a1 a2:=
 tq (g:=fun J=>((zF m a2 (Dt.L a0 1) (Dt.L a1 1)).bind fun r0=>
  some (r0,a2))) (by rfl)
def w34_3:List Nat:=[1,0,0,1,1]
def w34_4:List Nat:=[1,0,0,1,0,0,1]
def w34_0:List Nat:=w34_4++[0]
def w34_2:List Nat:=w34_0++[0,1]
def w34_1:List Nat:=w34_2++[1]
noncomputable def e34 (J:Nat→Nat→Nat→St→Option (List Dt×List Dt)→Option (List Dt×List Dt)) (m:Nat) (p ms:List Nat) (σ:St):=evAt Tryz.prog env (ct m) J (m+1) 100 53 Tryz.f100 d39 p ms σ
noncomputable def l34 (J:Nat→Nat→Nat→St→Option (List Dt×List Dt)→Option (List Dt×List Dt)) (m:Nat) (p ms:List Nat) (M:Nat) (σ:St):=loopAt Tryz.prog env (ct m) J (m+1) 100 53 Tryz.f100 d39 p ms M σ
noncomputable def s34_6 (x0 x1 x2 x3:Int) (x4 x5:List Dt):St:=⟨tsOf [(0,(.row 0)),(1,(.dat 3 (.int x0))),(2,(.dat 3 (.int x1))),(3,(.fn 50 [(.ptr 1 [] 0)])),(8,(.dat 3 (.int x2))),(9,(.dat 3 (.int x3)))],[(.row 91 x4),(.box 22 (.dat 22 (.lst x5)))],2⟩
noncomputable def s34_7 (x0 x1 x2:Int) (x3 x4:List Dt):St:=⟨tsOf [(0,(.row 0)),(1,(.dat 3 (.int x0))),(2,(.dat 3 (.int x1))),(3,(.fn 50 [(.ptr 1 [] 0)])),(8,(.dat 3 (.int x2)))],[(.row 91 x3),(.box 22 (.dat 22 (.lst x4)))],2⟩
abbrev H34_1 (m M1:Nat) (rec1:Int→Int→Int→List Dt→List Dt→Option (List Dt×List Dt)):Prop:=∀x0 x1 x2 x3 x4,l34 jn m [1,0] [] M1 (s34_7 x0 x1 x2 x3 x4)=rec1 x0 x1 x2 x3 x4
abbrev H34_4 (m M1 M4:Nat) (rec4:Int→Int→Int→Int→List Dt→List Dt→Option (List Dt×List Dt)):Prop:=∀x0 x1 x2 x3 x4 x5,l34 jn m w34_0 [M1] M4 (s34_6 x0 x1 x2 x3 x4 x5)=rec4 x0 x1 x2 x3 x4 x5
theorem i34_j6_eq m M1 rec1 (h1:H34_1 m M1 rec1) M4 rec4 (h4:H34_4 m M1 M4 rec4) x0 x1 x2 x3 x4 x5:e34 jn m w34_1 [M1,M4] (s34_6 x0 x1 x2 x3 x4 x5)=i34_j6 m rec1 rec4 x0 x1 x2 x3 x4 x5:=
 tq (g:=fun J=>(jj J 1 4 M4 (s34_6 x0 x1 x2 (IntKind.wrap .i64 (x3-1)) x4 x5) (l34 J m w34_0 [M1] M4))) (by simp only[jj_eq,h4];rfl)
theorem i34_j5_eq m M1 rec1 (h1:H34_1 m M1 rec1) M4 rec4 (h4:H34_4 m M1 M4 rec4) x0 x1 x2 x3 x4 x5:e34 jn m w34_2 [M1,M4] (s34_6 x0 x1 x2 x3 x4 x5)=i34_j5 m rec1 rec4 x0 x1 x2 x3 x4 x5:=
 tq (g:=fun J=>((inL x4 (IntKind.wrap .i64 (x3-1))).bind fun v5=>
  ((x4[(Int.toNat (IntKind.wrap .i64 (x3-1)))]?).bind fun v6=>
  ((inL x4 x3).bind fun v7=>
  ((x4[(Int.toNat x3)]?).bind fun v8=>
  ((inL x4 x3).bind fun v9=>
  ((x4[(Int.toNat x3)]?).bind fun v10=>
  ((inL (List.set x4 (Int.toNat x3) v6) (IntKind.wrap .i64 (x3-1))).bind fun v11=>
  (((List.set x4 (Int.toNat x3) v6)[(Int.toNat (IntKind.wrap .i64 (x3-1)))]?).bind fun v12=>
  (jj J 0 5 0 (s34_6 x0 x1 x2 x3 (List.set (List.set x4 (Int.toNat x3) v6) (Int.toNat (IntKind.wrap .i64 (x3-1))) v8) x5) (e34 J m w34_1 [M1,M4]))))))))))) (by simp only[jj_eq,i34_j6_eq m M1 rec1 h1 M4 rec4 h4];rfl)
theorem i34_j7_eq m M1 rec1 (h1:H34_1 m M1 rec1) x0 x1 x2 x3 x4:e34 jn m w34_3 [M1] (s34_7 x0 x1 x2 x3 x4)=i34_j7 m rec1 x0 x1 x2 x3 x4:=
 tq (g:=fun J=>(jj J 1 1 M1 (s34_7 x0 x1 (IntKind.wrap .i64 (x2+1)) x3 x4) (l34 J m [1,0] [] M1))) (by simp only[jj_eq,h1];rfl)
theorem i34_l4_eq m M1 rec1 (h1:H34_1 m M1 rec1):∀M4 x0 x1 x2 x3 x4 x5,l34 jn m w34_0 [M1] M4 (s34_6 x0 x1 x2 x3 x4 x5)=i34_l4 m rec1 M4 x0 x1 x2 x3 x4 x5
 |0,_,_,_,_,_,_=>rfl
 | M4+1,x0,x1,x2,x3,x4,x5=>
   tl (g:=fun J=>(bif (decide (x0<x3)) then
  ((inL x4 x3).bind fun v0=>
  ((x4[(Int.toNat x3)]?).bind fun v1=>
  ((inL x4 (IntKind.wrap .i64 (x3-1))).bind fun v2=>
  ((x4[(Int.toNat (IntKind.wrap .i64 (x3-1)))]?).bind fun v3=>
  ((i35 m v1 v3 x5).bind fun r4=>
  (bif (decide (r4.1<0)) then
  (jj J 0 6 0 (s34_6 x0 x1 x2 x3 x4 r4.2) (e34 J m w34_2 [M1,M4]))
  else
  (jj J 0 2 0 (s34_7 x0 x1 x2 x4 r4.2) (e34 J m w34_3 [M1]))))))))
   else
  (jj J 0 2 0 (s34_7 x0 x1 x2 x4 x5) (e34 J m w34_3 [M1])))) (by simp only[jj_eq,i34_j5_eq m M1 rec1 h1 M4 (i34_l4 m rec1 M4) (i34_l4_eq m M1 rec1 h1 M4),i34_j7_eq m M1 rec1 h1];rfl)
theorem i34_j3_eq m M1 rec1 (h1:H34_1 m M1 rec1) x0 x1 x2 x3 x4 x5:e34 jn m w34_4 [M1] (s34_6 x0 x1 x2 x3 x4 x5)=i34_j3 m rec1 x0 x1 x2 x3 x4 x5:=
 tq (g:=fun J=>(jj J 1 4 (Nat.succ m) (s34_6 x0 x1 x2 x3 x4 x5) (l34 J m w34_0 [M1] (Nat.succ m)))) (by simp only[jj_eq,i34_l4_eq m M1 rec1 h1];rfl)
theorem i34_j2_eq m M1 rec1 (h1:H34_1 m M1 rec1) x0 x1 x2 x3 x4:e34 jn m [1,0,0,1] [M1] (s34_7 x0 x1 x2 x3 x4)=i34_j2 m rec1 x0 x1 x2 x3 x4:=
 tq (g:=fun J=>(jj J 0 4 0 (s34_6 x0 x1 x2 x2 x3 x4) (e34 J m w34_4 [M1]))) (by simp only[jj_eq,i34_j3_eq m M1 rec1 h1];rfl)
theorem i34_l1_eq m:∀M1 x0 x1 x2 x3 x4,l34 jn m [1,0] [] M1 (s34_7 x0 x1 x2 x3 x4)=i34_l1 m M1 x0 x1 x2 x3 x4
 |0,_,_,_,_,_=>rfl
 | M1+1,x0,x1,x2,x3,x4=>
   tl (g:=fun J=>(bif (decide (x2<x1)) then
  (jj J 0 3 0 (s34_7 x0 x1 x2 x3 x4) (e34 J m [1,0,0,1] [M1]))
   else
  some (x3,x4))) (by simp only[jj_eq,i34_j2_eq m M1 (i34_l1 m M1) (i34_l1_eq m M1)];rfl)
theorem i34_j0_eq m x0 x1 x2 x3 x4:e34 jn m [1] [] (s34_7 x0 x1 x2 x3 x4)=i34_j0 m x0 x1 x2 x3 x4:=
 tq (g:=fun J=>(jj J 1 1 (Nat.succ m) (s34_7 x0 x1 x2 x3 x4) (l34 J m [1,0] [] (Nat.succ m)))) (by simp only[jj_eq,i34_l1_eq m];rfl)
theorem i34_eq m a0 a1 a2 a3:e34 jn m [] [] ⟨[(.row 0),(.dat 3 (.int a0)),(.dat 3 (.int a1)),(.fn 50 [(.ptr 1 [] 0)])],[(.row 91 a2),(.box 22 (.dat 22 (.lst a3)))],2⟩=i34 (m+1) a0 a1 a2 a3:=
 tq (g:=fun J=>(jj J 0 1 0 (s34_7 a0 a1 (IntKind.wrap .i64 (a0+1)) a2 a3) (e34 J m [1] []))) (by simp only[jj_eq,i34_j0_eq m];rfl)
def w37_7:List Nat:=[0,1,0,1,1]
def w37_6:List Nat:=[0,1,0,1,1,1]
def w37_15:List Nat:=[1,0,1,0,1,1]
def w37_25:List Nat:=[1,1,1,1,1,1]
def w37_0:List Nat:=[0,1,0,1,1,0,0]
def w37_14:List Nat:=w37_15++[1]
def w37_24:List Nat:=w37_25++[1]
def w37_5:List Nat:=w37_6++[0,1]
def w37_8:List Nat:=w37_15++[0,0]
def w37_23:List Nat:=w37_24++[1]
def w37_1:List Nat:=w37_0++[0,1]
def w37_2:List Nat:=w37_5++[0]
def w37_13:List Nat:=w37_14++[0,1]
def w37_16:List Nat:=w37_24++[0,0]
def w37_9:List Nat:=w37_8++[0,1]
def w37_10:List Nat:=w37_13++[0]
def w37_21:List Nat:=w37_23++[1,1]
def w37_4:List Nat:=w37_2++[0,1]
def w37_17:List Nat:=w37_16++[0,1]
def w37_19:List Nat:=w37_21++[1]
def w37_22:List Nat:=w37_23++[1,0,1]
def w37_3:List Nat:=w37_4++[1]
def w37_12:List Nat:=w37_10++[0,1]
def w37_18:List Nat:=w37_19++[1]
def w37_20:List Nat:=w37_21++[0,1]
def w37_11:List Nat:=w37_12++[1]
noncomputable def e37 (J:Nat→Nat→Nat→St→Option (List Dt×List Dt)→Option (List Dt×List Dt)) (m:Nat) (p ms:List Nat) (σ:St):=evAt Tryz.prog env (ct m) J (m+1) 101 220 Tryz.f101 d39 p ms σ
noncomputable def l37 (J:Nat→Nat→Nat→St→Option (List Dt×List Dt)→Option (List Dt×List Dt)) (m:Nat) (p ms:List Nat) (M:Nat) (σ:St):=loopAt Tryz.prog env (ct m) J (m+1) 101 220 Tryz.f101 d39 p ms M σ
noncomputable def s37_2 (x0 x1 x2:Int) (x3 x4:List Dt):St:=⟨tsOf [(0,(.row 0)),(1,(.dat 3 (.int x0))),(4,(.fn 50 [(.ptr 1 [] 0)])),(10,(.dat 3 (.int x1))),(11,(.dat 3 (.int x2)))],[(.row 91 x3),(.box 22 (.dat 22 (.lst x4)))],2⟩
noncomputable def s37_7 (x0 x1:Int) (x2 x3:List Dt):St:=⟨tsOf [(0,(.row 0)),(10,(.dat 3 (.int x0))),(13,(.dat 3 (.int x1)))],[(.row 91 x2),(.box 22 (.dat 22 (.lst x3)))],2⟩
noncomputable def s37_3 (x0 x1:Int) (x2 x3:List Dt):St:=⟨tsOf [(0,(.row 0)),(1,(.dat 3 (.int x0))),(10,(.dat 3 (.int x1)))],[(.row 91 x2),(.box 22 (.dat 22 (.lst x3)))],2⟩
noncomputable def s37_11 (x0 x1 x2:Int) (x3 x4:List Dt):St:=⟨tsOf [(0,(.row 0)),(2,(.dat 3 (.int x0))),(4,(.fn 50 [(.ptr 1 [] 0)])),(14,(.dat 3 (.int x1))),(15,(.dat 3 (.int x2)))],[(.row 91 x3),(.box 22 (.dat 22 (.lst x4)))],2⟩
noncomputable def s37_16 (x0 x1:Int) (x2 x3:List Dt):St:=⟨tsOf [(0,(.row 0)),(14,(.dat 3 (.int x0))),(17,(.dat 3 (.int x1)))],[(.row 91 x2),(.box 22 (.dat 22 (.lst x3)))],2⟩
noncomputable def s37_12 (x0 x1:Int) (x2 x3:List Dt):St:=⟨tsOf [(0,(.row 0)),(2,(.dat 3 (.int x0))),(14,(.dat 3 (.int x1)))],[(.row 91 x2),(.box 22 (.dat 22 (.lst x3)))],2⟩
noncomputable def s37_21 (x0 x1 x2 x3 x4 x5 x6 x7:Int) (x8 x9:List Dt):St:=⟨tsOf [(0,(.row 0)),(1,(.dat 3 (.int x0))),(2,(.dat 3 (.int x1))),(3,(.dat 3 (.int x2))),(4,(.fn 50 [(.ptr 1 [] 0)])),(18,(.dat 3 (.int x3))),(19,(.dat 3 (.int x4))),(20,(.dat 3 (.int x5))),(21,(.dat 3 (.int x6))),(22,(.dat 3 (.int x7)))],[(.row 91 x8),(.box 22 (.dat 22 (.lst x9)))],2⟩
noncomputable def s37_27 (x0 x1 x2:Int) (x3:Bool) (x4 x5:List Dt):St:=⟨tsOf [(0,(.row 0)),(3,(.dat 3 (.int x0))),(4,(.fn 50 [(.ptr 1 [] 0)])),(18,(.dat 3 (.int x1))),(24,(.dat 3 (.int x2))),(213,(.dat 4 (.bool x3)))],[(.row 91 x4),(.box 22 (.dat 22 (.lst x5)))],2⟩
noncomputable def s37_26 (x0 x1 x2:Int) (x3 x4:List Dt):St:=⟨tsOf [(0,(.row 0)),(3,(.dat 3 (.int x0))),(4,(.fn 50 [(.ptr 1 [] 0)])),(18,(.dat 3 (.int x1))),(24,(.dat 3 (.int x2)))],[(.row 91 x3),(.box 22 (.dat 22 (.lst x4)))],2⟩
noncomputable def s37_25 (x0 x1 x2 x3 x4:Int) (x5:Bool) (x6 x7:List Dt):St:=⟨tsOf [(0,(.row 0)),(1,(.dat 3 (.int x0))),(3,(.dat 3 (.int x1))),(4,(.fn 50 [(.ptr 1 [] 0)])),(18,(.dat 3 (.int x2))),(20,(.dat 3 (.int x3))),(24,(.dat 3 (.int x4))),(199,(.dat 4 (.bool x5)))],[(.row 91 x6),(.box 22 (.dat 22 (.lst x7)))],2⟩
noncomputable def s37_24 (x0 x1 x2 x3 x4:Int) (x5 x6:List Dt):St:=⟨tsOf [(0,(.row 0)),(1,(.dat 3 (.int x0))),(3,(.dat 3 (.int x1))),(4,(.fn 50 [(.ptr 1 [] 0)])),(18,(.dat 3 (.int x2))),(20,(.dat 3 (.int x3))),(24,(.dat 3 (.int x4)))],[(.row 91 x5),(.box 22 (.dat 22 (.lst x6)))],2⟩
noncomputable def s37_23 (x0 x1 x2 x3 x4 x5:Int) (x6:Bool) (x7 x8:List Dt):St:=⟨tsOf [(0,(.row 0)),(1,(.dat 3 (.int x0))),(2,(.dat 3 (.int x1))),(3,(.dat 3 (.int x2))),(4,(.fn 50 [(.ptr 1 [] 0)])),(18,(.dat 3 (.int x3))),(20,(.dat 3 (.int x4))),(24,(.dat 3 (.int x5))),(185,(.dat 4 (.bool x6)))],[(.row 91 x7),(.box 22 (.dat 22 (.lst x8)))],2⟩
noncomputable def s37_22 (x0 x1 x2 x3 x4 x5:Int) (x6 x7:List Dt):St:=⟨tsOf [(0,(.row 0)),(1,(.dat 3 (.int x0))),(2,(.dat 3 (.int x1))),(3,(.dat 3 (.int x2))),(4,(.fn 50 [(.ptr 1 [] 0)])),(18,(.dat 3 (.int x3))),(19,(.dat 3 (.int x4))),(20,(.dat 3 (.int x5)))],[(.row 91 x6),(.box 22 (.dat 22 (.lst x7)))],2⟩
noncomputable def s37_18 (x0 x1 x2 x3 x4 x5 x6:Int) (x7 x8:List Dt):St:=⟨tsOf [(0,(.row 0)),(1,(.dat 3 (.int x0))),(2,(.dat 3 (.int x1))),(3,(.dat 3 (.int x2))),(4,(.fn 50 [(.ptr 1 [] 0)])),(18,(.dat 3 (.int x3))),(19,(.dat 3 (.int x4))),(20,(.dat 3 (.int x5))),(21,(.dat 3 (.int x6)))],[(.row 91 x7),(.box 22 (.dat 22 (.lst x8)))],2⟩
noncomputable def s37_17 (x0 x1 x2:Int) (x3 x4:List Dt):St:=⟨tsOf [(0,(.row 0)),(1,(.dat 3 (.int x0))),(2,(.dat 3 (.int x1))),(3,(.dat 3 (.int x2))),(4,(.fn 50 [(.ptr 1 [] 0)]))],[(.row 91 x3),(.box 22 (.dat 22 (.lst x4)))],2⟩
abbrev H37_1 (m M1:Nat) (rec1:Int→Int→Int→List Dt→List Dt→Option (List Dt×List Dt)):Prop:=∀x0 x1 x2 x3 x4,l37 jn m w37_0 [] M1 (s37_2 x0 x1 x2 x3 x4)=rec1 x0 x1 x2 x3 x4
theorem i37_j2_eq m M1 rec1 (h1:H37_1 m M1 rec1) x0 x1 x2 x3 x4:e37 jn m w37_1 [M1] (s37_2 x0 x1 x2 x3 x4)=i37_j2 m (i37 m) rec1 x0 x1 x2 x3 x4:=
 tq (g:=fun J=>((inL x3 (IntKind.wrap .i64 (shrI IntKind.u64 (IntKind.wrap IntKind.u64 (IntKind.wrap .i64 (x1+x2))) 1))).bind fun v0=>
  ((x3[(Int.toNat (IntKind.wrap .i64 (shrI IntKind.u64 (IntKind.wrap IntKind.u64 (IntKind.wrap .i64 (x1+x2))) 1)))]?).bind fun v1=>
  ((inL x3 x0).bind fun v2=>
  ((x3[(Int.toNat x0)]?).bind fun v3=>
  ((i35 m v1 v3 x4).bind fun r4=>
  (bif (decide (r4.1<0)) then
  (jj J 1 3 M1 (s37_2 x0 (IntKind.wrap .i64 ((IntKind.wrap .i64 (shrI IntKind.u64 (IntKind.wrap IntKind.u64 (IntKind.wrap .i64 (x1+x2))) 1))+1)) x2 x3 r4.2) (l37 J m w37_0 [] M1))
  else
  (jj J 1 3 M1 (s37_2 x0 x1 (IntKind.wrap .i64 (shrI IntKind.u64 (IntKind.wrap IntKind.u64 (IntKind.wrap .i64 (x1+x2))) 1)) x3 r4.2) (l37 J m w37_0 [] M1))))))))) (by simp only[jj_eq,h1];rfl)
abbrev H37_5 (m M5:Nat) (rec5:Int→Int→List Dt→List Dt→Option (List Dt×List Dt)):Prop:=∀x0 x1 x2 x3,l37 jn m w37_2 [] M5 (s37_7 x0 x1 x2 x3)=rec5 x0 x1 x2 x3
theorem i37_j7_eq m M5 rec5 (h5:H37_5 m M5 rec5) x0 x1 x2 x3:e37 jn m w37_3 [M5] (s37_7 x0 x1 x2 x3)=i37_j7 m (i37 m) rec5 x0 x1 x2 x3:=
 tq (g:=fun J=>(jj J 1 9 M5 (s37_7 x0 (IntKind.wrap .i64 (x1+1)) x2 x3) (l37 J m w37_2 [] M5))) (by simp only[jj_eq,h5];rfl)
theorem i37_j6_eq m M5 rec5 (h5:H37_5 m M5 rec5) x0 x1 x2 x3:e37 jn m w37_4 [M5] (s37_7 x0 x1 x2 x3)=i37_j6 m (i37 m) rec5 x0 x1 x2 x3:=
 tq (g:=fun J=>((inL x2 (IntKind.wrap .i64 (x1+1))).bind fun v5=>
  ((x2[(Int.toNat (IntKind.wrap .i64 (x1+1)))]?).bind fun v6=>
  ((inL x2 x1).bind fun v7=>
  ((x2[(Int.toNat x1)]?).bind fun v8=>
  ((inL x2 x1).bind fun v9=>
  ((x2[(Int.toNat x1)]?).bind fun v10=>
  ((inL (List.set x2 (Int.toNat x1) v6) (IntKind.wrap .i64 (x1+1))).bind fun v11=>
  (((List.set x2 (Int.toNat x1) v6)[(Int.toNat (IntKind.wrap .i64 (x1+1)))]?).bind fun v12=>
  (jj J 0 10 0 (s37_7 x0 x1 (List.set (List.set x2 (Int.toNat x1) v6) (Int.toNat (IntKind.wrap .i64 (x1+1))) v8) x3) (e37 J m w37_3 [M5]))))))))))) (by simp only[jj_eq,i37_j7_eq m M5 rec5 h5];rfl)
theorem i37_l5_eq m:∀M5 x0 x1 x2 x3,l37 jn m w37_2 [] M5 (s37_7 x0 x1 x2 x3)=i37_l5 m (i37 m) M5 x0 x1 x2 x3
 |0,_,_,_,_=>rfl
 | M5+1,x0,x1,x2,x3=>
   tl (g:=fun J=>(bif (decide (x1<(IntKind.wrap .i64 (x0-1)))) then
  (jj J 0 11 0 (s37_7 x0 x1 x2 x3) (e37 J m w37_4 [M5]))
   else
  some (x2,x3))) (by simp only[jj_eq,i37_j6_eq m M5 (i37_l5 m (i37 m) M5) (i37_l5_eq m M5)];rfl)
theorem i37_j4_eq m x0 x1 x2 x3:e37 jn m w37_5 [] (s37_7 x0 x1 x2 x3)=i37_j4 m (i37 m) x0 x1 x2 x3:=
 tq (g:=fun J=>(jj J 1 9 (Nat.succ m) (s37_7 x0 x1 x2 x3) (l37 J m w37_2 [] (Nat.succ m)))) (by simp only[jj_eq,i37_l5_eq m];rfl)
theorem i37_j3_eq m x0 x1 x2 x3:e37 jn m w37_6 [] (s37_3 x0 x1 x2 x3)=i37_j3 m (i37 m) x0 x1 x2 x3:=
 tq (g:=fun J=>(jj J 0 9 0 (s37_7 x1 x0 x2 x3) (e37 J m w37_5 []))) (by simp only[jj_eq,i37_j4_eq m];rfl)
theorem i37_l1_eq m:∀M1 x0 x1 x2 x3 x4,l37 jn m w37_0 [] M1 (s37_2 x0 x1 x2 x3 x4)=i37_l1 m (i37 m) M1 x0 x1 x2 x3 x4
 |0,_,_,_,_,_=>rfl
 | M1+1,x0,x1,x2,x3,x4=>
   tl (g:=fun J=>(bif (decide (x1<x2)) then
  (jj J 0 4 0 (s37_2 x0 x1 x2 x3 x4) (e37 J m w37_1 [M1]))
   else
  (jj J 0 8 0 (s37_3 x0 x1 x3 x4) (e37 J m w37_6 [])))) (by simp only[jj_eq,i37_j2_eq m M1 (i37_l1 m (i37 m) M1) (i37_l1_eq m M1),i37_j3_eq m];rfl)
theorem i37_j0_eq m x0 x1 x2 x3 x4:e37 jn m w37_7 [] (s37_2 x0 x1 x2 x3 x4)=i37_j0 m (i37 m) x0 x1 x2 x3 x4:=
 tq (g:=fun J=>(jj J 1 3 (Nat.succ m) (s37_2 x0 x1 x2 x3 x4) (l37 J m w37_0 [] (Nat.succ m)))) (by simp only[jj_eq,i37_l1_eq m];rfl)
abbrev H37_10 (m M10:Nat) (rec10:Int→Int→Int→List Dt→List Dt→Option (List Dt×List Dt)):Prop:=∀x0 x1 x2 x3 x4,l37 jn m w37_8 [] M10 (s37_11 x0 x1 x2 x3 x4)=rec10 x0 x1 x2 x3 x4
theorem i37_j11_eq m M10 rec10 (h10:H37_10 m M10 rec10) x0 x1 x2 x3 x4:e37 jn m w37_9 [M10] (s37_11 x0 x1 x2 x3 x4)=i37_j11 m (i37 m) rec10 x0 x1 x2 x3 x4:=
 tq (g:=fun J=>((inL x3 x0).bind fun v13=>
  ((x3[(Int.toNat x0)]?).bind fun v14=>
  ((inL x3 (IntKind.wrap .i64 (shrI IntKind.u64 (IntKind.wrap IntKind.u64 (IntKind.wrap .i64 (x1+x2))) 1))).bind fun v15=>
  ((x3[(Int.toNat (IntKind.wrap .i64 (shrI IntKind.u64 (IntKind.wrap IntKind.u64 (IntKind.wrap .i64 (x1+x2))) 1)))]?).bind fun v16=>
  ((i35 m v14 v16 x4).bind fun r17=>
  (bif (Bool.not (decide (r17.1<0))) then
  (jj J 1 15 M10 (s37_11 x0 (IntKind.wrap .i64 ((IntKind.wrap .i64 (shrI IntKind.u64 (IntKind.wrap IntKind.u64 (IntKind.wrap .i64 (x1+x2))) 1))+1)) x2 x3 r17.2) (l37 J m w37_8 [] M10))
  else
  (jj J 1 15 M10 (s37_11 x0 x1 (IntKind.wrap .i64 (shrI IntKind.u64 (IntKind.wrap IntKind.u64 (IntKind.wrap .i64 (x1+x2))) 1)) x3 r17.2) (l37 J m w37_8 [] M10))))))))) (by simp only[jj_eq,h10];rfl)
abbrev H37_14 (m M14:Nat) (rec14:Int→Int→List Dt→List Dt→Option (List Dt×List Dt)):Prop:=∀x0 x1 x2 x3,l37 jn m w37_10 [] M14 (s37_16 x0 x1 x2 x3)=rec14 x0 x1 x2 x3
theorem i37_j16_eq m M14 rec14 (h14:H37_14 m M14 rec14) x0 x1 x2 x3:e37 jn m w37_11 [M14] (s37_16 x0 x1 x2 x3)=i37_j16 m (i37 m) rec14 x0 x1 x2 x3:=
 tq (g:=fun J=>(jj J 1 21 M14 (s37_16 x0 (IntKind.wrap .i64 (x1-1)) x2 x3) (l37 J m w37_10 [] M14))) (by simp only[jj_eq,h14];rfl)
theorem i37_j15_eq m M14 rec14 (h14:H37_14 m M14 rec14) x0 x1 x2 x3:e37 jn m w37_12 [M14] (s37_16 x0 x1 x2 x3)=i37_j15 m (i37 m) rec14 x0 x1 x2 x3:=
 tq (g:=fun J=>((inL x2 (IntKind.wrap .i64 (x1-1))).bind fun v18=>
  ((x2[(Int.toNat (IntKind.wrap .i64 (x1-1)))]?).bind fun v19=>
  ((inL x2 x1).bind fun v20=>
  ((x2[(Int.toNat x1)]?).bind fun v21=>
  ((inL x2 x1).bind fun v22=>
  ((x2[(Int.toNat x1)]?).bind fun v23=>
  ((inL (List.set x2 (Int.toNat x1) v19) (IntKind.wrap .i64 (x1-1))).bind fun v24=>
  (((List.set x2 (Int.toNat x1) v19)[(Int.toNat (IntKind.wrap .i64 (x1-1)))]?).bind fun v25=>
  (jj J 0 22 0 (s37_16 x0 x1 (List.set (List.set x2 (Int.toNat x1) v19) (Int.toNat (IntKind.wrap .i64 (x1-1))) v21) x3) (e37 J m w37_11 [M14]))))))))))) (by simp only[jj_eq,i37_j16_eq m M14 rec14 h14];rfl)
theorem i37_l14_eq m:∀M14 x0 x1 x2 x3,l37 jn m w37_10 [] M14 (s37_16 x0 x1 x2 x3)=i37_l14 m (i37 m) M14 x0 x1 x2 x3
 |0,_,_,_,_=>rfl
 | M14+1,x0,x1,x2,x3=>
   tl (g:=fun J=>(bif (decide (x0<x1)) then
  (jj J 0 23 0 (s37_16 x0 x1 x2 x3) (e37 J m w37_12 [M14]))
   else
  some (x2,x3))) (by simp only[jj_eq,i37_j15_eq m M14 (i37_l14 m (i37 m) M14) (i37_l14_eq m M14)];rfl)
theorem i37_j13_eq m x0 x1 x2 x3:e37 jn m w37_13 [] (s37_16 x0 x1 x2 x3)=i37_j13 m (i37 m) x0 x1 x2 x3:=
 tq (g:=fun J=>(jj J 1 21 (Nat.succ m) (s37_16 x0 x1 x2 x3) (l37 J m w37_10 [] (Nat.succ m)))) (by simp only[jj_eq,i37_l14_eq m];rfl)
theorem i37_j12_eq m x0 x1 x2 x3:e37 jn m w37_14 [] (s37_12 x0 x1 x2 x3)=i37_j12 m (i37 m) x0 x1 x2 x3:=
 tq (g:=fun J=>(jj J 0 21 0 (s37_16 x1 x0 x2 x3) (e37 J m w37_13 []))) (by simp only[jj_eq,i37_j13_eq m];rfl)
theorem i37_l10_eq m:∀M10 x0 x1 x2 x3 x4,l37 jn m w37_8 [] M10 (s37_11 x0 x1 x2 x3 x4)=i37_l10 m (i37 m) M10 x0 x1 x2 x3 x4
 |0,_,_,_,_,_=>rfl
 | M10+1,x0,x1,x2,x3,x4=>
   tl (g:=fun J=>(bif (decide (x1<x2)) then
  (jj J 0 16 0 (s37_11 x0 x1 x2 x3 x4) (e37 J m w37_9 [M10]))
   else
  (jj J 0 20 0 (s37_12 x0 x1 x3 x4) (e37 J m w37_14 [])))) (by simp only[jj_eq,i37_j11_eq m M10 (i37_l10 m (i37 m) M10) (i37_l10_eq m M10),i37_j12_eq m];rfl)
theorem i37_j9_eq m x0 x1 x2 x3 x4:e37 jn m w37_15 [] (s37_11 x0 x1 x2 x3 x4)=i37_j9 m (i37 m) x0 x1 x2 x3 x4:=
 tq (g:=fun J=>(jj J 1 15 (Nat.succ m) (s37_11 x0 x1 x2 x3 x4) (l37 J m w37_8 [] (Nat.succ m)))) (by simp only[jj_eq,i37_l10_eq m];rfl)
abbrev H37_20 (m M20:Nat) (rec20:Int→Int→Int→Int→Int→Int→Int→Int→List Dt→List Dt→Option (List Dt×List Dt)):Prop:=∀x0 x1 x2 x3 x4 x5 x6 x7 x8 x9,l37 jn m w37_16 [] M20 (s37_21 x0 x1 x2 x3 x4 x5 x6 x7 x8 x9)=rec20 x0 x1 x2 x3 x4 x5 x6 x7 x8 x9
theorem i37_j21_eq m M20 rec20 (h20:H37_20 m M20 rec20) x0 x1 x2 x3 x4 x5 x6 x7 x8 x9:e37 jn m w37_17 [M20] (s37_21 x0 x1 x2 x3 x4 x5 x6 x7 x8 x9)=i37_j21 m (i37 m) rec20 x0 x1 x2 x3 x4 x5 x6 x7 x8 x9:=
 tq (g:=fun J=>((inL x8 (IntKind.wrap .i64 (x7-(IntKind.wrap .i64 (shrI IntKind.u64 (IntKind.wrap IntKind.u64 (IntKind.wrap .i64 (x5+x6))) 1))))).bind fun v26=>
  ((x8[(Int.toNat (IntKind.wrap .i64 (x7-(IntKind.wrap .i64 (shrI IntKind.u64 (IntKind.wrap IntKind.u64 (IntKind.wrap .i64 (x5+x6))) 1)))))]?).bind fun v27=>
  ((inL x8 (IntKind.wrap .i64 (shrI IntKind.u64 (IntKind.wrap IntKind.u64 (IntKind.wrap .i64 (x5+x6))) 1))).bind fun v28=>
  ((x8[(Int.toNat (IntKind.wrap .i64 (shrI IntKind.u64 (IntKind.wrap IntKind.u64 (IntKind.wrap .i64 (x5+x6))) 1)))]?).bind fun v29=>
  ((i35 m v27 v29 x9).bind fun r30=>
  (bif (Bool.not (decide (r30.1<0))) then
  (jj J 1 33 M20 (s37_21 x0 x1 x2 x3 x4 (IntKind.wrap .i64 ((IntKind.wrap .i64 (shrI IntKind.u64 (IntKind.wrap IntKind.u64 (IntKind.wrap .i64 (x5+x6))) 1))+1)) x6 x7 x8 r30.2) (l37 J m w37_16 [] M20))
  else
  (jj J 1 33 M20 (s37_21 x0 x1 x2 x3 x4 x5 (IntKind.wrap .i64 (shrI IntKind.u64 (IntKind.wrap IntKind.u64 (IntKind.wrap .i64 (x5+x6))) 1)) x7 x8 r30.2) (l37 J m w37_16 [] M20))))))))) (by simp only[jj_eq,h20];rfl)
theorem i37_j27_eq m x0 x1 x2 x3 x4 x5:e37 jn m w37_18 [] (s37_27 x0 x1 x2 x3 x4 x5)=i37_j27 m (i37 m) x0 x1 x2 x3 x4 x5:=
 tq (g:=fun J=>(bif x3 then
  ((i37 m x1 x2 x0 x4 x5).bind fun r33=>
  some (r33.1,r33.2))
   else
  some (x4,x5))) (by rfl)
theorem i37_j26_eq m x0 x1 x2 x3 x4:e37 jn m w37_19 [] (s37_26 x0 x1 x2 x3 x4)=i37_j26 m (i37 m) x0 x1 x2 x3 x4:=
 tq (g:=fun J=>(bif (decide (x1<x2)) then
  (jj J 0 44 0 (s37_27 x0 x1 x2 (decide (x2<x0)) x3 x4) (e37 J m w37_18 []))
   else
  (jj J 0 44 0 (s37_27 x0 x1 x2 false x3 x4) (e37 J m w37_18 [])))) (by simp only[jj_eq,i37_j27_eq m];rfl)
theorem i37_j25_eq m x0 x1 x2 x3 x4 x5 x6 x7:e37 jn m w37_20 [] (s37_25 x0 x1 x2 x3 x4 x5 x6 x7)=i37_j25 m (i37 m) x0 x1 x2 x3 x4 x5 x6 x7:=
 tq (g:=fun J=>(bif x5 then
  ((i37 m x0 x3 x2 x6 x7).bind fun r32=>
  (jj J 0 43 0 (s37_26 x1 x2 x4 r32.1 r32.2) (e37 J m w37_19 [])))
   else
  (jj J 0 43 0 (s37_26 x1 x2 x4 x6 x7) (e37 J m w37_19 [])))) (by simp only[jj_eq,i37_j26_eq m];rfl)
theorem i37_j24_eq m x0 x1 x2 x3 x4 x5 x6:e37 jn m w37_21 [] (s37_24 x0 x1 x2 x3 x4 x5 x6)=i37_j24 m (i37 m) x0 x1 x2 x3 x4 x5 x6:=
 tq (g:=fun J=>(bif (decide (x0<x3)) then
  (jj J 0 42 0 (s37_25 x0 x1 x2 x3 x4 (decide (x3<x2)) x5 x6) (e37 J m w37_20 []))
   else
  (jj J 0 42 0 (s37_25 x0 x1 x2 x3 x4 false x5 x6) (e37 J m w37_20 [])))) (by simp only[jj_eq,i37_j25_eq m];rfl)
theorem i37_j23_eq m x0 x1 x2 x3 x4 x5 x6 x7 x8:e37 jn m w37_22 [] (s37_23 x0 x1 x2 x3 x4 x5 x6 x7 x8)=i37_j23 m (i37 m) x0 x1 x2 x3 x4 x5 x6 x7 x8:=
 tq (g:=fun J=>(bif x6 then
  ((i38 m x4 x1 x5 x7 x8).bind fun r31=>
  (jj J 0 41 0 (s37_24 x0 x2 x3 x4 x5 r31.1 r31.2) (e37 J m w37_21 [])))
   else
  (jj J 0 41 0 (s37_24 x0 x2 x3 x4 x5 x7 x8) (e37 J m w37_21 [])))) (by simp only[jj_eq,i37_j24_eq m];rfl)
theorem i37_j22_eq m x0 x1 x2 x3 x4 x5 x6 x7:e37 jn m w37_23 [] (s37_22 x0 x1 x2 x3 x4 x5 x6 x7)=i37_j22 m (i37 m) x0 x1 x2 x3 x4 x5 x6 x7:=
 tq (g:=fun J=>(bif (decide (x5<x1)) then
  (jj J 0 40 0 (s37_23 x0 x1 x2 x3 x5 (IntKind.wrap .i64 (x4-x5)) (decide (x1<(IntKind.wrap .i64 (x4-x5)))) x6 x7) (e37 J m w37_22 []))
   else
  (jj J 0 40 0 (s37_23 x0 x1 x2 x3 x5 (IntKind.wrap .i64 (x4-x5)) false x6 x7) (e37 J m w37_22 [])))) (by simp only[jj_eq,i37_j23_eq m];rfl)
theorem i37_l20_eq m:∀M20 x0 x1 x2 x3 x4 x5 x6 x7 x8 x9,l37 jn m w37_16 [] M20 (s37_21 x0 x1 x2 x3 x4 x5 x6 x7 x8 x9)=i37_l20 m (i37 m) M20 x0 x1 x2 x3 x4 x5 x6 x7 x8 x9
 |0,_,_,_,_,_,_,_,_,_,_=>rfl
 | M20+1,x0,x1,x2,x3,x4,x5,x6,x7,x8,x9=>
   tl (g:=fun J=>(bif (decide (x5<x6)) then
  (jj J 0 34 0 (s37_21 x0 x1 x2 x3 x4 x5 x6 x7 x8 x9) (e37 J m w37_17 [M20]))
   else
  (jj J 0 38 0 (s37_22 x0 x1 x2 x3 x4 x5 x8 x9) (e37 J m w37_23 [])))) (by simp only[jj_eq,i37_j21_eq m M20 (i37_l20 m (i37 m) M20) (i37_l20_eq m M20),i37_j22_eq m];rfl)
theorem i37_j19_eq m x0 x1 x2 x3 x4 x5 x6 x7 x8 x9:e37 jn m w37_24 [] (s37_21 x0 x1 x2 x3 x4 x5 x6 x7 x8 x9)=i37_j19 m (i37 m) x0 x1 x2 x3 x4 x5 x6 x7 x8 x9:=
 tq (g:=fun J=>(jj J 1 33 (Nat.succ m) (s37_21 x0 x1 x2 x3 x4 x5 x6 x7 x8 x9) (l37 J m w37_16 [] (Nat.succ m)))) (by simp only[jj_eq,i37_l20_eq m];rfl)
theorem i37_j18_eq m x0 x1 x2 x3 x4 x5 x6 x7 x8:e37 jn m w37_25 [] (s37_18 x0 x1 x2 x3 x4 x5 x6 x7 x8)=i37_j18 m (i37 m) x0 x1 x2 x3 x4 x5 x6 x7 x8:=
 tq (g:=fun J=>(jj J 0 33 0 (s37_21 x0 x1 x2 x3 x4 x5 x6 (IntKind.wrap .i64 (x4-1)) x7 x8) (e37 J m w37_24 []))) (by simp only[jj_eq,i37_j19_eq m];rfl)
theorem i37_j17_eq m x0 x1 x2 x3 x4:e37 jn m [1,1] [] (s37_17 x0 x1 x2 x3 x4)=i37_j17 m (i37 m) x0 x1 x2 x3 x4:=
 tq (g:=fun J=>(bif (decide ((IntKind.wrap .i64 (shrI IntKind.u64 (IntKind.wrap IntKind.u64 (IntKind.wrap .i64 (x0+x2))) 1))<x1)) then
  (jj J 0 32 0 (s37_18 x0 x1 x2 (IntKind.wrap .i64 (shrI IntKind.u64 (IntKind.wrap IntKind.u64 (IntKind.wrap .i64 (x0+x2))) 1)) (IntKind.wrap .i64 ((IntKind.wrap .i64 (shrI IntKind.u64 (IntKind.wrap IntKind.u64 (IntKind.wrap .i64 (x0+x2))) 1))+x1)) (IntKind.wrap .i64 ((IntKind.wrap .i64 ((IntKind.wrap .i64 (shrI IntKind.u64 (IntKind.wrap IntKind.u64 (IntKind.wrap .i64 (x0+x2))) 1))+x1))-x2)) (IntKind.wrap .i64 (shrI IntKind.u64 (IntKind.wrap IntKind.u64 (IntKind.wrap .i64 (x0+x2))) 1)) x3 x4) (e37 J m w37_25 []))
   else
  (jj J 0 32 0 (s37_18 x0 x1 x2 (IntKind.wrap .i64 (shrI IntKind.u64 (IntKind.wrap IntKind.u64 (IntKind.wrap .i64 (x0+x2))) 1)) (IntKind.wrap .i64 ((IntKind.wrap .i64 (shrI IntKind.u64 (IntKind.wrap IntKind.u64 (IntKind.wrap .i64 (x0+x2))) 1))+x1)) x0 x1 x3 x4) (e37 J m w37_25 [])))) (by simp only[jj_eq,i37_j18_eq m];rfl)
theorem i37_j8_eq m x0 x1 x2 x3 x4:e37 jn m [1] [] (s37_17 x0 x1 x2 x3 x4)=i37_j8 m (i37 m) x0 x1 x2 x3 x4:=
 tq (g:=fun J=>(bif ((IntKind.wrap .i64 (x2-x1))==1) then
  (jj J 0 15 0 (s37_11 x1 x0 x1 x3 x4) (e37 J m w37_15 []))
   else
  (jj J 0 24 0 (s37_17 x0 x1 x2 x3 x4) (e37 J m [1,1] [])))) (by simp only[jj_eq,i37_j9_eq m,i37_j17_eq m];rfl)
theorem i37_eq m a0 a1 a2 a3 a4:e37 jn m [] [] ⟨[(.row 0),(.dat 3 (.int a0)),(.dat 3 (.int a1)),(.dat 3 (.int a2)),(.fn 50 [(.ptr 1 [] 0)])],[(.row 91 a3),(.box 22 (.dat 22 (.lst a4)))],2⟩=i37 (m+1) a0 a1 a2 a3 a4:=
 tq (g:=fun J=>(bif ((IntKind.wrap .i64 (a1-a0))==1) then
  (jj J 0 3 0 (s37_2 a0 a1 a2 a3 a4) (e37 J m w37_7 []))
   else
  (jj J 0 12 0 (s37_17 a0 a1 a2 a3 a4) (e37 J m [1] [])))) (by simp only[jj_eq,i37_j0_eq m,i37_j8_eq m];rfl)
def w33_1:List Nat:=[1,1,1,1,0]
def w33_0:List Nat:=[1,1,0,0,0,1]
def w33_7:List Nat:=[1,1,1,1,0,0,1]
def w33_6:List Nat:=w33_7++[0,1]
def w33_5:List Nat:=w33_6++[1]
def w33_2:List Nat:=w33_6++[0,0]
def w33_4:List Nat:=w33_5++[1]
def w33_3:List Nat:=w33_2++[0,1]
noncomputable def e33 (J:Nat→Nat→Nat→St→Option (List Dt×List Dt)→Option (List Dt×List Dt)) (m:Nat) (p ms:List Nat) (σ:St):=evAt Tryz.prog env (ct m) J (m+1) 80 63 Tryz.f80 d39 p ms σ
noncomputable def l33 (J:Nat→Nat→Nat→St→Option (List Dt×List Dt)→Option (List Dt×List Dt)) (m:Nat) (p ms:List Nat) (M:Nat) (σ:St):=loopAt Tryz.prog env (ct m) J (m+1) 80 63 Tryz.f80 d39 p ms M σ
noncomputable def s33_2 (x0 x1 x2 x3:Int) (x4 x5:List Dt):St:=⟨tsOf [(0,(.row 0)),(1,(.dat 3 (.int x0))),(2,(.fn 50 [(.ptr 1 [] 0)])),(6,(.dat 3 (.int x1))),(7,(.dat 3 (.int x2))),(8,(.dat 3 (.int x3)))],[(.row 91 x4),(.box 22 (.dat 22 (.lst x5)))],2⟩
noncomputable def s33_11 (x0 x1:Int) (x2 x3:List Dt):St:=⟨tsOf [(0,(.row 0)),(1,(.dat 3 (.int x0))),(2,(.fn 50 [(.ptr 1 [] 0)])),(6,(.dat 3 (.int x1)))],[(.row 91 x2),(.box 22 (.dat 22 (.lst x3)))],2⟩
noncomputable def s33_10 (x0 x1 x2:Int) (x3 x4:List Dt):St:=⟨tsOf [(0,(.row 0)),(1,(.dat 3 (.int x0))),(2,(.fn 50 [(.ptr 1 [] 0)])),(6,(.dat 3 (.int x1))),(7,(.dat 3 (.int x2)))],[(.row 91 x3),(.box 22 (.dat 22 (.lst x4)))],2⟩
abbrev H33_1 (m M1:Nat) (rec1:Int→Int→Int→Int→List Dt→List Dt→Option (List Dt×List Dt)):Prop:=∀x0 x1 x2 x3 x4 x5,l33 jn m [1,1,0,0] [] M1 (s33_2 x0 x1 x2 x3 x4 x5)=rec1 x0 x1 x2 x3 x4 x5
theorem i33_j2_eq m M1 rec1 (h1:H33_1 m M1 rec1) x0 x1 x2 x3 x4 x5:e33 jn m w33_0 [M1] (s33_2 x0 x1 x2 x3 x4 x5)=i33_j2 m rec1 x0 x1 x2 x3 x4 x5:=
 tq (g:=fun J=>((i34 m x2 x3 x4 x5).bind fun r0=>
  (jj J 1 2 M1 (s33_2 x0 x1 x3 (IntKind.wrap .i64 (x3+x1)) r0.1 r0.2) (l33 J m [1,1,0,0] [] M1)))) (by simp only[jj_eq,h1];rfl)
abbrev H33_5 (m M5:Nat) (rec5:Int→Int→List Dt→List Dt→Option (List Dt×List Dt)):Prop:=∀x0 x1 x2 x3,l33 jn m w33_1 [] M5 (s33_11 x0 x1 x2 x3)=rec5 x0 x1 x2 x3
abbrev H33_8 (m M5 M8:Nat) (rec8:Int→Int→Int→Int→List Dt→List Dt→Option (List Dt×List Dt)):Prop:=∀x0 x1 x2 x3 x4 x5,l33 jn m w33_2 [M5] M8 (s33_2 x0 x1 x2 x3 x4 x5)=rec8 x0 x1 x2 x3 x4 x5
theorem i33_j9_eq m M5 rec5 (h5:H33_5 m M5 rec5) M8 rec8 (h8:H33_8 m M5 M8 rec8) x0 x1 x2 x3 x4 x5:e33 jn m w33_3 [M5,M8] (s33_2 x0 x1 x2 x3 x4 x5)=i33_j9 m rec5 rec8 x0 x1 x2 x3 x4 x5:=
 tq (g:=fun J=>((i37 m x2 (IntKind.wrap .i64 (x2+x1)) x3 x4 x5).bind fun r2=>
  (jj J 1 9 M8 (s33_2 x0 x1 x3 (IntKind.wrap .i64 (x3+(IntKind.wrap .i64 (2*x1)))) r2.1 r2.2) (l33 J m w33_2 [M5] M8)))) (by simp only[jj_eq,h8];rfl)
theorem i33_j11_eq m M5 rec5 (h5:H33_5 m M5 rec5) x0 x1 x2 x3:e33 jn m w33_4 [M5] (s33_11 x0 x1 x2 x3)=i33_j11 m rec5 x0 x1 x2 x3:=
 tq (g:=fun J=>(jj J 1 7 M5 (s33_11 x0 (IntKind.wrap .i64 (x1*2)) x2 x3) (l33 J m w33_1 [] M5))) (by simp only[jj_eq,h5];rfl)
theorem i33_j10_eq m M5 rec5 (h5:H33_5 m M5 rec5) x0 x1 x2 x3 x4:e33 jn m w33_5 [M5] (s33_10 x0 x1 x2 x3 x4)=i33_j10 m rec5 x0 x1 x2 x3 x4:=
 tq (g:=fun J=>(bif (decide ((IntKind.wrap .i64 (x2+x1))<x0)) then
  ((i37 m x2 (IntKind.wrap .i64 (x2+x1)) x0 x3 x4).bind fun r3=>
  (jj J 0 16 0 (s33_11 x0 x1 r3.1 r3.2) (e33 J m w33_4 [M5])))
   else
  (jj J 0 16 0 (s33_11 x0 x1 x3 x4) (e33 J m w33_4 [M5])))) (by simp only[jj_eq,i33_j11_eq m M5 rec5 h5];rfl)
theorem i33_l8_eq m M5 rec5 (h5:H33_5 m M5 rec5):∀M8 x0 x1 x2 x3 x4 x5,l33 jn m w33_2 [M5] M8 (s33_2 x0 x1 x2 x3 x4 x5)=i33_l8 m rec5 M8 x0 x1 x2 x3 x4 x5
 |0,_,_,_,_,_,_=>rfl
 | M8+1,x0,x1,x2,x3,x4,x5=>
   tl (g:=fun J=>(bif (decide (x3≤x0)) then
  (jj J 0 10 0 (s33_2 x0 x1 x2 x3 x4 x5) (e33 J m w33_3 [M5,M8]))
   else
  (jj J 0 13 0 (s33_10 x0 x1 x2 x4 x5) (e33 J m w33_5 [M5])))) (by simp only[jj_eq,i33_j9_eq m M5 rec5 h5 M8 (i33_l8 m rec5 M8) (i33_l8_eq m M5 rec5 h5 M8),i33_j10_eq m M5 rec5 h5];rfl)
theorem i33_j7_eq m M5 rec5 (h5:H33_5 m M5 rec5) x0 x1 x2 x3 x4 x5:e33 jn m w33_6 [M5] (s33_2 x0 x1 x2 x3 x4 x5)=i33_j7 m rec5 x0 x1 x2 x3 x4 x5:=
 tq (g:=fun J=>(jj J 1 9 (Nat.succ m) (s33_2 x0 x1 x2 x3 x4 x5) (l33 J m w33_2 [M5] (Nat.succ m)))) (by simp only[jj_eq,i33_l8_eq m M5 rec5 h5];rfl)
theorem i33_j6_eq m M5 rec5 (h5:H33_5 m M5 rec5) x0 x1 x2 x3:e33 jn m w33_7 [M5] (s33_11 x0 x1 x2 x3)=i33_j6 m rec5 x0 x1 x2 x3:=
 tq (g:=fun J=>(jj J 0 9 0 (s33_2 x0 x1 0 (IntKind.wrap .i64 (2*x1)) x2 x3) (e33 J m w33_6 [M5]))) (by simp only[jj_eq,i33_j7_eq m M5 rec5 h5];rfl)
theorem i33_l5_eq m:∀M5 x0 x1 x2 x3,l33 jn m w33_1 [] M5 (s33_11 x0 x1 x2 x3)=i33_l5 m M5 x0 x1 x2 x3
 |0,_,_,_,_=>rfl
 | M5+1,x0,x1,x2,x3=>
   tl (g:=fun J=>(bif (decide (x1<x0)) then
  (jj J 0 8 0 (s33_11 x0 x1 x2 x3) (e33 J m w33_7 [M5]))
   else
  some (x2,x3))) (by simp only[jj_eq,i33_j6_eq m M5 (i33_l5 m M5) (i33_l5_eq m M5)];rfl)
theorem i33_j4_eq m x0 x1 x2 x3:e33 jn m [1,1,1,1] [] (s33_11 x0 x1 x2 x3)=i33_j4 m x0 x1 x2 x3:=
 tq (g:=fun J=>(jj J 1 7 (Nat.succ m) (s33_11 x0 x1 x2 x3) (l33 J m w33_1 [] (Nat.succ m)))) (by simp only[jj_eq,i33_l5_eq m];rfl)
theorem i33_j3_eq m x0 x1 x2 x3 x4:e33 jn m [1,1,1] [] (s33_10 x0 x1 x2 x3 x4)=i33_j3 m x0 x1 x2 x3 x4:=
 tq (g:=fun J=>((i34 m x2 x0 x3 x4).bind fun r1=>
  (jj J 0 7 0 (s33_11 x0 x1 r1.1 r1.2) (e33 J m [1,1,1,1] [])))) (by simp only[jj_eq,i33_j4_eq m];rfl)
theorem i33_l1_eq m:∀M1 x0 x1 x2 x3 x4 x5,l33 jn m [1,1,0,0] [] M1 (s33_2 x0 x1 x2 x3 x4 x5)=i33_l1 m M1 x0 x1 x2 x3 x4 x5
 |0,_,_,_,_,_,_=>rfl
 | M1+1,x0,x1,x2,x3,x4,x5=>
   tl (g:=fun J=>(bif (decide (x3≤x0)) then
  (jj J 0 3 0 (s33_2 x0 x1 x2 x3 x4 x5) (e33 J m w33_0 [M1]))
   else
  (jj J 0 6 0 (s33_10 x0 x1 x2 x4 x5) (e33 J m [1,1,1] [])))) (by simp only[jj_eq,i33_j2_eq m M1 (i33_l1 m M1) (i33_l1_eq m M1),i33_j3_eq m];rfl)
theorem i33_j0_eq m x0 x1 x2 x3 x4 x5:e33 jn m [1,1] [] (s33_2 x0 x1 x2 x3 x4 x5)=i33_j0 m x0 x1 x2 x3 x4 x5:=
 tq (g:=fun J=>(jj J 1 2 (Nat.succ m) (s33_2 x0 x1 x2 x3 x4 x5) (l33 J m [1,1,0,0] [] (Nat.succ m)))) (by simp only[jj_eq,i33_l1_eq m];rfl)
theorem i33_eq m a0 a1 a2:e33 jn m [] [] ⟨[(.row 0),(.dat 3 (.int a0)),(.fn 50 [(.ptr 1 [] 0)])],[(.row 91 a1),(.box 22 (.dat 22 (.lst a2)))],2⟩=i33 (m+1) a0 a1 a2:=
 tq (g:=fun J=>(jj J 0 2 0 (s33_2 a0 20 0 20 a1 a2) (e33 J m [1,1] []))) (by simp only[jj_eq,i33_j0_eq m];rfl)
noncomputable def e32 (J:Nat→Nat→Nat→St→Option (List Dt×List Dt)→Option (List Dt×List Dt)) (m:Nat) (p ms:List Nat) (σ:St):=evAt Tryz.prog env (ct m) J (m+1) 49 9 Tryz.f49 d39 p ms σ
theorem i32_eq m a0 a1:e32 jn m [] [] ⟨[(.row 0),(.fn 50 [(.ptr 1 [] 0)])],[(.row 91 a0),(.box 22 (.dat 22 (.lst a1)))],2⟩=i32 (m+1) a0 a1:=
 tq (g:=fun J=>((i33 m (List.length a0:Int) a0 a1).bind fun r0=>
  some (r0.1,r0.2))) (by rfl)
def w51_0:List Nat:=[1,1,0,1,0]
def w51_8:List Nat:=[1,1,1,1,1]
def w51_9:List Nat:=[1,1,1,1,0,1]
def w51_4:List Nat:=w51_9++[0]
def w51_3:List Nat:=[1,1,0,1,0,0,1,1]
def w51_1:List Nat:=w51_3++[1]
def w51_7:List Nat:=w51_4++[0,1,1]
def w51_5:List Nat:=w51_7++[1]
def w51_2:List Nat:=w51_3++[0,0,1,0,1,1,1]
def w51_6:List Nat:=w51_7++[0,0,1,1,1]
noncomputable def e51 (J:Nat→Nat→Nat→St→Option Dt→Option Dt) (m:Nat) (p ms:List Nat) (σ:St):=evAt Tryz.prog env (ct m) J (m+1) 79 79 Tryz.f79 d40 p ms σ
noncomputable def l51 (J:Nat→Nat→Nat→St→Option Dt→Option Dt) (m:Nat) (p ms:List Nat) (M:Nat) (σ:St):=loopAt Tryz.prog env (ct m) J (m+1) 79 79 Tryz.f79 d40 p ms M σ
noncomputable def s51_3 (x0:List Dt) (x1 x2:Int) (x3 x4:Dt) (x5:List Dt):St:=⟨tsOf [(2,(.ptr 0 [] 0)),(4,(.ptr 1 [] 0)),(5,(.row 2)),(15,(.dat 23 (.lst x0))),(16,(.dat 3 (.int x1))),(17,(.dat 3 (.int x2)))],[(.box 50 (.dat 50 x3)),(.box 36 (.dat 36 x4)),(.row 23 x5)],0⟩
noncomputable def s51_4 (x0:List Dt) (x1 x2:Int) (x3:Bool) (x4 x5:Dt) (x6:List Dt) (x7:Dt):St:=⟨tsOf [(2,(.ptr 0 [] 0)),(4,(.ptr 1 [] 0)),(5,(.row 2)),(7,(.ptr 3 [] 0)),(15,(.dat 23 (.lst x0))),(16,(.dat 3 (.int x1))),(17,(.dat 3 (.int x2))),(33,(.dat 4 (.bool x3)))],[(.box 50 (.dat 50 x4)),(.box 36 (.dat 36 x5)),(.row 23 x6),(.box 36 (.dat 36 x7))],0⟩
noncomputable def s51_10 (x0:List Dt) (x1 x2:Int) (x3 x4 x5:Dt):St:=⟨tsOf [(2,(.ptr 0 [] 0)),(4,(.ptr 1 [] 0)),(8,(.ptr 2 [] 0)),(52,(.dat 23 (.lst x0))),(53,(.dat 3 (.int x1))),(54,(.dat 3 (.int x2)))],[(.box 50 (.dat 50 x3)),(.box 36 (.dat 36 x4)),(.box 36 (.dat 36 x5))],0⟩
noncomputable def s51_9 (x0:List Dt) (x1 x2:Int) (x3:Bool) (x4 x5 x6 x7:Dt):St:=⟨tsOf [(2,(.ptr 0 [] 0)),(4,(.ptr 1 [] 0)),(8,(.ptr 2 [] 0)),(10,(.ptr 3 [] 0)),(52,(.dat 23 (.lst x0))),(53,(.dat 3 (.int x1))),(54,(.dat 3 (.int x2))),(75,(.dat 4 (.bool x3)))],[(.box 50 (.dat 50 x4)),(.box 36 (.dat 36 x5)),(.box 36 (.dat 36 x6)),(.box 36 (.dat 36 x7))],0⟩
noncomputable def s51_11 (x0 x1:Dt):St:=⟨tsOf [(4,(.ptr 0 [] 0)),(8,(.ptr 1 [] 0))],[(.box 36 (.dat 36 x0)),(.box 36 (.dat 36 x1))],0⟩
noncomputable def s51_5 (x0 x1:Dt) (x2:List Dt):St:=⟨tsOf [(2,(.ptr 0 [] 0)),(4,(.ptr 1 [] 0)),(5,(.row 2))],[(.box 50 (.dat 50 x0)),(.box 36 (.dat 36 x1)),(.row 23 x2)],0⟩
abbrev H51_1 (m M1:Nat) (rec1:List Dt→Int→Int→Dt→Dt→List Dt→Option Dt):Prop:=∀x0 x1 x2 x3 x4 x5,l51 jn m w51_0 [] M1 (s51_3 x0 x1 x2 x3 x4 x5)=rec1 x0 x1 x2 x3 x4 x5
theorem qW_j3_eq m M1 rec1 (h1:H51_1 m M1 rec1) x0 x1 x2 x3 x4 x5:e51 jn m w51_1 [M1] (s51_3 x0 x1 x2 x3 x4 x5)=qW_j3 m rec1 x0 x1 x2 x3 x4 x5:=
 tq (g:=fun J=>(jj J 1 3 M1 (s51_3 x0 x1 (IntKind.wrap .i64 (x2+1)) x3 x4 x5) (l51 J m w51_0 [] M1))) (by simp only[jj_eq,h1];rfl)
theorem qW_j4_eq m M1 rec1 (h1:H51_1 m M1 rec1) x0 x1 x2 x3 x4 x5 x6 x7:e51 jn m w51_2 [M1] (s51_4 x0 x1 x2 x3 x4 x5 x6 x7)=qW_j4 m rec1 x0 x1 x2 x3 x4 x5 x6 x7:=
 tq (g:=fun J=>(bif x3 then
  ((app x6 (Dt.L x7 3)).bind fun v3=>
  (jj J 0 10 0 (s51_3 x0 x1 x2 x4 x5 v3) (e51 J m w51_1 [M1])))
   else
  ((app x6 [x7]).bind fun v4=>
  (jj J 0 10 0 (s51_3 x0 x1 x2 x4 x5 v4) (e51 J m w51_1 [M1]))))) (by simp only[jj_eq,qW_j3_eq m M1 rec1 h1];rfl)
theorem qW_j2_eq m M1 rec1 (h1:H51_1 m M1 rec1) x0 x1 x2 x3 x4 x5:e51 jn m w51_3 [M1] (s51_3 x0 x1 x2 x3 x4 x5)=qW_j2 m rec1 x0 x1 x2 x3 x4 x5:=
 tq (g:=fun J=>((idx x0 x2).bind fun v1=>
  (bif ((Dt.I v1 0)==0) then
  ((app x5 [kz3c25e]).bind fun v2=>
  (jj J 0 10 0 (s51_3 x0 x1 x2 x3 x4 v2) (e51 J m w51_1 [M1])))
  else
  (bif ((Dt.I v1 0)==6) then
  (jj J 0 9 0 (s51_4 x0 x1 x2 (decide (0<(List.length (Dt.L v1 3):Int))) x3 x4 x5 v1) (e51 J m w51_2 [M1]))
  else
  (jj J 0 9 0 (s51_4 x0 x1 x2 false x3 x4 x5 v1) (e51 J m w51_2 [M1])))))) (by simp only[jj_eq,qW_j3_eq m M1 rec1 h1,qW_j4_eq m M1 rec1 h1];rfl)
abbrev H51_7 (m M7:Nat) (rec7:List Dt→Int→Int→Dt→Dt→Dt→Option Dt):Prop:=∀x0 x1 x2 x3 x4 x5,l51 jn m w51_4 [] M7 (s51_10 x0 x1 x2 x3 x4 x5)=rec7 x0 x1 x2 x3 x4 x5
theorem qW_j10_eq m M7 rec7 (h7:H51_7 m M7 rec7) x0 x1 x2 x3 x4 x5:e51 jn m w51_5 [M7] (s51_10 x0 x1 x2 x3 x4 x5)=qW_j10 m rec7 x0 x1 x2 x3 x4 x5:=
 tq (g:=fun J=>(jj J 1 13 M7 (s51_10 x0 x1 (IntKind.wrap .i64 (x2+1)) x3 x4 x5) (l51 J m w51_4 [] M7))) (by simp only[jj_eq,h7];rfl)
theorem qW_j9_eq m M7 rec7 (h7:H51_7 m M7 rec7) x0 x1 x2 x3 x4 x5 x6 x7:e51 jn m w51_6 [M7] (s51_9 x0 x1 x2 x3 x4 x5 x6 x7)=qW_j9 m rec7 x0 x1 x2 x3 x4 x5 x6 x7:=
 tq (g:=fun J=>(bif x3 then
  (jj J 0 18 0 (s51_10 x0 x1 x2 x4 x5 x7) (e51 J m w51_5 [M7]))
   else
  (jj J 0 18 0 (s51_10 x0 x1 x2 x4 x5 x6) (e51 J m w51_5 [M7])))) (by simp only[jj_eq,qW_j10_eq m M7 rec7 h7];rfl)
theorem qW_j8_eq m M7 rec7 (h7:H51_7 m M7 rec7) x0 x1 x2 x3 x4 x5:e51 jn m w51_7 [M7] (s51_10 x0 x1 x2 x3 x4 x5)=qW_j8 m rec7 x0 x1 x2 x3 x4 x5:=
 tq (g:=fun J=>((idx x0 x2).bind fun v8=>
  ((qD m v8 x5).bind fun r9=>
  (bif (decide (r9<0)) then
  (bif (Bool.not (Dt.B x3 1)) then
  (jj J 0 17 0 (s51_9 x0 x1 x2 true x3 x4 x5 v8) (e51 J m w51_6 [M7]))
  else
  (bif (decide (0<r9)) then
  (jj J 0 17 0 (s51_9 x0 x1 x2 (Dt.B x3 1) x3 x4 x5 v8) (e51 J m w51_6 [M7]))
  else
  (jj J 0 17 0 (s51_9 x0 x1 x2 false x3 x4 x5 v8) (e51 J m w51_6 [M7]))))
  else
  (bif (decide (0<r9)) then
  (jj J 0 17 0 (s51_9 x0 x1 x2 (Dt.B x3 1) x3 x4 x5 v8) (e51 J m w51_6 [M7]))
  else
  (jj J 0 17 0 (s51_9 x0 x1 x2 false x3 x4 x5 v8) (e51 J m w51_6 [M7]))))))) (by simp only[jj_eq,qW_j9_eq m M7 rec7 h7];rfl)
theorem qW_j11_eq m x0 x1:e51 jn m w51_8 [] (s51_11 x0 x1)=qW_j11 m x0 x1:=
 tq (g:=fun J=>some x1) (by rfl)
theorem qW_l7_eq m:∀M7 x0 x1 x2 x3 x4 x5,l51 jn m w51_4 [] M7 (s51_10 x0 x1 x2 x3 x4 x5)=qW_l7 m M7 x0 x1 x2 x3 x4 x5
 |0,_,_,_,_,_,_=>rfl
 | M7+1,x0,x1,x2,x3,x4,x5=>
   tl (g:=fun J=>(bif (decide (x2<x1)) then
  (jj J 0 14 0 (s51_10 x0 x1 x2 x3 x4 x5) (e51 J m w51_7 [M7]))
   else
  (jj J 0 19 0 (s51_11 x4 x5) (e51 J m w51_8 [])))) (by simp only[jj_eq,qW_j8_eq m M7 (qW_l7 m M7) (qW_l7_eq m M7),qW_j11_eq m];rfl)
theorem qW_j6_eq m x0 x1 x2 x3 x4 x5:e51 jn m w51_9 [] (s51_10 x0 x1 x2 x3 x4 x5)=qW_j6 m x0 x1 x2 x3 x4 x5:=
 tq (g:=fun J=>(jj J 1 13 (Nat.succ m) (s51_10 x0 x1 x2 x3 x4 x5) (l51 J m w51_4 [] (Nat.succ m)))) (by simp only[jj_eq,qW_l7_eq m];rfl)
theorem qW_j5_eq m x0 x1 x2:e51 jn m [1,1,1] [] (s51_5 x0 x1 x2)=qW_j5 m x0 x1 x2:=
 tq (g:=fun J=>((inL x2 0).bind fun v5=>
  ((x2[0]?).bind fun v6=>
  ((cutL x2 1 (List.length x2:Int)).bind fun v7=>
  (jj J 0 13 0 (s51_10 v7 (List.length v7:Int) 0 x0 x1 v6) (e51 J m w51_9 [])))))) (by simp only[jj_eq,qW_j6_eq m];rfl)
theorem qW_l1_eq m:∀M1 x0 x1 x2 x3 x4 x5,l51 jn m w51_0 [] M1 (s51_3 x0 x1 x2 x3 x4 x5)=qW_l1 m M1 x0 x1 x2 x3 x4 x5
 |0,_,_,_,_,_,_=>rfl
 | M1+1,x0,x1,x2,x3,x4,x5=>
   tl (g:=fun J=>(bif (decide (x2<x1)) then
  (jj J 0 4 0 (s51_3 x0 x1 x2 x3 x4 x5) (e51 J m w51_3 [M1]))
   else
  (jj J 0 11 0 (s51_5 x3 x4 x5) (e51 J m [1,1,1] [])))) (by simp only[jj_eq,qW_j2_eq m M1 (qW_l1 m M1) (qW_l1_eq m M1),qW_j5_eq m];rfl)
theorem qW_j0_eq m x0 x1 x2 x3 x4 x5:e51 jn m [1,1,0,1] [] (s51_3 x0 x1 x2 x3 x4 x5)=qW_j0 m x0 x1 x2 x3 x4 x5:=
 tq (g:=fun J=>(jj J 1 3 (Nat.succ m) (s51_3 x0 x1 x2 x3 x4 x5) (l51 J m w51_0 [] (Nat.succ m)))) (by simp only[jj_eq,qW_l1_eq m];rfl)
theorem qW_eq m a0 a1:e51 jn m [] [] ⟨[(.dat 50 a0),(.dat 36 a1)],[],0⟩=qW (m+1) a0 a1:=
 tq (g:=fun J=>((zP m a1 (Dt.L a0 0)).bind fun r0=>
  (jj J 0 3 0 (s51_3 r0 (List.length r0:Int) 0 a0 kza2373 []) (e51 J m [1,1,0,1] [])))) (by simp only[jj_eq,qW_j0_eq m];rfl)
def w31_0:List Nat:=[1,1,0,1,0]
def w31_2:List Nat:=[1,1,0,1,0,0,1,1]
def w31_1:List Nat:=w31_2++[1]
noncomputable def e31 (J:Nat→Nat→Nat→St→Option (List Dt)→Option (List Dt)) (m:Nat) (p ms:List Nat) (σ:St):=evAt Tryz.prog env (ct m) J (m+1) 48 22 Tryz.f48 d44 p ms σ
noncomputable def l31 (J:Nat→Nat→Nat→St→Option (List Dt)→Option (List Dt)) (m:Nat) (p ms:List Nat) (M:Nat) (σ:St):=loopAt Tryz.prog env (ct m) J (m+1) 48 22 Tryz.f48 d44 p ms M σ
noncomputable def s31_3 (x0:List Dt) (x1 x2:Int) (x3:Dt) (x4:List Dt):St:=⟨tsOf [(3,(.ptr 0 [] 0)),(5,(.row 1)),(8,(.dat 22 (.lst x0))),(9,(.dat 3 (.int x1))),(10,(.dat 3 (.int x2)))],[(.box 36 (.dat 36 x3)),(.row 23 x4)],0⟩
noncomputable def s31_4 (x0:List Dt):St:=⟨tsOf [(5,(.row 0))],[(.row 23 x0)],0⟩
abbrev H31_1 (m M1:Nat) (rec1:List Dt→Int→Int→Dt→List Dt→Option (List Dt)):Prop:=∀x0 x1 x2 x3 x4,l31 jn m w31_0 [] M1 (s31_3 x0 x1 x2 x3 x4)=rec1 x0 x1 x2 x3 x4
theorem zS_j3_eq m M1 rec1 (h1:H31_1 m M1 rec1) x0 x1 x2 x3 x4:e31 jn m w31_1 [M1] (s31_3 x0 x1 x2 x3 x4)=zS_j3 m rec1 x0 x1 x2 x3 x4:=
 tq (g:=fun J=>(jj J 1 3 M1 (s31_3 x0 x1 (IntKind.wrap .i64 (x2+1)) x3 x4) (l31 J m w31_0 [] M1))) (by simp only[jj_eq,h1];rfl)
theorem zS_j2_eq m M1 rec1 (h1:H31_1 m M1 rec1) x0 x1 x2 x3 x4:e31 jn m w31_2 [M1] (s31_3 x0 x1 x2 x3 x4)=zS_j2 m rec1 x0 x1 x2 x3 x4:=
 tq (g:=fun J=>((idx x0 x2).bind fun v0=>
  ((qW m v0 x3).bind fun r1=>
  ((app x4 [r1]).bind fun v2=>
  (jj J 0 6 0 (s31_3 x0 x1 x2 x3 v2) (e31 J m w31_1 [M1])))))) (by simp only[jj_eq,zS_j3_eq m M1 rec1 h1];rfl)
theorem zS_j4_eq m x0:e31 jn m [1,1,1] [] (s31_4 x0)=zS_j4 m x0:=
 tq (g:=fun J=>some x0) (by rfl)
theorem zS_l1_eq m:∀M1 x0 x1 x2 x3 x4,l31 jn m w31_0 [] M1 (s31_3 x0 x1 x2 x3 x4)=zS_l1 m M1 x0 x1 x2 x3 x4
 |0,_,_,_,_,_=>rfl
 | M1+1,x0,x1,x2,x3,x4=>
   tl (g:=fun J=>(bif (decide (x2<x1)) then
  (jj J 0 4 0 (s31_3 x0 x1 x2 x3 x4) (e31 J m w31_2 [M1]))
   else
  (jj J 0 7 0 (s31_4 x4) (e31 J m [1,1,1] [])))) (by simp only[jj_eq,zS_j2_eq m M1 (zS_l1 m M1) (zS_l1_eq m M1),zS_j4_eq m];rfl)
theorem zS_j0_eq m x0 x1 x2 x3 x4:e31 jn m [1,1,0,1] [] (s31_3 x0 x1 x2 x3 x4)=zS_j0 m x0 x1 x2 x3 x4:=
 tq (g:=fun J=>(jj J 1 3 (Nat.succ m) (s31_3 x0 x1 x2 x3 x4) (l31 J m w31_0 [] (Nat.succ m)))) (by simp only[jj_eq,zS_l1_eq m];rfl)
theorem zS_eq m a0 a1:e31 jn m [] [] ⟨[(.dat 22 (.lst a0)),(.dat 36 a1)],[],0⟩=zS (m+1) a0 a1:=
 tq (g:=fun J=>(jj J 0 3 0 (s31_3 a0 (List.length a0:Int) 0 a1 []) (e31 J m [1,1,0,1] []))) (by simp only[jj_eq,zS_j0_eq m];rfl)
def w20_0:List Nat:=[1,1,0,1,0]
def w20_6:List Nat:=[1,1,1,1,1,1]
def w20_7:List Nat:=[1,1,1,1,1,0,1]
def w20_2:List Nat:=[1,1,0,1,0,0,1,1]
def w20_3:List Nat:=w20_7++[0]
def w20_1:List Nat:=w20_2++[1]
def w20_5:List Nat:=w20_3++[0,1,1]
def w20_4:List Nat:=w20_5++[1]
noncomputable def e20 (J:Nat→Nat→Nat→St→Option (List Dt)→Option (List Dt)) (m:Nat) (p ms:List Nat) (σ:St):=evAt Tryz.prog env (ct m) J (m+1) 30 51 Tryz.f30 d44 p ms σ
noncomputable def l20 (J:Nat→Nat→Nat→St→Option (List Dt)→Option (List Dt)) (m:Nat) (p ms:List Nat) (M:Nat) (σ:St):=loopAt Tryz.prog env (ct m) J (m+1) 30 51 Tryz.f30 d44 p ms M σ
noncomputable def s20_3 (x0:Int) (x1:List Dt) (x2 x3:Int) (x4 x5:List Dt):St:=⟨tsOf [(2,(.dat 3 (.int x0))),(3,(.ptr 0 [] 0)),(7,(.row 1)),(16,(.dat 23 (.lst x1))),(17,(.dat 3 (.int x2))),(18,(.dat 3 (.int x3)))],[(.box 22 (.dat 22 (.lst x4))),(.row 91 x5)],0⟩
noncomputable def s20_8 (x0:List Dt) (x1 x2:Int) (x3:List Dt):St:=⟨tsOf [(10,(.row 0)),(37,(.dat 91 (.lst x0))),(38,(.dat 3 (.int x1))),(39,(.dat 3 (.int x2)))],[(.row 23 x3)],0⟩
noncomputable def s20_9 (x0:List Dt):St:=⟨tsOf [(10,(.row 0))],[(.row 23 x0)],0⟩
noncomputable def s20_4 (x0:Int) (x1 x2:List Dt):St:=⟨tsOf [(2,(.dat 3 (.int x0))),(3,(.ptr 0 [] 0)),(7,(.row 1))],[(.box 22 (.dat 22 (.lst x1))),(.row 91 x2)],0⟩
abbrev H20_1 (m M1:Nat) (rec1:Int→List Dt→Int→Int→List Dt→List Dt→Option (List Dt)):Prop:=∀x0 x1 x2 x3 x4 x5,l20 jn m w20_0 [] M1 (s20_3 x0 x1 x2 x3 x4 x5)=rec1 x0 x1 x2 x3 x4 x5
theorem qV_j3_eq m M1 rec1 (h1:H20_1 m M1 rec1) x0 x1 x2 x3 x4 x5:e20 jn m w20_1 [M1] (s20_3 x0 x1 x2 x3 x4 x5)=qV_j3 m rec1 x0 x1 x2 x3 x4 x5:=
 tq (g:=fun J=>(jj J 1 3 M1 (s20_3 x0 x1 x2 (IntKind.wrap .i64 (x3+1)) x4 x5) (l20 J m w20_0 [] M1))) (by simp only[jj_eq,h1];rfl)
theorem qV_j2_eq m M1 rec1 (h1:H20_1 m M1 rec1) x0 x1 x2 x3 x4 x5:e20 jn m w20_2 [M1] (s20_3 x0 x1 x2 x3 x4 x5)=qV_j2 m rec1 x0 x1 x2 x3 x4 x5:=
 tq (g:=fun J=>((idx x1 x3).bind fun v1=>
  ((zS m x4 v1).bind fun r2=>
  ((inL x5 x3).bind fun v3=>
  ((x5[(Int.toNat x3)]?).bind fun v4=>
  (jj J 0 6 0 (s20_3 x0 x1 x2 x3 x4 (List.set x5 (Int.toNat x3) (Dt.agg [v1,(Dt.lst r2)]))) (e20 J m w20_1 [M1]))))))) (by simp only[jj_eq,qV_j3_eq m M1 rec1 h1];rfl)
abbrev H20_6 (m M6:Nat) (rec6:List Dt→Int→Int→List Dt→Option (List Dt)):Prop:=∀x0 x1 x2 x3,l20 jn m w20_3 [] M6 (s20_8 x0 x1 x2 x3)=rec6 x0 x1 x2 x3
theorem qV_j8_eq m M6 rec6 (h6:H20_6 m M6 rec6) x0 x1 x2 x3:e20 jn m w20_4 [M6] (s20_8 x0 x1 x2 x3)=qV_j8 m rec6 x0 x1 x2 x3:=
 tq (g:=fun J=>(jj J 1 10 M6 (s20_8 x0 x1 (IntKind.wrap .i64 (x2+1)) x3) (l20 J m w20_3 [] M6))) (by simp only[jj_eq,h6];rfl)
theorem qV_j7_eq m M6 rec6 (h6:H20_6 m M6 rec6) x0 x1 x2 x3:e20 jn m w20_5 [M6] (s20_8 x0 x1 x2 x3)=qV_j7 m rec6 x0 x1 x2 x3:=
 tq (g:=fun J=>((idx x0 x2).bind fun v7=>
  ((qH m (Dt.fld v7 0)).bind fun r8=>
  ((app x3 [r8]).bind fun v9=>
  (jj J 0 13 0 (s20_8 x0 x1 x2 v9) (e20 J m w20_4 [M6])))))) (by simp only[jj_eq,qV_j8_eq m M6 rec6 h6];rfl)
theorem qV_j9_eq m x0:e20 jn m w20_6 [] (s20_9 x0)=qV_j9 m x0:=
 tq (g:=fun J=>some x0) (by rfl)
theorem qV_l6_eq m:∀M6 x0 x1 x2 x3,l20 jn m w20_3 [] M6 (s20_8 x0 x1 x2 x3)=qV_l6 m M6 x0 x1 x2 x3
 |0,_,_,_,_=>rfl
 | M6+1,x0,x1,x2,x3=>
   tl (g:=fun J=>(bif (decide (x2<x1)) then
  (jj J 0 11 0 (s20_8 x0 x1 x2 x3) (e20 J m w20_5 [M6]))
   else
  (jj J 0 14 0 (s20_9 x3) (e20 J m w20_6 [])))) (by simp only[jj_eq,qV_j7_eq m M6 (qV_l6 m M6) (qV_l6_eq m M6),qV_j9_eq m];rfl)
theorem qV_j5_eq m x0 x1 x2 x3:e20 jn m w20_7 [] (s20_8 x0 x1 x2 x3)=qV_j5 m x0 x1 x2 x3:=
 tq (g:=fun J=>(jj J 1 10 (Nat.succ m) (s20_8 x0 x1 x2 x3) (l20 J m w20_3 [] (Nat.succ m)))) (by simp only[jj_eq,qV_l6_eq m];rfl)
theorem qV_j4_eq m x0 x1 x2:e20 jn m [1,1,1] [] (s20_4 x0 x1 x2)=qV_j4 m x0 x1 x2:=
 tq (g:=fun J=>((i32 m x2 x1).bind fun r5=>
  ((cutL r5.1 0 x0).bind fun v6=>
  (jj J 0 10 0 (s20_8 v6 (List.length v6:Int) 0 []) (e20 J m w20_7 []))))) (by simp only[jj_eq,qV_j5_eq m];rfl)
theorem qV_l1_eq m:∀M1 x0 x1 x2 x3 x4 x5,l20 jn m w20_0 [] M1 (s20_3 x0 x1 x2 x3 x4 x5)=qV_l1 m M1 x0 x1 x2 x3 x4 x5
 |0,_,_,_,_,_,_=>rfl
 | M1+1,x0,x1,x2,x3,x4,x5=>
   tl (g:=fun J=>(bif (decide (x3<x2)) then
  (jj J 0 4 0 (s20_3 x0 x1 x2 x3 x4 x5) (e20 J m w20_2 [M1]))
   else
  (jj J 0 7 0 (s20_4 x0 x4 x5) (e20 J m [1,1,1] [])))) (by simp only[jj_eq,qV_j2_eq m M1 (qV_l1 m M1) (qV_l1_eq m M1),qV_j4_eq m];rfl)
theorem qV_j0_eq m x0 x1 x2 x3 x4 x5:e20 jn m [1,1,0,1] [] (s20_3 x0 x1 x2 x3 x4 x5)=qV_j0 m x0 x1 x2 x3 x4 x5:=
 tq (g:=fun J=>(jj J 1 3 (Nat.succ m) (s20_3 x0 x1 x2 x3 x4 x5) (l20 J m w20_0 [] (Nat.succ m)))) (by simp only[jj_eq,qV_l1_eq m];rfl)
theorem qV_eq m a0 a1 a2:e20 jn m [] [] ⟨[(.dat 22 (.lst a0)),(.dat 23 (.lst a1)),(.dat 3 (.int a2))],[],0⟩=qV (m+1) a0 a1 a2:=
 tq (g:=fun J=>((mkL (List.length a1:Int) (List.length a1:Int) kzd6e5e).bind fun v0=>
  (jj J 0 3 0 (s20_3 a2 a1 (List.length a1:Int) 0 a0 v0) (e20 J m [1,1,0,1] [])))) (by simp only[jj_eq,qV_j0_eq m];rfl)
noncomputable def e9 (J:Nat→Nat→Nat→St→Option (List Dt)→Option (List Dt)) (m:Nat) (p ms:List Nat) (σ:St):=evAt Tryz.prog env (ct m) J (m+1) 17 10 Tryz.f17 d44 p ms σ
theorem yJ_eq m a0 a1:e9 jn m [] [] ⟨[(.dat 22 (.lst a0)),(.dat 23 (.lst a1))],[],0⟩=yJ (m+1) a0 a1:=
 tq (g:=fun J=>((qV m a0 a1 (List.length a1:Int)).bind fun r0=>
  some r0)) (by rfl)
noncomputable def e21 (J:Nat→Nat→Nat→St→Option Int→Option Int) (m:Nat) (p ms:List Nat) (σ:St):=evAt Tryz.prog env (ct m) J (m+1) 31 15 Tryz.f31 d25 p ms σ
theorem yB_eq m a0 a1 a2:e21 jn m [] [] ⟨[(.dat 22 (.lst a0)),(.dat 36 a1),(.dat 36 a2)],[],0⟩=yB (m+1) a0 a1 a2:=
 tq (g:=fun J=>((zS m a0 a1).bind fun r0=>
  ((zS m a0 a2).bind fun r1=>
  ((zF m a0 r0 r1).bind fun r2=>
  some r2)))) (by rfl)
def w10_0:List Nat:=[1,1,0,0,0,1]
noncomputable def e10 (J:Nat→Nat→Nat→St→Option (List Dt)→Option (List Dt)) (m:Nat) (p ms:List Nat) (σ:St):=evAt Tryz.prog env (ct m) J (m+1) 18 53 Tryz.f18 d44 p ms σ
noncomputable def l10 (J:Nat→Nat→Nat→St→Option (List Dt)→Option (List Dt)) (m:Nat) (p ms:List Nat) (M:Nat) (σ:St):=loopAt Tryz.prog env (ct m) J (m+1) 18 53 Tryz.f18 d44 p ms M σ
noncomputable def s10_2 (x0 x1 x2 x3:List Dt):St:=⟨tsOf [(0,(.dat 22 (.lst x0))),(1,(.dat 23 (.lst x1))),(2,(.dat 23 (.lst x2))),(7,(.row 0))],[(.row 23 x3)],0⟩
noncomputable def s10_3 (x0 x1 x2:List Dt):St:=⟨tsOf [(1,(.dat 23 (.lst x0))),(2,(.dat 23 (.lst x1))),(7,(.row 0))],[(.row 23 x2)],0⟩
abbrev H10_1 (m M1:Nat) (rec1:List Dt→List Dt→List Dt→List Dt→Option (List Dt)):Prop:=∀x0 x1 x2 x3,l10 jn m [1,1,0,0] [] M1 (s10_2 x0 x1 x2 x3)=rec1 x0 x1 x2 x3
theorem zL_j2_eq m M1 rec1 (h1:H10_1 m M1 rec1) x0 x1 x2 x3:e10 jn m w10_0 [M1] (s10_2 x0 x1 x2 x3)=zL_j2 m rec1 x0 x1 x2 x3:=
 tq (g:=fun J=>((idx x1 0).bind fun v1=>
  ((idx x2 0).bind fun v2=>
  ((yB m x0 v1 v2).bind fun r3=>
  (bif (decide (r3≤0)) then
  ((idx x1 0).bind fun v4=>
  ((app x3 [v4]).bind fun v5=>
  ((cutL x1 1 (List.length x1:Int)).bind fun v6=>
  (jj J 1 2 M1 (s10_2 x0 v6 x2 v5) (l10 J m [1,1,0,0] [] M1)))))
  else
  ((idx x2 0).bind fun v7=>
  ((app x3 [v7]).bind fun v8=>
  ((cutL x2 1 (List.length x2:Int)).bind fun v9=>
  (jj J 1 2 M1 (s10_2 x0 x1 v9 v8) (l10 J m [1,1,0,0] [] M1)))))))))) (by simp only[jj_eq,h1];rfl)
theorem zL_j3_eq m x0 x1 x2:e10 jn m [1,1,1] [] (s10_3 x0 x1 x2)=zL_j3 m x0 x1 x2:=
 tq (g:=fun J=>((app x2 x0).bind fun v10=>
  ((app v10 x1).bind fun v11=>
  some v11))) (by rfl)
theorem zL_l1_eq m:∀M1 x0 x1 x2 x3,l10 jn m [1,1,0,0] [] M1 (s10_2 x0 x1 x2 x3)=zL_l1 m M1 x0 x1 x2 x3
 |0,_,_,_,_=>rfl
 | M1+1,x0,x1,x2,x3=>
   tl (g:=fun J=>(bif (decide (0<(List.length x1:Int))) then
  (bif (decide (0<(List.length x2:Int))) then
  (jj J 0 3 0 (s10_2 x0 x1 x2 x3) (e10 J m w10_0 [M1]))
  else
  (jj J 0 8 0 (s10_3 x1 x2 x3) (e10 J m [1,1,1] [])))
   else
  (jj J 0 8 0 (s10_3 x1 x2 x3) (e10 J m [1,1,1] [])))) (by simp only[jj_eq,zL_j2_eq m M1 (zL_l1 m M1) (zL_l1_eq m M1),zL_j3_eq m];rfl)
theorem zL_j0_eq m x0 x1 x2 x3:e10 jn m [1,1] [] (s10_2 x0 x1 x2 x3)=zL_j0 m x0 x1 x2 x3:=
 tq (g:=fun J=>(jj J 1 2 (Nat.succ m) (s10_2 x0 x1 x2 x3) (l10 J m [1,1,0,0] [] (Nat.succ m)))) (by simp only[jj_eq,zL_l1_eq m];rfl)
theorem zL_eq m a0 a1 a2:e10 jn m [] [] ⟨[(.dat 22 (.lst a0)),(.dat 23 (.lst a1)),(.dat 23 (.lst a2))],[],0⟩=zL (m+1) a0 a1 a2:=
 tq (g:=fun J=>((mkL 0 (IntKind.wrap .i64 ((List.length a1:Int)+(List.length a2:Int))) kza2373).bind fun v0=>
  (jj J 0 2 0 (s10_2 a0 a1 a2 v0) (e10 J m [1,1] [])))) (by simp only[jj_eq,zL_j0_eq m];rfl)
def w3_11:List Nat:=[1,1,1,1,1,1]
def w3_10:List Nat:=w3_11++[1]
def w3_12:List Nat:=[1,1,1,1,1,0,1]
def w3_0:List Nat:=w3_12++[0]
def w3_3:List Nat:=w3_11++[0,0]
def w3_9:List Nat:=w3_3++[0,1]
def w3_2:List Nat:=w3_0++[0,1,1]
def w3_1:List Nat:=w3_2++[1]
def w3_7:List Nat:=w3_9++[0,1,1]
def w3_8:List Nat:=w3_9++[0,1,0,1]
def w3_4:List Nat:=w3_8++[0]
def w3_6:List Nat:=w3_4++[0,1]
def w3_5:List Nat:=w3_6++[1]
noncomputable def e3 (J:Nat→Nat→Nat→St→Option (List Dt×Int×Int)→Option (List Dt×Int×Int)) (m:Nat) (p ms:List Nat) (σ:St):=evAt Tryz.prog env (ct m) J (m+1) 8 92 Tryz.f8 d3 p ms σ
noncomputable def l3 (J:Nat→Nat→Nat→St→Option (List Dt×Int×Int)→Option (List Dt×Int×Int)) (m:Nat) (p ms:List Nat) (M:Nat) (σ:St):=loopAt Tryz.prog env (ct m) J (m+1) 8 92 Tryz.f8 d3 p ms M σ
noncomputable def s3_5 (x0 x1 x2:List Dt) (x3 x4:Int) (x5:List Dt):St:=⟨tsOf [(0,(.dat 22 (.lst x0))),(11,(.dat 52 (.lst x1))),(13,(.row 0)),(37,(.dat 52 (.lst x2))),(38,(.dat 3 (.int x3))),(39,(.dat 3 (.int x4)))],[(.row 52 x5)],0⟩
noncomputable def s3_12 (x0 x1:List Dt) (x2:Int) (x3 x4:List Dt):St:=⟨tsOf [(0,(.dat 22 (.lst x0))),(11,(.dat 52 (.lst x1))),(13,(.row 0)),(16,(.row 1)),(17,(.dat 3 (.int x2)))],[(.row 52 x3),(.row 52 x4)],0⟩
noncomputable def s3_13 (x0 x1 x2:List Dt):St:=⟨tsOf [(0,(.dat 22 (.lst x0))),(11,(.dat 52 (.lst x1))),(16,(.row 0))],[(.row 52 x2)],0⟩
noncomputable def s3_8 (x0 x1 x2:List Dt):St:=⟨tsOf [(0,(.dat 22 (.lst x0))),(11,(.dat 52 (.lst x1))),(13,(.row 0))],[(.row 52 x2)],0⟩
noncomputable def s3_14 (x0 x1:List Dt):St:=⟨tsOf [(11,(.dat 52 (.lst x0))),(13,(.row 0))],[(.row 52 x1)],0⟩
noncomputable def s3_1 (x0 x1:List Dt):St:=⟨tsOf [(0,(.dat 22 (.lst x0))),(11,(.dat 52 (.lst x1)))],[],0⟩
noncomputable def s3_0 (x0 x1 x2:List Dt):St:=⟨tsOf [(0,(.dat 22 (.lst x0))),(1,(.dat 23 (.lst x1))),(11,(.dat 52 (.lst x2)))],[],0⟩
abbrev H3_3 (m M3:Nat) (rec3:List Dt→List Dt→List Dt→Int→Int→List Dt→Option (List Dt×Int×Int)):Prop:=∀x0 x1 x2 x3 x4 x5,l3 jn m w3_0 [] M3 (s3_5 x0 x1 x2 x3 x4 x5)=rec3 x0 x1 x2 x3 x4 x5
theorem qA_j5_eq m M3 rec3 (h3:H3_3 m M3 rec3) x0 x1 x2 x3 x4 x5:e3 jn m w3_1 [M3] (s3_5 x0 x1 x2 x3 x4 x5)=qA_j5 m rec3 x0 x1 x2 x3 x4 x5:=
 tq (g:=fun J=>(jj J 1 8 M3 (s3_5 x0 x1 x2 x3 (IntKind.wrap .i64 (x4+1)) x5) (l3 J m w3_0 [] M3))) (by simp only[jj_eq,h3];rfl)
theorem qA_j4_eq m M3 rec3 (h3:H3_3 m M3 rec3) x0 x1 x2 x3 x4 x5:e3 jn m w3_2 [M3] (s3_5 x0 x1 x2 x3 x4 x5)=qA_j4 m rec3 x0 x1 x2 x3 x4 x5:=
 tq (g:=fun J=>((idx x2 x4).bind fun v3=>
  ((yJ m x0 (Dt.toLst v3)).bind fun r4=>
  ((inL x5 x4).bind fun v5=>
  ((x5[(Int.toNat x4)]?).bind fun v6=>
  (jj J 0 11 0 (s3_5 x0 x1 x2 x3 x4 (List.set x5 (Int.toNat x4) (Dt.lst r4))) (e3 J m w3_1 [M3]))))))) (by simp only[jj_eq,qA_j5_eq m M3 rec3 h3];rfl)
abbrev H3_7 (m M7:Nat) (rec7:List Dt→List Dt→List Dt→Option (List Dt×Int×Int)):Prop:=∀x0 x1 x2,l3 jn m w3_3 [] M7 (s3_8 x0 x1 x2)=rec7 x0 x1 x2
abbrev H3_10 (m M7 M10:Nat) (rec10:List Dt→List Dt→Int→List Dt→List Dt→Option (List Dt×Int×Int)):Prop:=∀x0 x1 x2 x3 x4,l3 jn m w3_4 [M7] M10 (s3_12 x0 x1 x2 x3 x4)=rec10 x0 x1 x2 x3 x4
theorem qA_j12_eq m M7 rec7 (h7:H3_7 m M7 rec7) M10 rec10 (h10:H3_10 m M7 M10 rec10) x0 x1 x2 x3 x4:e3 jn m w3_5 [M7,M10] (s3_12 x0 x1 x2 x3 x4)=qA_j12 m rec7 rec10 x0 x1 x2 x3 x4:=
 tq (g:=fun J=>(jj J 1 15 M10 (s3_12 x0 x1 (IntKind.wrap .i64 (x2+2)) x3 x4) (l3 J m w3_4 [M7] M10))) (by simp only[jj_eq,h10];rfl)
theorem qA_j11_eq m M7 rec7 (h7:H3_7 m M7 rec7) M10 rec10 (h10:H3_10 m M7 M10 rec10) x0 x1 x2 x3 x4:e3 jn m w3_6 [M7,M10] (s3_12 x0 x1 x2 x3 x4)=qA_j11 m rec7 rec10 x0 x1 x2 x3 x4:=
 tq (g:=fun J=>(bif (decide ((IntKind.wrap .i64 (x2+1))<(List.length x3:Int))) then
  ((inL x3 x2).bind fun v7=>
  ((x3[(Int.toNat x2)]?).bind fun v8=>
  ((inL x3 (IntKind.wrap .i64 (x2+1))).bind fun v9=>
  ((x3[(Int.toNat (IntKind.wrap .i64 (x2+1)))]?).bind fun v10=>
  ((zL m x0 (Dt.toLst v8) (Dt.toLst v10)).bind fun r11=>
  ((app x4 [(Dt.lst r11)]).bind fun v12=>
  (jj J 0 16 0 (s3_12 x0 x1 x2 x3 v12) (e3 J m w3_5 [M7,M10]))))))))
   else
  ((inL x3 x2).bind fun v13=>
  ((x3[(Int.toNat x2)]?).bind fun v14=>
  ((app x4 [(Dt.lst (Dt.toLst v14))]).bind fun v15=>
  (jj J 0 16 0 (s3_12 x0 x1 x2 x3 v15) (e3 J m w3_5 [M7,M10]))))))) (by simp only[jj_eq,qA_j12_eq m M7 rec7 h7 M10 rec10 h10];rfl)
theorem qA_j13_eq m M7 rec7 (h7:H3_7 m M7 rec7) x0 x1 x2:e3 jn m w3_7 [M7] (s3_13 x0 x1 x2)=qA_j13 m rec7 x0 x1 x2:=
 tq (g:=fun J=>(jj J 1 12 M7 (s3_8 x0 x1 x2) (l3 J m w3_3 [] M7))) (by simp only[jj_eq,h7];rfl)
theorem qA_l10_eq m M7 rec7 (h7:H3_7 m M7 rec7):∀M10 x0 x1 x2 x3 x4,l3 jn m w3_4 [M7] M10 (s3_12 x0 x1 x2 x3 x4)=qA_l10 m rec7 M10 x0 x1 x2 x3 x4
 |0,_,_,_,_,_=>rfl
 | M10+1,x0,x1,x2,x3,x4=>
   tl (g:=fun J=>(bif (decide (x2<(List.length x3:Int))) then
  (jj J 0 17 0 (s3_12 x0 x1 x2 x3 x4) (e3 J m w3_6 [M7,M10]))
   else
  (jj J 0 20 0 (s3_13 x0 x1 x4) (e3 J m w3_7 [M7])))) (by simp only[jj_eq,qA_j11_eq m M7 rec7 h7 M10 (qA_l10 m rec7 M10) (qA_l10_eq m M7 rec7 h7 M10),qA_j13_eq m M7 rec7 h7];rfl)
theorem qA_j9_eq m M7 rec7 (h7:H3_7 m M7 rec7) x0 x1 x2 x3 x4:e3 jn m w3_8 [M7] (s3_12 x0 x1 x2 x3 x4)=qA_j9 m rec7 x0 x1 x2 x3 x4:=
 tq (g:=fun J=>(jj J 1 15 (Nat.succ m) (s3_12 x0 x1 x2 x3 x4) (l3 J m w3_4 [M7] (Nat.succ m)))) (by simp only[jj_eq,qA_l10_eq m M7 rec7 h7];rfl)
theorem qA_j8_eq m M7 rec7 (h7:H3_7 m M7 rec7) x0 x1 x2:e3 jn m w3_9 [M7] (s3_8 x0 x1 x2)=qA_j8 m rec7 x0 x1 x2:=
 tq (g:=fun J=>(jj J 0 15 0 (s3_12 x0 x1 0 x2 []) (e3 J m w3_8 [M7]))) (by simp only[jj_eq,qA_j9_eq m M7 rec7 h7];rfl)
theorem qA_j14_eq m x0 x1:e3 jn m w3_10 [] (s3_14 x0 x1)=qA_j14 m x0 x1:=
 tq (g:=fun J=>((inL x1 0).bind fun v16=>
  ((x1[0]?).bind fun v17=>
  some ((Dt.toLst v17),(List.length x0:Int),0)))) (by rfl)
theorem qA_l7_eq m:∀M7 x0 x1 x2,l3 jn m w3_3 [] M7 (s3_8 x0 x1 x2)=qA_l7 m M7 x0 x1 x2
 |0,_,_,_=>rfl
 | M7+1,x0,x1,x2=>
   tl (g:=fun J=>(bif (decide (1<(List.length x2:Int))) then
  (jj J 0 13 0 (s3_8 x0 x1 x2) (e3 J m w3_9 [M7]))
   else
  (jj J 0 21 0 (s3_14 x1 x2) (e3 J m w3_10 [])))) (by simp only[jj_eq,qA_j8_eq m M7 (qA_l7 m M7) (qA_l7_eq m M7),qA_j14_eq m];rfl)
theorem qA_j6_eq m x0 x1 x2:e3 jn m w3_11 [] (s3_8 x0 x1 x2)=qA_j6 m x0 x1 x2:=
 tq (g:=fun J=>(jj J 1 12 (Nat.succ m) (s3_8 x0 x1 x2) (l3 J m w3_3 [] (Nat.succ m)))) (by simp only[jj_eq,qA_l7_eq m];rfl)
theorem qA_l3_eq m:∀M3 x0 x1 x2 x3 x4 x5,l3 jn m w3_0 [] M3 (s3_5 x0 x1 x2 x3 x4 x5)=qA_l3 m M3 x0 x1 x2 x3 x4 x5
 |0,_,_,_,_,_,_=>rfl
 | M3+1,x0,x1,x2,x3,x4,x5=>
   tl (g:=fun J=>(bif (decide (x4<x3)) then
  (jj J 0 9 0 (s3_5 x0 x1 x2 x3 x4 x5) (e3 J m w3_2 [M3]))
   else
  (jj J 0 12 0 (s3_8 x0 x1 x5) (e3 J m w3_11 [])))) (by simp only[jj_eq,qA_j4_eq m M3 (qA_l3 m M3) (qA_l3_eq m M3),qA_j6_eq m];rfl)
theorem qA_j2_eq m x0 x1 x2 x3 x4 x5:e3 jn m w3_12 [] (s3_5 x0 x1 x2 x3 x4 x5)=qA_j2 m x0 x1 x2 x3 x4 x5:=
 tq (g:=fun J=>(jj J 1 8 (Nat.succ m) (s3_5 x0 x1 x2 x3 x4 x5) (l3 J m w3_0 [] (Nat.succ m)))) (by simp only[jj_eq,qA_l3_eq m];rfl)
theorem qA_j1_eq m x0 x1:e3 jn m [1,1,1,1] [] (s3_1 x0 x1)=qA_j1 m x0 x1:=
 tq (g:=fun J=>((mkL (List.length x1:Int) (List.length x1:Int) (Dt.lst [])).bind fun v2=>
  (jj J 0 8 0 (s3_5 x0 x1 x1 (List.length x1:Int) 0 v2) (e3 J m w3_12 [])))) (by simp only[jj_eq,qA_j2_eq m];rfl)
theorem qA_j0_eq m x0 x1 x2:e3 jn m [1,1,1] [] (s3_0 x0 x1 x2)=qA_j0 m x0 x1 x2:=
 tq (g:=fun J=>(bif ((List.length x2:Int)==0) then
  ((yJ m x0 x1).bind fun r1=>
  some (r1,0,0))
   else
  (jj J 0 6 0 (s3_1 x0 x2) (e3 J m [1,1,1,1] [])))) (by simp only[jj_eq,qA_j1_eq m];rfl)
theorem qA_eq m a0 a1 a2 a3:e3 jn m [] [] ⟨[(.dat 22 (.lst a0)),(.dat 23 (.lst a1)),(.dat 3 (.int a2)),(.dat 4 (.bool a3))],[],0⟩=qA (m+1) a0 a1 a2 a3:=
 tq (g:=fun J=>((qQ m a1 a2 a3).bind fun r0=>
  (bif (r0.2 !=0) then
  some ([],0,r0.2)
  else
  (jj J 0 4 0 (s3_0 a0 a1 r0.1) (e3 J m [1,1,1] []))))) (by simp only[jj_eq,qA_j0_eq m];rfl)
def w77_3:List Nat:=[1,1,1,1,1]
def w77_4:List Nat:=[1,1,1,1,0,1]
def w77_0:List Nat:=w77_4++[0]
def w77_2:List Nat:=w77_0++[0,1]
def w77_1:List Nat:=w77_2++[1]
noncomputable def e77 (J:Nat→Nat→Nat→St→Option ByteArray→Option ByteArray) (m:Nat) (p ms:List Nat) (σ:St):=evAt Tryz.prog env (ct m) J (m+1) 118 37 Tryz.f118 d77 p ms σ
noncomputable def l77 (J:Nat→Nat→Nat→St→Option ByteArray→Option ByteArray) (m:Nat) (p ms:List Nat) (M:Nat) (σ:St):=loopAt Tryz.prog env (ct m) J (m+1) 118 37 Tryz.f118 d77 p ms M σ
noncomputable def s77_4 (x0:Int) (x1:ByteArray) (x2:Int):St:=⟨tsOf [(3,(.dat 144 (.int x0))),(4,(.dat 9 (.str x1))),(5,(.dat 3 (.int x2)))],[],0⟩
noncomputable def s77_5 (x0:Int) (x1:ByteArray):St:=⟨tsOf [(3,(.dat 144 (.int x0))),(4,(.dat 9 (.str x1)))],[],0⟩
noncomputable def s77_0 (x0:Int):St:=⟨tsOf [(3,(.dat 144 (.int x0)))],[],0⟩
abbrev H77_2 (m M2:Nat) (rec2:Int→ByteArray→Int→Option ByteArray):Prop:=∀x0 x1 x2,l77 jn m w77_0 [] M2 (s77_4 x0 x1 x2)=rec2 x0 x1 x2
theorem zJ_j4_eq m M2 rec2 (h2:H77_2 m M2 rec2) x0 x1 x2:e77 jn m w77_1 [M2] (s77_4 x0 x1 x2)=zJ_j4 m rec2 x0 x1 x2:=
 tq (g:=fun J=>(jj J 1 6 M2 (s77_4 x0 x1 (IntKind.wrap .i64 (x2+1))) (l77 J m w77_0 [] M2))) (by simp only[jj_eq,h2];rfl)
theorem zJ_j3_eq m M2 rec2 (h2:H77_2 m M2 rec2) x0 x1 x2:e77 jn m w77_2 [M2] (s77_4 x0 x1 x2)=zJ_j3 m rec2 x0 x1 x2:=
 tq (g:=fun J=>(bif (Nat.ble ((ByteArray.size x1)+(ByteArray.size (strOfNums [(orI IntKind.u8 (IntKind.wrap IntKind.u8 (Int.tmod x0 128)) 128)]))) 1152921504606846976) then
  (jj J 0 7 0 (s77_4 (IntKind.wrap IntKind.u64 (Int.tdiv x0 128)) (x1++(strOfNums [(orI IntKind.u8 (IntKind.wrap IntKind.u8 (Int.tmod x0 128)) 128)])) x2) (e77 J m w77_1 [M2]))
   else
  none)) (by simp only[jj_eq,zJ_j4_eq m M2 rec2 h2];rfl)
theorem zJ_j5_eq m x0 x1:e77 jn m w77_3 [] (s77_5 x0 x1)=zJ_j5 m x0 x1:=
 tq (g:=fun J=>(bif (Nat.ble ((ByteArray.size x1)+(ByteArray.size (strOfNums [(IntKind.wrap IntKind.u8 x0)]))) 1152921504606846976) then
  some (x1++(strOfNums [(IntKind.wrap IntKind.u8 x0)]))
   else
  none)) (by rfl)
theorem zJ_l2_eq m:∀M2 x0 x1 x2,l77 jn m w77_0 [] M2 (s77_4 x0 x1 x2)=zJ_l2 m M2 x0 x1 x2
 |0,_,_,_=>rfl
 | M2+1,x0,x1,x2=>
   tl (g:=fun J=>(bif (decide (x2<10)) then
  (bif (decide (128≤x0)) then
  (jj J 0 8 0 (s77_4 x0 x1 x2) (e77 J m w77_2 [M2]))
  else
  (jj J 0 10 0 (s77_5 x0 x1) (e77 J m w77_3 [])))
   else
  (jj J 0 10 0 (s77_5 x0 x1) (e77 J m w77_3 [])))) (by simp only[jj_eq,zJ_j3_eq m M2 (zJ_l2 m M2) (zJ_l2_eq m M2),zJ_j5_eq m];rfl)
theorem zJ_j1_eq m x0 x1 x2:e77 jn m w77_4 [] (s77_4 x0 x1 x2)=zJ_j1 m x0 x1 x2:=
 tq (g:=fun J=>(jj J 1 6 (Nat.succ m) (s77_4 x0 x1 x2) (l77 J m w77_0 [] (Nat.succ m)))) (by simp only[jj_eq,zJ_l2_eq m];rfl)
theorem zJ_j0_eq m x0:e77 jn m [1,1,1] [] (s77_0 x0)=zJ_j0 m x0:=
 tq (g:=fun J=>(jj J 0 6 0 (s77_4 x0 (ByteArray.mk (List.toArray [])) 0) (e77 J m w77_4 []))) (by simp only[jj_eq,zJ_j1_eq m];rfl)
theorem zJ_eq m a0:e77 jn m [] [] ⟨[(.dat 3 (.int a0))],[],0⟩=zJ (m+1) a0:=
 tq (g:=fun J=>(bif (decide (a0<0)) then
  (jj J 0 4 0 (s77_0 (complI IntKind.u64 (shlI IntKind.u64 (IntKind.wrap IntKind.u64 a0) 1))) (e77 J m [1,1,1] []))
   else
  (jj J 0 4 0 (s77_0 (shlI IntKind.u64 (IntKind.wrap IntKind.u64 a0) 1)) (e77 J m [1,1,1] [])))) (by simp only[jj_eq,zJ_j0_eq m];rfl)
def w65_9:List Nat:=[1,1,0,1,0,1]
def w65_8:List Nat:=w65_9++[1,1,1,1]
def w65_3:List Nat:=w65_8++[1,1,1,1,0,1,1]
def w65_0:List Nat:=w65_3++[0]
def w65_7:List Nat:=w65_8++[1,1,1,1,1,1,0,1,1]
def w65_2:List Nat:=w65_0++[0,1]
def w65_4:List Nat:=w65_7++[0]
def w65_1:List Nat:=w65_2++[1]
def w65_6:List Nat:=w65_4++[0,1]
def w65_5:List Nat:=w65_6++[1]
noncomputable def e65 (J:Nat→Nat→Nat→St→Option ByteArray→Option ByteArray) (m:Nat) (p ms:List Nat) (σ:St):=evAt Tryz.prog env (ct m) J (m+1) 102 112 Tryz.f102 d77 p ms σ
noncomputable def l65 (J:Nat→Nat→Nat→St→Option ByteArray→Option ByteArray) (m:Nat) (p ms:List Nat) (M:Nat) (σ:St):=loopAt Tryz.prog env (ct m) J (m+1) 102 112 Tryz.f102 d77 p ms M σ
noncomputable def s65_1 (x0:ByteArray):St:=⟨tsOf [(3,(.dat 9 (.str x0)))],[],0⟩
noncomputable def s65_6 (x0:ByteArray) (x1:Int) (x2:Dt):St:=⟨tsOf [(1,(.ptr 0 [] 0)),(3,(.dat 9 (.str x0))),(4,(.dat 3 (.int x1)))],[(.box 36 (.dat 36 x2))],0⟩
noncomputable def s65_10 (x0:ByteArray) (x1:Int) (x2:Dt):St:=⟨tsOf [(1,(.ptr 0 [] 0)),(3,(.dat 9 (.str x0))),(5,(.dat 3 (.int x1)))],[(.box 36 (.dat 36 x2))],0⟩
noncomputable def s65_2 (x0:ByteArray) (x1:Int) (x2:Bool) (x3:Dt):St:=⟨tsOf [(1,(.ptr 0 [] 0)),(3,(.dat 9 (.str x0))),(12,(.dat 3 (.int x1))),(30,(.dat 4 (.bool x2)))],[(.box 36 (.dat 36 x3))],0⟩
noncomputable def s65_0 (x0:ByteArray) (x1:Int) (x2:Bool) (x3:Dt):St:=⟨tsOf [(1,(.ptr 0 [] 0)),(3,(.dat 9 (.str x0))),(12,(.dat 3 (.int x1))),(13,(.dat 4 (.bool x2)))],[(.box 36 (.dat 36 x3))],0⟩
theorem qK_j1_eq m x0:e65 jn m [1,1,1] [] (s65_1 x0)=qK_j1 m (qK m) x0:=
 tq (g:=fun J=>some x0) (by rfl)
abbrev H65_4 (m M4:Nat) (rec4:ByteArray→Int→Dt→Option ByteArray):Prop:=∀x0 x1 x2,l65 jn m w65_0 [] M4 (s65_6 x0 x1 x2)=rec4 x0 x1 x2
theorem qK_j6_eq m M4 rec4 (h4:H65_4 m M4 rec4) x0 x1 x2:e65 jn m w65_1 [M4] (s65_6 x0 x1 x2)=qK_j6 m (qK m) rec4 x0 x1 x2:=
 tq (g:=fun J=>(jj J 1 16 M4 (s65_6 x0 (IntKind.wrap .i64 (x1+1)) x2) (l65 J m w65_0 [] M4))) (by simp only[jj_eq,h4];rfl)
theorem qK_j5_eq m M4 rec4 (h4:H65_4 m M4 rec4) x0 x1 x2:e65 jn m w65_2 [M4] (s65_6 x0 x1 x2)=qK_j5 m (qK m) rec4 x0 x1 x2:=
 tq (g:=fun J=>((idx (Dt.L x2 3) x1).bind fun v3=>
  ((qK m v3).bind fun r4=>
  (bif (Nat.ble ((ByteArray.size x0)+(ByteArray.size r4)) 1152921504606846976) then
  (jj J 0 17 0 (s65_6 (x0++r4) x1 x2) (e65 J m w65_1 [M4]))
  else
  none)))) (by simp only[jj_eq,qK_j6_eq m M4 rec4 h4];rfl)
theorem qK_l4_eq m:∀M4 x0 x1 x2,l65 jn m w65_0 [] M4 (s65_6 x0 x1 x2)=qK_l4 m (qK m) M4 x0 x1 x2
 |0,_,_,_=>rfl
 | M4+1,x0,x1,x2=>
   tl (g:=fun J=>(bif (decide (x1<(List.length (Dt.L x2 3):Int))) then
  (jj J 0 18 0 (s65_6 x0 x1 x2) (e65 J m w65_2 [M4]))
   else
  (jj J 0 25 0 (s65_1 x0) (e65 J m [1,1,1] [])))) (by simp only[jj_eq,qK_j5_eq m M4 (qK_l4 m (qK m) M4) (qK_l4_eq m M4),qK_j1_eq m];rfl)
theorem qK_j3_eq m x0 x1 x2:e65 jn m w65_3 [] (s65_6 x0 x1 x2)=qK_j3 m (qK m) x0 x1 x2:=
 tq (g:=fun J=>(jj J 1 16 (Nat.succ m) (s65_6 x0 x1 x2) (l65 J m w65_0 [] (Nat.succ m)))) (by simp only[jj_eq,qK_l4_eq m];rfl)
abbrev H65_8 (m M8:Nat) (rec8:ByteArray→Int→Dt→Option ByteArray):Prop:=∀x0 x1 x2,l65 jn m w65_4 [] M8 (s65_10 x0 x1 x2)=rec8 x0 x1 x2
theorem qK_j10_eq m M8 rec8 (h8:H65_8 m M8 rec8) x0 x1 x2:e65 jn m w65_5 [M8] (s65_10 x0 x1 x2)=qK_j10 m (qK m) rec8 x0 x1 x2:=
 tq (g:=fun J=>(jj J 1 22 M8 (s65_10 x0 (IntKind.wrap .i64 (x1+1)) x2) (l65 J m w65_4 [] M8))) (by simp only[jj_eq,h8];rfl)
theorem qK_j9_eq m M8 rec8 (h8:H65_8 m M8 rec8) x0 x1 x2:e65 jn m w65_6 [M8] (s65_10 x0 x1 x2)=qK_j9 m (qK m) rec8 x0 x1 x2:=
 tq (g:=fun J=>((idx (Dt.L x2 4) x1).bind fun v6=>
  ((zJ m (ByteArray.size (Dt.S v6 0):Int)).bind fun r7=>
  (bif (Nat.ble ((ByteArray.size x0)+(ByteArray.size r7)) 1152921504606846976) then
  ((idx (Dt.L x2 4) x1).bind fun v8=>
  (bif (Nat.ble ((ByteArray.size (x0++r7))+(ByteArray.size (Dt.S v8 0))) 1152921504606846976) then
  ((idx (Dt.L x2 4) x1).bind fun v9=>
  ((qK m (Dt.fld v9 1)).bind fun r10=>
  (bif (Nat.ble ((ByteArray.size ((x0++r7)++(Dt.S v8 0)))+(ByteArray.size r10)) 1152921504606846976) then
  (jj J 0 23 0 (s65_10 (((x0++r7)++(Dt.S v8 0))++r10) x1 x2) (e65 J m w65_5 [M8]))
  else
  none)))
  else
  none))
  else
  none)))) (by simp only[jj_eq,qK_j10_eq m M8 rec8 h8];rfl)
theorem qK_l8_eq m:∀M8 x0 x1 x2,l65 jn m w65_4 [] M8 (s65_10 x0 x1 x2)=qK_l8 m (qK m) M8 x0 x1 x2
 |0,_,_,_=>rfl
 | M8+1,x0,x1,x2=>
   tl (g:=fun J=>(bif (decide (x1<(List.length (Dt.L x2 4):Int))) then
  (jj J 0 24 0 (s65_10 x0 x1 x2) (e65 J m w65_6 [M8]))
   else
  (jj J 0 25 0 (s65_1 x0) (e65 J m [1,1,1] [])))) (by simp only[jj_eq,qK_j9_eq m M8 (qK_l8 m (qK m) M8) (qK_l8_eq m M8),qK_j1_eq m];rfl)
theorem qK_j7_eq m x0 x1 x2:e65 jn m w65_7 [] (s65_10 x0 x1 x2)=qK_j7 m (qK m) x0 x1 x2:=
 tq (g:=fun J=>(jj J 1 22 (Nat.succ m) (s65_10 x0 x1 x2) (l65 J m w65_4 [] (Nat.succ m)))) (by simp only[jj_eq,qK_l8_eq m];rfl)
theorem qK_j2_eq m x0 x1 x2 x3:e65 jn m w65_8 [] (s65_2 x0 x1 x2 x3)=qK_j2 m (qK m) x0 x1 x2 x3:=
 tq (g:=fun J=>(bif x2 then
  ((zJ m (ByteArray.size (Dt.S x3 2):Int)).bind fun r1=>
  (bif (Nat.ble ((ByteArray.size x0)+(ByteArray.size r1)) 1152921504606846976) then
  (bif (Nat.ble ((ByteArray.size (x0++r1))+(ByteArray.size (Dt.S x3 2))) 1152921504606846976) then
  (jj J 0 25 0 (s65_1 ((x0++r1)++(Dt.S x3 2))) (e65 J m [1,1,1] []))
  else
  none)
  else
  none))
   else
  (bif (x1==8) then
  (bif (Nat.ble ((ByteArray.size x0)+(ByteArray.size (Dt.S x3 2))) 1152921504606846976) then
  (jj J 0 25 0 (s65_1 (x0++(Dt.S x3 2))) (e65 J m [1,1,1] []))
  else
  none)
  else
  (bif (x1==6) then
  ((zJ m (List.length (Dt.L x3 3):Int)).bind fun r2=>
  (bif (Nat.ble ((ByteArray.size x0)+(ByteArray.size r2)) 1152921504606846976) then
  (jj J 0 16 0 (s65_6 (x0++r2) 0 x3) (e65 J m w65_3 []))
  else
  none))
  else
  (bif (x1==5) then
  ((zJ m (List.length (Dt.L x3 4):Int)).bind fun r5=>
  (bif (Nat.ble ((ByteArray.size x0)+(ByteArray.size r5)) 1152921504606846976) then
  (jj J 0 22 0 (s65_10 (x0++r5) 0 x3) (e65 J m w65_7 []))
  else
  none))
  else
  (jj J 0 25 0 (s65_1 x0) (e65 J m [1,1,1] []))))))) (by simp only[jj_eq,qK_j1_eq m,qK_j3_eq m,qK_j7_eq m];rfl)
theorem qK_j0_eq m x0 x1 x2 x3:e65 jn m w65_9 [] (s65_0 x0 x1 x2 x3)=qK_j0 m (qK m) x0 x1 x2 x3:=
 tq (g:=fun J=>(bif x2 then
  ((zJ m (Dt.I x3 1)).bind fun r0=>
  (bif (Nat.ble ((ByteArray.size x0)+(ByteArray.size r0)) 1152921504606846976) then
  (jj J 0 25 0 (s65_1 (x0++r0)) (e65 J m [1,1,1] []))
  else
  none))
   else
  (bif (x1==9) then
  (bif (Nat.ble ((ByteArray.size x0)+(ByteArray.size (strOfNums [(IntKind.wrap IntKind.u8 (Dt.I x3 1))]))) 1152921504606846976) then
  (jj J 0 25 0 (s65_1 (x0++(strOfNums [(IntKind.wrap IntKind.u8 (Dt.I x3 1))]))) (e65 J m [1,1,1] []))
  else
  none)
  else
  (bif (x1==4) then
  (jj J 0 10 0 (s65_2 x0 x1 (x1==4) x3) (e65 J m w65_8 []))
  else
  (jj J 0 10 0 (s65_2 x0 x1 (x1==7) x3) (e65 J m w65_8 [])))))) (by simp only[jj_eq,qK_j1_eq m,qK_j2_eq m];rfl)
theorem qK_eq m a0:e65 jn m [] [] ⟨[(.dat 36 a0)],[],0⟩=qK (m+1) a0:=
 tq (g:=fun J=>(bif ((Dt.I a0 0)==3) then
  (jj J 0 5 0 (s65_0 (strOfNums [(IntKind.wrap IntKind.u8 (Dt.I a0 0))]) (Dt.I a0 0) ((Dt.I a0 0)==3) a0) (e65 J m w65_9 []))
   else
  (jj J 0 5 0 (s65_0 (strOfNums [(IntKind.wrap IntKind.u8 (Dt.I a0 0))]) (Dt.I a0 0) ((Dt.I a0 0)==10) a0) (e65 J m w65_9 [])))) (by simp only[jj_eq,qK_j0_eq m];rfl)
noncomputable def e53 (J:Nat→Nat→Nat→St→Option (ByteArray×Int)→Option (ByteArray×Int)) (m:Nat) (p ms:List Nat) (σ:St):=evAt Tryz.prog env (ct m) J (m+1) 81 9 Tryz.f81 d53 p ms σ
noncomputable def s53_0 (x0:Dt):St:=⟨tsOf [(1,(.ptr 0 [] 0))],[(.box 36 (.dat 36 x0))],0⟩
theorem z6_j0_eq m x0:e53 jn m [1,1] [] (s53_0 x0)=z6_j0 m x0:=
 tq (g:=fun J=>((qK m x0).bind fun r1=>
  some (r1,0))) (by rfl)
theorem z6_eq m a0:e53 jn m [] [] ⟨[(.dat 36 a0)],[],0⟩=z6 (m+1) a0:=
 tq (g:=fun J=>((yC m a0).bind fun r0=>
  (bif (Bool.not r0) then
  some ((ByteArray.mk (List.toArray [])),8)
  else
  (jj J 0 3 0 (s53_0 a0) (e53 J m [1,1] []))))) (by simp only[jj_eq,z6_j0_eq m];rfl)
noncomputable def e41 (J:Nat→Nat→Nat→St→Option (Int×Int)→Option (Int×Int)) (m:Nat) (p ms:List Nat) (σ:St):=evAt Tryz.prog env (ct m) J (m+1) 53 14 Tryz.f53 d19 p ms σ
theorem z8_eq m a0:e41 jn m [] [] ⟨[(.dat 36 a0)],[],0⟩=z8 (m+1) a0:=
 tq (g:=fun J=>((z6 m a0).bind fun r0=>
  some ((ByteArray.size r0.1:Int),r0.2))) (by rfl)
def w22_0:List Nat:=[1,1,0,1,0]
def w22_4:List Nat:=[1,1,0,1,0,0,1]
def w22_1:List Nat:=w22_4++[1]
def w22_2:List Nat:=w22_4++[0,0,1,1,1]
def w22_3:List Nat:=w22_4++[0,0,1,1,0,1]
noncomputable def e22 (J:Nat→Nat→Nat→St→Option Int→Option Int) (m:Nat) (p ms:List Nat) (σ:St):=evAt Tryz.prog env (ct m) J (m+1) 32 47 Tryz.f32 d25 p ms σ
noncomputable def l22 (J:Nat→Nat→Nat→St→Option Int→Option Int) (m:Nat) (p ms:List Nat) (M:Nat) (σ:St):=loopAt Tryz.prog env (ct m) J (m+1) 32 47 Tryz.f32 d25 p ms M σ
noncomputable def s22_5 (x0:List Dt) (x1 x2 x3 x4 x5:Int):St:=⟨tsOf [(0,(.dat 23 (.lst x0))),(1,(.dat 3 (.int x1))),(5,(.dat 3 (.int x2))),(6,(.dat 3 (.int x3))),(7,(.dat 3 (.int x4))),(8,(.dat 3 (.int x5)))],[],0⟩
noncomputable def s22_4 (x0:List Dt) (x1 x2 x3 x4 x5 x6:Int):St:=⟨tsOf [(0,(.dat 23 (.lst x0))),(1,(.dat 3 (.int x1))),(5,(.dat 3 (.int x2))),(6,(.dat 3 (.int x3))),(7,(.dat 3 (.int x4))),(8,(.dat 3 (.int x5))),(9,(.dat 3 (.int x6)))],[],0⟩
noncomputable def s22_3 (x0:List Dt) (x1 x2 x3 x4 x5 x6:Int) (x7:Bool):St:=⟨tsOf [(0,(.dat 23 (.lst x0))),(1,(.dat 3 (.int x1))),(5,(.dat 3 (.int x2))),(6,(.dat 3 (.int x3))),(7,(.dat 3 (.int x4))),(8,(.dat 3 (.int x5))),(9,(.dat 3 (.int x6))),(37,(.dat 4 (.bool x7)))],[],0⟩
noncomputable def s22_7 (x0:Int):St:=⟨tsOf [(5,(.dat 3 (.int x0)))],[],0⟩
noncomputable def s22_6 (x0 x1 x2:Int):St:=⟨tsOf [(1,(.dat 3 (.int x0))),(5,(.dat 3 (.int x1))),(7,(.dat 3 (.int x2)))],[],0⟩
abbrev H22_1 (m M1:Nat) (rec1:List Dt→Int→Int→Int→Int→Int→Option Int):Prop:=∀x0 x1 x2 x3 x4 x5,l22 jn m w22_0 [] M1 (s22_5 x0 x1 x2 x3 x4 x5)=rec1 x0 x1 x2 x3 x4 x5
theorem zA_j5_eq m M1 rec1 (h1:H22_1 m M1 rec1) x0 x1 x2 x3 x4 x5:e22 jn m w22_1 [M1] (s22_5 x0 x1 x2 x3 x4 x5)=zA_j5 m rec1 x0 x1 x2 x3 x4 x5:=
 tq (g:=fun J=>(jj J 1 3 M1 (s22_5 x0 x1 x2 x3 x4 (IntKind.wrap .i64 (x5+1))) (l22 J m w22_0 [] M1))) (by simp only[jj_eq,h1];rfl)
theorem zA_j4_eq m M1 rec1 (h1:H22_1 m M1 rec1) x0 x1 x2 x3 x4 x5 x6:e22 jn m w22_2 [M1] (s22_4 x0 x1 x2 x3 x4 x5 x6)=zA_j4 m rec1 x0 x1 x2 x3 x4 x5 x6:=
 tq (g:=fun J=>(jj J 0 4 0 (s22_5 x0 x1 x2 (IntKind.wrap .i64 (x3+x6)) x4 x5) (e22 J m w22_1 [M1]))) (by simp only[jj_eq,zA_j5_eq m M1 rec1 h1];rfl)
theorem zA_j3_eq m M1 rec1 (h1:H22_1 m M1 rec1) x0 x1 x2 x3 x4 x5 x6 x7:e22 jn m w22_3 [M1] (s22_3 x0 x1 x2 x3 x4 x5 x6 x7)=zA_j3 m rec1 x0 x1 x2 x3 x4 x5 x6 x7:=
 tq (g:=fun J=>(bif x7 then
  (jj J 0 10 0 (s22_4 x0 x1 (IntKind.wrap .i64 (x2+1)) 0 x4 x5 x6) (e22 J m w22_2 [M1]))
   else
  (jj J 0 10 0 (s22_4 x0 x1 x2 x3 x4 x5 x6) (e22 J m w22_2 [M1])))) (by simp only[jj_eq,zA_j4_eq m M1 rec1 h1];rfl)
theorem zA_j2_eq m M1 rec1 (h1:H22_1 m M1 rec1) x0 x1 x2 x3 x4 x5:e22 jn m w22_4 [M1] (s22_5 x0 x1 x2 x3 x4 x5)=zA_j2 m rec1 x0 x1 x2 x3 x4 x5:=
 tq (g:=fun J=>((idx x0 x5).bind fun v0=>
  ((z8 m v0).bind fun r1=>
  (bif (decide (x1<(IntKind.wrap .i64 (x3+r1.1)))) then
  (jj J 0 8 0 (s22_3 x0 x1 x2 x3 (IntKind.wrap .i64 (x4+r1.1)) x5 r1.1 true) (e22 J m w22_3 [M1]))
  else
  (jj J 0 8 0 (s22_3 x0 x1 x2 x3 (IntKind.wrap .i64 (x4+r1.1)) x5 r1.1 (x2==0)) (e22 J m w22_3 [M1])))))) (by simp only[jj_eq,zA_j3_eq m M1 rec1 h1];rfl)
theorem zA_j7_eq m x0:e22 jn m [1,1,1,1] [] (s22_7 x0)=zA_j7 m x0:=
 tq (g:=fun J=>some x0) (by rfl)
theorem zA_j6_eq m x0 x1 x2:e22 jn m [1,1,1] [] (s22_6 x0 x1 x2)=zA_j6 m x0 x1 x2:=
 tq (g:=fun J=>(bif (decide (x2≤x0)) then
  some 0
   else
  (jj J 0 13 0 (s22_7 x1) (e22 J m [1,1,1,1] [])))) (by simp only[jj_eq,zA_j7_eq m];rfl)
theorem zA_l1_eq m:∀M1 x0 x1 x2 x3 x4 x5,l22 jn m w22_0 [] M1 (s22_5 x0 x1 x2 x3 x4 x5)=zA_l1 m M1 x0 x1 x2 x3 x4 x5
 |0,_,_,_,_,_,_=>rfl
 | M1+1,x0,x1,x2,x3,x4,x5=>
   tl (g:=fun J=>(bif (decide (x5<(List.length x0:Int))) then
  (jj J 0 5 0 (s22_5 x0 x1 x2 x3 x4 x5) (e22 J m w22_4 [M1]))
   else
  (jj J 0 11 0 (s22_6 x1 x2 x4) (e22 J m [1,1,1] [])))) (by simp only[jj_eq,zA_j2_eq m M1 (zA_l1 m M1) (zA_l1_eq m M1),zA_j6_eq m];rfl)
theorem zA_j0_eq m x0 x1 x2 x3 x4 x5:e22 jn m [1,1,0,1] [] (s22_5 x0 x1 x2 x3 x4 x5)=zA_j0 m x0 x1 x2 x3 x4 x5:=
 tq (g:=fun J=>(jj J 1 3 (Nat.succ m) (s22_5 x0 x1 x2 x3 x4 x5) (l22 J m w22_0 [] (Nat.succ m)))) (by simp only[jj_eq,zA_l1_eq m];rfl)
theorem zA_eq m a0 a1:e22 jn m [] [] ⟨[(.dat 23 (.lst a0)),(.dat 3 (.int a1))],[],0⟩=zA (m+1) a0 a1:=
 tq (g:=fun J=>(jj J 0 3 0 (s22_5 a0 a1 0 a1 0 0) (e22 J m [1,1,0,1] []))) (by simp only[jj_eq,zA_j0_eq m];rfl)
def w11_0:List Nat:=[1,1,1,0,1]
noncomputable def e11 (J:Nat→Nat→Nat→St→Option (Int×Int)→Option (Int×Int)) (m:Nat) (p ms:List Nat) (σ:St):=evAt Tryz.prog env (ct m) J (m+1) 19 22 Tryz.f19 d19 p ms σ
noncomputable def s11_2 (x0:Int):St:=⟨tsOf [(8,(.dat 3 (.int x0)))],[],0⟩
noncomputable def s11_1 (x0:Int) (x1:Bool):St:=⟨tsOf [(8,(.dat 3 (.int x0))),(20,(.dat 4 (.bool x1)))],[],0⟩
noncomputable def s11_0 (x0:List Dt) (x1:Int) (x2:Bool):St:=⟨tsOf [(0,(.dat 23 (.lst x0))),(1,(.dat 3 (.int x1))),(2,(.dat 4 (.bool x2)))],[],0⟩
theorem zV_j2_eq m x0:e11 jn m [1,1,1,1] [] (s11_2 x0)=zV_j2 m x0:=
 tq (g:=fun J=>some (x0,0)) (by rfl)
theorem zV_j1_eq m x0 x1:e11 jn m w11_0 [] (s11_1 x0 x1)=zV_j1 m x0 x1:=
 tq (g:=fun J=>(bif x1 then
  some (0,22)
   else
  (jj J 0 6 0 (s11_2 x0) (e11 J m [1,1,1,1] [])))) (by simp only[jj_eq,zV_j2_eq m];rfl)
theorem zV_j0_eq m x0 x1 x2:e11 jn m [1,1] [] (s11_0 x0 x1 x2)=zV_j0 m x0 x1 x2:=
 tq (g:=fun J=>((zA m x0 (bif (decide (1099511627776<x1)) then 1099511627776 else x1)).bind fun r0=>
  (bif (decide (0<r0)) then
  (jj J 0 5 0 (s11_1 r0 (Bool.not x2)) (e11 J m w11_0 []))
  else
  (jj J 0 5 0 (s11_1 r0 false) (e11 J m w11_0 []))))) (by simp only[jj_eq,zV_j1_eq m];rfl)
theorem zV_eq m a0 a1 a2:e11 jn m [] [] ⟨[(.dat 23 (.lst a0)),(.dat 3 (.int a1)),(.dat 4 (.bool a2))],[],0⟩=zV (m+1) a0 a1 a2:=
 tq (g:=fun J=>(bif (decide (a1<1)) then
  some (0,1)
   else
  (jj J 0 3 0 (s11_0 a0 a1 a2) (e11 J m [1,1] [])))) (by simp only[jj_eq,zV_j0_eq m];rfl)
def w80_5:List Nat:=[1,1,1,0,1]
def w80_0:List Nat:=[1,1,1,0,1,0]
def w80_4:List Nat:=w80_0++[0,1]
def w80_1:List Nat:=w80_4++[1]
def w80_2:List Nat:=w80_4++[0,0,1]
def w80_3:List Nat:=w80_4++[0,0,0,1]
noncomputable def e80 (J:Nat→Nat→Nat→St→Option (Int×Bool)→Option (Int×Bool)) (m:Nat) (p ms:List Nat) (σ:St):=evAt Tryz.prog env (ct m) J (m+1) 137 49 Tryz.f137 d74 p ms σ
noncomputable def l80 (J:Nat→Nat→Nat→St→Option (Int×Bool)→Option (Int×Bool)) (m:Nat) (p ms:List Nat) (M:Nat) (σ:St):=loopAt Tryz.prog env (ct m) J (m+1) 137 49 Tryz.f137 d74 p ms M σ
noncomputable def s80_7 (x0:ByteArray) (x1 x2:Int):St:=⟨tsOf [(0,(.dat 9 (.str x0))),(4,(.dat 3 (.int x1))),(5,(.dat 3 (.int x2)))],[],0⟩
noncomputable def s80_5 (x0:ByteArray) (x1 x2:Int) (x3:Bool):St:=⟨tsOf [(0,(.dat 9 (.str x0))),(4,(.dat 3 (.int x1))),(5,(.dat 3 (.int x2))),(39,(.dat 4 (.bool x3)))],[],0⟩
noncomputable def s80_8 (x0:Int):St:=⟨tsOf [(4,(.dat 3 (.int x0)))],[],0⟩
noncomputable def s80_1 (x0:ByteArray):St:=⟨tsOf [(0,(.dat 9 (.str x0)))],[],0⟩
noncomputable def s80_0 (x0:ByteArray) (x1:Bool):St:=⟨tsOf [(0,(.dat 9 (.str x0))),(23,(.dat 4 (.bool x1)))],[],0⟩
abbrev H80_3 (m M3:Nat) (rec3:ByteArray→Int→Int→Option (Int×Bool)):Prop:=∀x0 x1 x2,l80 jn m w80_0 [] M3 (s80_7 x0 x1 x2)=rec3 x0 x1 x2
theorem qY_j7_eq m M3 rec3 (h3:H80_3 m M3 rec3) x0 x1 x2:e80 jn m w80_1 [M3] (s80_7 x0 x1 x2)=qY_j7 m rec3 x0 x1 x2:=
 tq (g:=fun J=>(jj J 1 5 M3 (s80_7 x0 x1 (IntKind.wrap .i64 (x2+1))) (l80 J m w80_0 [] M3))) (by simp only[jj_eq,h3];rfl)
theorem qY_j6_eq m M3 rec3 (h3:H80_3 m M3 rec3) x0 x1 x2:e80 jn m w80_2 [M3] (s80_7 x0 x1 x2)=qY_j6 m rec3 x0 x1 x2:=
 tq (g:=fun J=>((idxS x0 x2).bind fun v1=>
  (jj J 0 6 0 (s80_7 x0 (IntKind.wrap .i64 ((IntKind.wrap .i64 (x1*10))+(IntKind.wrap .i64 (IntKind.wrap IntKind.u8 (v1-48))))) x2) (e80 J m w80_1 [M3])))) (by simp only[jj_eq,qY_j7_eq m M3 rec3 h3];rfl)
theorem qY_j5_eq m M3 rec3 (h3:H80_3 m M3 rec3) x0 x1 x2 x3:e80 jn m w80_3 [M3] (s80_5 x0 x1 x2 x3)=qY_j5 m rec3 x0 x1 x2 x3:=
 tq (g:=fun J=>(bif x3 then
  some (0,false)
   else
  (jj J 0 9 0 (s80_7 x0 x1 x2) (e80 J m w80_2 [M3])))) (by simp only[jj_eq,qY_j6_eq m M3 rec3 h3];rfl)
theorem qY_j4_eq m M3 rec3 (h3:H80_3 m M3 rec3) x0 x1 x2:e80 jn m w80_4 [M3] (s80_7 x0 x1 x2)=qY_j4 m rec3 x0 x1 x2:=
 tq (g:=fun J=>((idxS x0 x2).bind fun v0=>
  (bif (decide (v0<48)) then
  (jj J 0 8 0 (s80_5 x0 x1 x2 true) (e80 J m w80_3 [M3]))
  else
  ((idxS x0 x2).bind fun v2=>
  (jj J 0 8 0 (s80_5 x0 x1 x2 (decide (57<v2))) (e80 J m w80_3 [M3])))))) (by simp only[jj_eq,qY_j5_eq m M3 rec3 h3];rfl)
theorem qY_j8_eq m x0:e80 jn m [1,1,1,1] [] (s80_8 x0)=qY_j8 m x0:=
 tq (g:=fun J=>some (x0,true)) (by rfl)
theorem qY_l3_eq m:∀M3 x0 x1 x2,l80 jn m w80_0 [] M3 (s80_7 x0 x1 x2)=qY_l3 m M3 x0 x1 x2
 |0,_,_,_=>rfl
 | M3+1,x0,x1,x2=>
   tl (g:=fun J=>(bif (decide (x2<(ByteArray.size x0:Int))) then
  (jj J 0 7 0 (s80_7 x0 x1 x2) (e80 J m w80_4 [M3]))
   else
  (jj J 0 10 0 (s80_8 x1) (e80 J m [1,1,1,1] [])))) (by simp only[jj_eq,qY_j4_eq m M3 (qY_l3 m M3) (qY_l3_eq m M3),qY_j8_eq m];rfl)
theorem qY_j2_eq m x0 x1 x2:e80 jn m w80_5 [] (s80_7 x0 x1 x2)=qY_j2 m x0 x1 x2:=
 tq (g:=fun J=>(jj J 1 5 (Nat.succ m) (s80_7 x0 x1 x2) (l80 J m w80_0 [] (Nat.succ m)))) (by simp only[jj_eq,qY_l3_eq m];rfl)
theorem qY_j1_eq m x0:e80 jn m [1,1] [] (s80_1 x0)=qY_j1 m x0:=
 tq (g:=fun J=>(jj J 0 5 0 (s80_7 x0 0 0) (e80 J m w80_5 []))) (by simp only[jj_eq,qY_j2_eq m];rfl)
theorem qY_j0_eq m x0 x1:e80 jn m [1,0,1] [] (s80_0 x0 x1)=qY_j0 m x0 x1:=
 tq (g:=fun J=>(bif x1 then
  some (0,false)
   else
  (jj J 0 3 0 (s80_1 x0) (e80 J m [1,1] [])))) (by simp only[jj_eq,qY_j1_eq m];rfl)
theorem qY_eq m a0:e80 jn m [] [] ⟨[(.dat 9 (.str a0))],[],0⟩=qY (m+1) a0:=
 tq (g:=fun J=>(bif (decide ((ByteArray.size a0:Int)<1)) then
  (jj J 0 2 0 (s80_0 a0 true) (e80 J m [1,0,1] []))
   else
  (bif (decide (4<(ByteArray.size a0:Int))) then
  (jj J 0 2 0 (s80_0 a0 true) (e80 J m [1,0,1] []))
  else
  ((idxS a0 0).bind fun v3=>
  (bif (v3==48) then
  (jj J 0 2 0 (s80_0 a0 (decide (1<(ByteArray.size a0:Int)))) (e80 J m [1,0,1] []))
  else
  (jj J 0 2 0 (s80_0 a0 false) (e80 J m [1,0,1] []))))))) (by simp only[jj_eq,qY_j0_eq m];rfl)
def w81_0:List Nat:=[1,1,0,1,0]
def w81_2:List Nat:=[1,1,0,1,0,0,1]
def w81_1:List Nat:=w81_2++[1]
noncomputable def e81 (J:Nat→Nat→Nat→St→Option Int→Option Int) (m:Nat) (p ms:List Nat) (σ:St):=evAt Tryz.prog env (ct m) J (m+1) 155 25 Tryz.f155 d25 p ms σ
noncomputable def l81 (J:Nat→Nat→Nat→St→Option Int→Option Int) (m:Nat) (p ms:List Nat) (M:Nat) (σ:St):=loopAt Tryz.prog env (ct m) J (m+1) 155 25 Tryz.f155 d25 p ms M σ
noncomputable def s81_4 (x0:ByteArray) (x1:Int) (x2:Dt):St:=⟨tsOf [(1,(.dat 9 (.str x0))),(2,(.ptr 0 [] 0)),(5,(.dat 3 (.int x1)))],[(.box 36 (.dat 36 x2))],0⟩
noncomputable def s81_5:St:=⟨tsOf [],[],0⟩
noncomputable def s81_0 (x0:ByteArray) (x1:Dt):St:=⟨tsOf [(1,(.dat 9 (.str x0))),(2,(.ptr 0 [] 0))],[(.box 36 (.dat 36 x1))],0⟩
abbrev H81_2 (m M2:Nat) (rec2:ByteArray→Int→Dt→Option Int):Prop:=∀x0 x1 x2,l81 jn m w81_0 [] M2 (s81_4 x0 x1 x2)=rec2 x0 x1 x2
theorem zT_j4_eq m M2 rec2 (h2:H81_2 m M2 rec2) x0 x1 x2:e81 jn m w81_1 [M2] (s81_4 x0 x1 x2)=zT_j4 m rec2 x0 x1 x2:=
 tq (g:=fun J=>(jj J 1 4 M2 (s81_4 x0 (IntKind.wrap .i64 (x1+1)) x2) (l81 J m w81_0 [] M2))) (by simp only[jj_eq,h2];rfl)
theorem zT_j3_eq m M2 rec2 (h2:H81_2 m M2 rec2) x0 x1 x2:e81 jn m w81_2 [M2] (s81_4 x0 x1 x2)=zT_j3 m rec2 x0 x1 x2:=
 tq (g:=fun J=>((idx (Dt.L x2 4) x1).bind fun v0=>
  (bif ((ByteArray.toList (Dt.S v0 0))==(ByteArray.toList x0)) then
  some x1
  else
  (jj J 0 5 0 (s81_4 x0 x1 x2) (e81 J m w81_1 [M2]))))) (by simp only[jj_eq,zT_j4_eq m M2 rec2 h2];rfl)
theorem zT_j5_eq m:e81 jn m [1,1,1] [] s81_5=zT_j5 m:=
 tq (g:=fun J=>some (-1)) (by rfl)
theorem zT_l2_eq m:∀M2 x0 x1 x2,l81 jn m w81_0 [] M2 (s81_4 x0 x1 x2)=zT_l2 m M2 x0 x1 x2
 |0,_,_,_=>rfl
 | M2+1,x0,x1,x2=>
   tl (g:=fun J=>(bif (decide (x1<(List.length (Dt.L x2 4):Int))) then
  (jj J 0 6 0 (s81_4 x0 x1 x2) (e81 J m w81_2 [M2]))
   else
  (jj J 0 8 0 s81_5 (e81 J m [1,1,1] [])))) (by simp only[jj_eq,zT_j3_eq m M2 (zT_l2 m M2) (zT_l2_eq m M2),zT_j5_eq m];rfl)
theorem zT_j1_eq m x0 x1 x2:e81 jn m [1,1,0,1] [] (s81_4 x0 x1 x2)=zT_j1 m x0 x1 x2:=
 tq (g:=fun J=>(jj J 1 4 (Nat.succ m) (s81_4 x0 x1 x2) (l81 J m w81_0 [] (Nat.succ m)))) (by simp only[jj_eq,zT_l2_eq m];rfl)
theorem zT_j0_eq m x0 x1:e81 jn m [1,1] [] (s81_0 x0 x1)=zT_j0 m x0 x1:=
 tq (g:=fun J=>(jj J 0 4 0 (s81_4 x0 0 x1) (e81 J m [1,1,0,1] []))) (by simp only[jj_eq,zT_j1_eq m];rfl)
theorem zT_eq m a0 a1:e81 jn m [] [] ⟨[(.dat 36 a0),(.dat 9 (.str a1))],[],0⟩=zT (m+1) a0 a1:=
 tq (g:=fun J=>(bif ((Dt.I a0 0) !=5) then
  some (-1)
   else
  (jj J 0 3 0 (s81_0 a1 a0) (e81 J m [1,1] [])))) (by simp only[jj_eq,zT_j0_eq m];rfl)
noncomputable def e79 (J:Nat→Nat→Nat→St→Option (Dt×Bool)→Option (Dt×Bool)) (m:Nat) (p ms:List Nat) (σ:St):=evAt Tryz.prog env (ct m) J (m+1) 136 19 Tryz.f136 d79 p ms σ
noncomputable def s79_0 (x0:Int) (x1 x2:Dt):St:=⟨tsOf [(2,(.ptr 0 [] 0)),(4,(.ptr 1 [] 0)),(6,(.dat 3 (.int x0)))],[(.box 36 (.dat 36 x1)),(.box 36 (.dat 36 x2))],0⟩
theorem yD_j0_eq m x0 x1 x2:e79 jn m [1,1,1] [] (s79_0 x0 x1 x2)=yD_j0 m x0 x1 x2:=
 tq (g:=fun J=>((idx (Dt.L x1 4) x0).bind fun v1=>
  some ((Dt.fld v1 1),true))) (by rfl)
theorem yD_eq m a0 a1:e79 jn m [] [] ⟨[(.dat 36 a0),(.dat 9 (.str a1))],[],0⟩=yD (m+1) a0 a1:=
 tq (g:=fun J=>((zT m a0 a1).bind fun r0=>
  (bif (decide (r0<0)) then
  some (kza2373,false)
  else
  (jj J 0 4 0 (s79_0 r0 a0 kza2373) (e79 J m [1,1,1] []))))) (by simp only[jj_eq,yD_j0_eq m];rfl)
def w78_6:List Nat:=[1,1,1,1,1,1]
def w78_0:List Nat:=[1,1,0,1,0,1,1]
def w78_7:List Nat:=[1,1,1,1,1,0,1]
def w78_1:List Nat:=w78_7++[0]
def w78_4:List Nat:=w78_6++[1,1]
def w78_5:List Nat:=w78_6++[1,0,1]
def w78_3:List Nat:=w78_1++[0,1]
def w78_2:List Nat:=w78_3++[1]
noncomputable def e78 (J:Nat→Nat→Nat→St→Option (List Dt)→Option (List Dt)) (m:Nat) (p ms:List Nat) (σ:St):=evAt Tryz.prog env (ct m) J (m+1) 119 84 Tryz.f119 d44 p ms σ
noncomputable def l78 (J:Nat→Nat→Nat→St→Option (List Dt)→Option (List Dt)) (m:Nat) (p ms:List Nat) (M:Nat) (σ:St):=loopAt Tryz.prog env (ct m) J (m+1) 119 84 Tryz.f119 d44 p ms M σ
noncomputable def s78_1:St:=⟨tsOf [],[],0⟩
noncomputable def s78_7 (x0:List Dt) (x1:Int) (x2:Dt) (x3:List Dt):St:=⟨tsOf [(1,(.dat 38 (.lst x0))),(2,(.ptr 0 [] 0)),(7,(.row 1)),(8,(.dat 3 (.int x1)))],[(.box 36 (.dat 36 x2)),(.row 23 x3)],0⟩
noncomputable def s78_10 (x0:List Dt):St:=⟨tsOf [(7,(.row 0))],[(.row 23 x0)],0⟩
noncomputable def s78_9 (x0:List Dt) (x1:Int) (x2:Bool) (x3:Dt) (x4:List Dt):St:=⟨tsOf [(1,(.dat 38 (.lst x0))),(2,(.ptr 0 [] 0)),(7,(.row 1)),(9,(.dat 3 (.int x1))),(72,(.dat 4 (.bool x2)))],[(.box 36 (.dat 36 x3)),(.row 23 x4)],0⟩
noncomputable def s78_8 (x0:List Dt) (x1:Dt) (x2:List Dt):St:=⟨tsOf [(1,(.dat 38 (.lst x0))),(2,(.ptr 0 [] 0)),(7,(.row 1))],[(.box 36 (.dat 36 x1)),(.row 23 x2)],0⟩
noncomputable def s78_3 (x0:List Dt) (x1:Dt):St:=⟨tsOf [(1,(.dat 38 (.lst x0))),(2,(.ptr 0 [] 0))],[(.box 36 (.dat 36 x1))],0⟩
theorem qO_j1_eq m:e78 jn m w78_0 [] s78_1=qO_j1 m (qO m):=
 tq (g:=fun J=>some []) (by rfl)
abbrev H78_5 (m M5:Nat) (rec5:List Dt→Int→Dt→List Dt→Option (List Dt)):Prop:=∀x0 x1 x2 x3,l78 jn m w78_1 [] M5 (s78_7 x0 x1 x2 x3)=rec5 x0 x1 x2 x3
theorem qO_j7_eq m M5 rec5 (h5:H78_5 m M5 rec5) x0 x1 x2 x3:e78 jn m w78_2 [M5] (s78_7 x0 x1 x2 x3)=qO_j7 m (qO m) rec5 x0 x1 x2 x3:=
 tq (g:=fun J=>(jj J 1 12 M5 (s78_7 x0 (IntKind.wrap .i64 (x1+1)) x2 x3) (l78 J m w78_1 [] M5))) (by simp only[jj_eq,h5];rfl)
theorem qO_j6_eq m M5 rec5 (h5:H78_5 m M5 rec5) x0 x1 x2 x3:e78 jn m w78_3 [M5] (s78_7 x0 x1 x2 x3)=qO_j6 m (qO m) rec5 x0 x1 x2 x3:=
 tq (g:=fun J=>((idx (Dt.L x2 3) x1).bind fun v4=>
  (bif ((Dt.I v4 0)==5) then
  ((idx (Dt.L x2 3) x1).bind fun v5=>
  ((qO m v5 x0).bind fun r6=>
  ((app x3 r6).bind fun v7=>
  (jj J 0 13 0 (s78_7 x0 x1 x2 v7) (e78 J m w78_2 [M5])))))
  else
  (jj J 0 13 0 (s78_7 x0 x1 x2 x3) (e78 J m w78_2 [M5]))))) (by simp only[jj_eq,qO_j7_eq m M5 rec5 h5];rfl)
theorem qO_j10_eq m x0:e78 jn m w78_4 [] (s78_10 x0)=qO_j10 m (qO m) x0:=
 tq (g:=fun J=>some x0) (by rfl)
theorem qO_j9_eq m x0 x1 x2 x3 x4:e78 jn m w78_5 [] (s78_9 x0 x1 x2 x3 x4)=qO_j9 m (qO m) x0 x1 x2 x3 x4:=
 tq (g:=fun J=>(bif x2 then
  ((idx (Dt.L x3 3) x1).bind fun v10=>
  ((cutL x0 1 (List.length x0:Int)).bind fun v11=>
  ((qO m v10 v11).bind fun r12=>
  ((app x4 r12).bind fun v13=>
  (jj J 0 19 0 (s78_10 v13) (e78 J m w78_4 []))))))
   else
  (jj J 0 19 0 (s78_10 x4) (e78 J m w78_4 [])))) (by simp only[jj_eq,qO_j10_eq m];rfl)
theorem qO_j8_eq m x0 x1 x2:e78 jn m w78_6 [] (s78_8 x0 x1 x2)=qO_j8 m (qO m) x0 x1 x2:=
 tq (g:=fun J=>((idx x0 0).bind fun v8=>
  ((qY m (Dt.toStr v8)).bind fun r9=>
  (bif r9.2 then
  (jj J 0 18 0 (s78_9 x0 r9.1 (decide (r9.1<(List.length (Dt.L x1 3):Int))) x1 x2) (e78 J m w78_5 []))
  else
  (jj J 0 18 0 (s78_9 x0 r9.1 false x1 x2) (e78 J m w78_5 [])))))) (by simp only[jj_eq,qO_j9_eq m];rfl)
theorem qO_l5_eq m:∀M5 x0 x1 x2 x3,l78 jn m w78_1 [] M5 (s78_7 x0 x1 x2 x3)=qO_l5 m (qO m) M5 x0 x1 x2 x3
 |0,_,_,_,_=>rfl
 | M5+1,x0,x1,x2,x3=>
   tl (g:=fun J=>(bif (decide (x1<(List.length (Dt.L x2 3):Int))) then
  (jj J 0 14 0 (s78_7 x0 x1 x2 x3) (e78 J m w78_3 [M5]))
   else
  (jj J 0 16 0 (s78_8 x0 x2 x3) (e78 J m w78_6 [])))) (by simp only[jj_eq,qO_j6_eq m M5 (qO_l5 m (qO m) M5) (qO_l5_eq m M5),qO_j8_eq m];rfl)
theorem qO_j4_eq m x0 x1 x2 x3:e78 jn m w78_7 [] (s78_7 x0 x1 x2 x3)=qO_j4 m (qO m) x0 x1 x2 x3:=
 tq (g:=fun J=>(jj J 1 12 (Nat.succ m) (s78_7 x0 x1 x2 x3) (l78 J m w78_1 [] (Nat.succ m)))) (by simp only[jj_eq,qO_l5_eq m];rfl)
theorem qO_j3_eq m x0 x1:e78 jn m [1,1,1,1] [] (s78_3 x0 x1)=qO_j3 m (qO m) x0 x1:=
 tq (g:=fun J=>(jj J 0 12 0 (s78_7 x0 0 x1 []) (e78 J m w78_7 []))) (by simp only[jj_eq,qO_j4_eq m];rfl)
theorem qO_j2_eq m x0 x1:e78 jn m [1,1,1] [] (s78_3 x0 x1)=qO_j2 m (qO m) x0 x1:=
 tq (g:=fun J=>(bif ((Dt.I x1 0) !=6) then
  some []
   else
  (jj J 0 10 0 (s78_3 x0 x1) (e78 J m [1,1,1,1] [])))) (by simp only[jj_eq,qO_j3_eq m];rfl)
theorem qO_j0_eq m x0 x1:e78 jn m [1,1] [] (s78_3 x0 x1)=qO_j0 m (qO m) x0 x1:=
 tq (g:=fun J=>(bif ((Dt.I x1 0)==5) then
  ((idx x0 0).bind fun v0=>
  ((yD m x1 (Dt.toStr v0)).bind fun r1=>
  (bif r1.2 then
  ((cutL x0 1 (List.length x0:Int)).bind fun v2=>
  ((qO m r1.1 v2).bind fun r3=>
  some r3))
  else
  (jj J 0 7 0 s78_1 (e78 J m w78_0 [])))))
   else
  (jj J 0 8 0 (s78_3 x0 x1) (e78 J m [1,1,1] [])))) (by simp only[jj_eq,qO_j1_eq m,qO_j2_eq m];rfl)
theorem qO_eq m a0 a1:e78 jn m [] [] ⟨[(.dat 36 a0),(.dat 38 (.lst a1))],[],0⟩=qO (m+1) a0 a1:=
 tq (g:=fun J=>(bif ((List.length a1:Int)==0) then
  some [a0]
   else
  (jj J 0 3 0 (s78_3 a1 a0) (e78 J m [1,1] [])))) (by simp only[jj_eq,qO_j0_eq m];rfl)
noncomputable def e66 (J:Nat→Nat→Nat→St→Option (List Dt)→Option (List Dt)) (m:Nat) (p ms:List Nat) (σ:St):=evAt Tryz.prog env (ct m) J (m+1) 103 15 Tryz.f103 d44 p ms σ
noncomputable def s66_0 (x0:List Dt):St:=⟨tsOf [(5,(.dat 23 (.lst x0)))],[],0⟩
theorem zX_j0_eq m x0:e66 jn m [1,1,1] [] (s66_0 x0)=zX_j0 m x0:=
 tq (g:=fun J=>some x0) (by rfl)
theorem zX_eq m a0 a1:e66 jn m [] [] ⟨[(.dat 36 a0),(.dat 38 (.lst a1))],[],0⟩=zX (m+1) a0 a1:=
 tq (g:=fun J=>((qO m a0 a1).bind fun r0=>
  (bif ((List.length r0:Int)==0) then
  some [kza2373]
  else
  (jj J 0 4 0 (s66_0 r0) (e66 J m [1,1,1] []))))) (by simp only[jj_eq,zX_j0_eq m];rfl)
def w54_4:List Nat:=[1,1,1,0,1]
def w54_0:List Nat:=[1,1,1,0,1,0]
def w54_3:List Nat:=w54_0++[0,1]
def w54_1:List Nat:=w54_3++[1]
def w54_2:List Nat:=w54_3++[0,0,1,1,1]
noncomputable def e54 (J:Nat→Nat→Nat→St→Option (List Dt)→Option (List Dt)) (m:Nat) (p ms:List Nat) (σ:St):=evAt Tryz.prog env (ct m) J (m+1) 84 57 Tryz.f84 d44 p ms σ
noncomputable def l54 (J:Nat→Nat→Nat→St→Option (List Dt)→Option (List Dt)) (m:Nat) (p ms:List Nat) (M:Nat) (σ:St):=loopAt Tryz.prog env (ct m) J (m+1) 84 57 Tryz.f84 d44 p ms M σ
noncomputable def s54_3 (x0:List Dt) (x1:Int) (x2:List Dt):St:=⟨tsOf [(5,(.dat 23 (.lst x0))),(6,(.row 0)),(7,(.dat 3 (.int x1)))],[(.row 23 x2)],0⟩
noncomputable def s54_4 (x0:List Dt) (x1:Int) (x2:Bool) (x3:List Dt):St:=⟨tsOf [(5,(.dat 23 (.lst x0))),(6,(.row 0)),(7,(.dat 3 (.int x1))),(41,(.dat 4 (.bool x2)))],[(.row 23 x3)],0⟩
noncomputable def s54_5 (x0:List Dt):St:=⟨tsOf [(6,(.row 0))],[(.row 23 x0)],0⟩
abbrev H54_1 (m M1:Nat) (rec1:List Dt→Int→List Dt→Option (List Dt)):Prop:=∀x0 x1 x2,l54 jn m w54_0 [] M1 (s54_3 x0 x1 x2)=rec1 x0 x1 x2
theorem zB_j3_eq m M1 rec1 (h1:H54_1 m M1 rec1) x0 x1 x2:e54 jn m w54_1 [M1] (s54_3 x0 x1 x2)=zB_j3 m rec1 x0 x1 x2:=
 tq (g:=fun J=>(jj J 1 4 M1 (s54_3 x0 (IntKind.wrap .i64 (x1+1)) x2) (l54 J m w54_0 [] M1))) (by simp only[jj_eq,h1];rfl)
theorem zB_j4_eq m M1 rec1 (h1:H54_1 m M1 rec1) x0 x1 x2 x3:e54 jn m w54_2 [M1] (s54_4 x0 x1 x2 x3)=zB_j4 m rec1 x0 x1 x2 x3:=
 tq (g:=fun J=>(bif x2 then
  ((idx x0 x1).bind fun v5=>
  ((app x3 (Dt.L v5 3)).bind fun v6=>
  (jj J 0 5 0 (s54_3 x0 x1 v6) (e54 J m w54_1 [M1]))))
   else
  ((idx x0 x1).bind fun v7=>
  ((app x3 [v7]).bind fun v8=>
  (jj J 0 5 0 (s54_3 x0 x1 v8) (e54 J m w54_1 [M1])))))) (by simp only[jj_eq,zB_j3_eq m M1 rec1 h1];rfl)
theorem zB_j2_eq m M1 rec1 (h1:H54_1 m M1 rec1) x0 x1 x2:e54 jn m w54_3 [M1] (s54_3 x0 x1 x2)=zB_j2 m rec1 x0 x1 x2:=
 tq (g:=fun J=>((idx x0 x1).bind fun v1=>
  (bif ((Dt.I v1 0)==0) then
  ((app x2 [kz3c25e]).bind fun v2=>
  (jj J 0 5 0 (s54_3 x0 x1 v2) (e54 J m w54_1 [M1])))
  else
  ((idx x0 x1).bind fun v3=>
  (bif ((Dt.I v3 0)==6) then
  ((idx x0 x1).bind fun v4=>
  (jj J 0 9 0 (s54_4 x0 x1 (decide (0<(List.length (Dt.L v4 3):Int))) x2) (e54 J m w54_2 [M1])))
  else
  (jj J 0 9 0 (s54_4 x0 x1 false x2) (e54 J m w54_2 [M1]))))))) (by simp only[jj_eq,zB_j3_eq m M1 rec1 h1,zB_j4_eq m M1 rec1 h1];rfl)
theorem zB_j5_eq m x0:e54 jn m [1,1,1,1] [] (s54_5 x0)=zB_j5 m x0:=
 tq (g:=fun J=>some x0) (by rfl)
theorem zB_l1_eq m:∀M1 x0 x1 x2,l54 jn m w54_0 [] M1 (s54_3 x0 x1 x2)=zB_l1 m M1 x0 x1 x2
 |0,_,_,_=>rfl
 | M1+1,x0,x1,x2=>
   tl (g:=fun J=>(bif (decide (x1<(List.length x0:Int))) then
  (jj J 0 6 0 (s54_3 x0 x1 x2) (e54 J m w54_3 [M1]))
   else
  (jj J 0 11 0 (s54_5 x2) (e54 J m [1,1,1,1] [])))) (by simp only[jj_eq,zB_j2_eq m M1 (zB_l1 m M1) (zB_l1_eq m M1),zB_j5_eq m];rfl)
theorem zB_j0_eq m x0 x1 x2:e54 jn m w54_4 [] (s54_3 x0 x1 x2)=zB_j0 m x0 x1 x2:=
 tq (g:=fun J=>(jj J 1 4 (Nat.succ m) (s54_3 x0 x1 x2) (l54 J m w54_0 [] (Nat.succ m)))) (by simp only[jj_eq,zB_l1_eq m];rfl)
theorem zB_eq m a0 a1:e54 jn m [] [] ⟨[(.dat 36 a0),(.dat 38 (.lst a1))],[],0⟩=zB (m+1) a0 a1:=
 tq (g:=fun J=>((zX m a0 a1).bind fun r0=>
  (jj J 0 4 0 (s54_3 r0 0 []) (e54 J m w54_4 [])))) (by simp only[jj_eq,zB_j0_eq m];rfl)
def w42_4:List Nat:=[1,1,1,0,1]
def w42_0:List Nat:=[1,1,1,0,1,0]
def w42_3:List Nat:=w42_0++[0,1]
def w42_1:List Nat:=w42_3++[1]
def w42_2:List Nat:=w42_3++[0,0,1,1]
noncomputable def e42 (J:Nat→Nat→Nat→St→Option Dt→Option Dt) (m:Nat) (p ms:List Nat) (σ:St):=evAt Tryz.prog env (ct m) J (m+1) 55 48 Tryz.f55 d40 p ms σ
noncomputable def l42 (J:Nat→Nat→Nat→St→Option Dt→Option Dt) (m:Nat) (p ms:List Nat) (M:Nat) (σ:St):=loopAt Tryz.prog env (ct m) J (m+1) 55 48 Tryz.f55 d40 p ms M σ
noncomputable def s42_4 (x0:List Dt) (x1:Int) (x2 x3 x4:Dt):St:=⟨tsOf [(2,(.ptr 0 [] 0)),(4,(.ptr 1 [] 0)),(5,(.dat 23 (.lst x0))),(6,(.ptr 2 [] 0)),(7,(.dat 3 (.int x1)))],[(.box 50 (.dat 50 x2)),(.box 36 (.dat 36 x3)),(.box 36 (.dat 36 x4))],0⟩
noncomputable def s42_3 (x0:List Dt) (x1:Int) (x2:Bool) (x3 x4 x5:Dt):St:=⟨tsOf [(2,(.ptr 0 [] 0)),(4,(.ptr 1 [] 0)),(5,(.dat 23 (.lst x0))),(6,(.ptr 2 [] 0)),(7,(.dat 3 (.int x1))),(42,(.dat 4 (.bool x2)))],[(.box 50 (.dat 50 x3)),(.box 36 (.dat 36 x4)),(.box 36 (.dat 36 x5))],0⟩
noncomputable def s42_5 (x0 x1:Dt):St:=⟨tsOf [(4,(.ptr 0 [] 0)),(6,(.ptr 1 [] 0))],[(.box 36 (.dat 36 x0)),(.box 36 (.dat 36 x1))],0⟩
abbrev H42_1 (m M1:Nat) (rec1:List Dt→Int→Dt→Dt→Dt→Option Dt):Prop:=∀x0 x1 x2 x3 x4,l42 jn m w42_0 [] M1 (s42_4 x0 x1 x2 x3 x4)=rec1 x0 x1 x2 x3 x4
theorem zK_j4_eq m M1 rec1 (h1:H42_1 m M1 rec1) x0 x1 x2 x3 x4:e42 jn m w42_1 [M1] (s42_4 x0 x1 x2 x3 x4)=zK_j4 m rec1 x0 x1 x2 x3 x4:=
 tq (g:=fun J=>(jj J 1 4 M1 (s42_4 x0 (IntKind.wrap .i64 (x1+1)) x2 x3 x4) (l42 J m w42_0 [] M1))) (by simp only[jj_eq,h1];rfl)
theorem zK_j3_eq m M1 rec1 (h1:H42_1 m M1 rec1) x0 x1 x2 x3 x4 x5:e42 jn m w42_2 [M1] (s42_3 x0 x1 x2 x3 x4 x5)=zK_j3 m rec1 x0 x1 x2 x3 x4 x5:=
 tq (g:=fun J=>(bif x2 then
  ((idx x0 x1).bind fun v4=>
  (jj J 0 5 0 (s42_4 x0 x1 x3 x4 v4) (e42 J m w42_1 [M1])))
   else
  (jj J 0 5 0 (s42_4 x0 x1 x3 x4 x5) (e42 J m w42_1 [M1])))) (by simp only[jj_eq,zK_j4_eq m M1 rec1 h1];rfl)
theorem zK_j2_eq m M1 rec1 (h1:H42_1 m M1 rec1) x0 x1 x2 x3 x4:e42 jn m w42_3 [M1] (s42_4 x0 x1 x2 x3 x4)=zK_j2 m rec1 x0 x1 x2 x3 x4:=
 tq (g:=fun J=>((idx x0 x1).bind fun v2=>
  ((qB m v2 x4).bind fun r3=>
  (bif (decide (r3<0)) then
  (bif (Bool.not (Dt.B x2 1)) then
  (jj J 0 8 0 (s42_3 x0 x1 true x2 x3 x4) (e42 J m w42_2 [M1]))
  else
  (bif (decide (0<r3)) then
  (jj J 0 8 0 (s42_3 x0 x1 (Dt.B x2 1) x2 x3 x4) (e42 J m w42_2 [M1]))
  else
  (jj J 0 8 0 (s42_3 x0 x1 false x2 x3 x4) (e42 J m w42_2 [M1]))))
  else
  (bif (decide (0<r3)) then
  (jj J 0 8 0 (s42_3 x0 x1 (Dt.B x2 1) x2 x3 x4) (e42 J m w42_2 [M1]))
  else
  (jj J 0 8 0 (s42_3 x0 x1 false x2 x3 x4) (e42 J m w42_2 [M1]))))))) (by simp only[jj_eq,zK_j3_eq m M1 rec1 h1];rfl)
theorem zK_j5_eq m x0 x1:e42 jn m [1,1,1,1] [] (s42_5 x0 x1)=zK_j5 m x0 x1:=
 tq (g:=fun J=>some x1) (by rfl)
theorem zK_l1_eq m:∀M1 x0 x1 x2 x3 x4,l42 jn m w42_0 [] M1 (s42_4 x0 x1 x2 x3 x4)=zK_l1 m M1 x0 x1 x2 x3 x4
 |0,_,_,_,_,_=>rfl
 | M1+1,x0,x1,x2,x3,x4=>
   tl (g:=fun J=>(bif (decide (x1<(List.length x0:Int))) then
  (jj J 0 6 0 (s42_4 x0 x1 x2 x3 x4) (e42 J m w42_3 [M1]))
   else
  (jj J 0 9 0 (s42_5 x3 x4) (e42 J m [1,1,1,1] [])))) (by simp only[jj_eq,zK_j2_eq m M1 (zK_l1 m M1) (zK_l1_eq m M1),zK_j5_eq m];rfl)
theorem zK_j0_eq m x0 x1 x2 x3 x4:e42 jn m w42_4 [] (s42_4 x0 x1 x2 x3 x4)=zK_j0 m x0 x1 x2 x3 x4:=
 tq (g:=fun J=>(jj J 1 4 (Nat.succ m) (s42_4 x0 x1 x2 x3 x4) (l42 J m w42_0 [] (Nat.succ m)))) (by simp only[jj_eq,zK_l1_eq m];rfl)
theorem zK_eq m a0 a1:e42 jn m [] [] ⟨[(.dat 50 a0),(.dat 36 a1)],[],0⟩=zK (m+1) a0 a1:=
 tq (g:=fun J=>((zB m a1 (Dt.L a0 0)).bind fun r0=>
  ((idx r0 0).bind fun v1=>
  (jj J 0 4 0 (s42_4 r0 1 a0 kza2373 v1) (e42 J m w42_4 []))))) (by simp only[jj_eq,zK_j0_eq m];rfl)
def w23_3:List Nat:=[1,0,1,0,0,1]
def w23_0:List Nat:=w23_3++[1]
def w23_1:List Nat:=w23_3++[0,0,1,1]
def w23_2:List Nat:=w23_3++[0,0,1,0,1]
noncomputable def e23 (J:Nat→Nat→Nat→St→Option Int→Option Int) (m:Nat) (p ms:List Nat) (σ:St):=evAt Tryz.prog env (ct m) J (m+1) 33 42 Tryz.f33 d25 p ms σ
noncomputable def l23 (J:Nat→Nat→Nat→St→Option Int→Option Int) (m:Nat) (p ms:List Nat) (M:Nat) (σ:St):=loopAt Tryz.prog env (ct m) J (m+1) 33 42 Tryz.f33 d25 p ms M σ
noncomputable def s23_5 (x0:List Dt) (x1:Int) (x2 x3:Dt):St:=⟨tsOf [(0,(.dat 22 (.lst x0))),(4,(.ptr 0 [] 0)),(5,(.ptr 1 [] 0)),(7,(.dat 3 (.int x1)))],[(.box 36 (.dat 36 x2)),(.box 36 (.dat 36 x3))],0⟩
noncomputable def s23_4 (x0:List Dt) (x1 x2:Int) (x3 x4:Dt):St:=⟨tsOf [(0,(.dat 22 (.lst x0))),(4,(.ptr 0 [] 0)),(5,(.ptr 1 [] 0)),(7,(.dat 3 (.int x1))),(8,(.dat 3 (.int x2)))],[(.box 36 (.dat 36 x3)),(.box 36 (.dat 36 x4))],0⟩
noncomputable def s23_3 (x0:List Dt) (x1 x2:Int) (x3:Bool) (x4 x5:Dt):St:=⟨tsOf [(0,(.dat 22 (.lst x0))),(4,(.ptr 0 [] 0)),(5,(.ptr 1 [] 0)),(7,(.dat 3 (.int x1))),(8,(.dat 3 (.int x2))),(36,(.dat 4 (.bool x3)))],[(.box 36 (.dat 36 x4)),(.box 36 (.dat 36 x5))],0⟩
noncomputable def s23_6:St:=⟨tsOf [],[],0⟩
abbrev H23_1 (m M1:Nat) (rec1:List Dt→Int→Dt→Dt→Option Int):Prop:=∀x0 x1 x2 x3,l23 jn m [1,0,1,0] [] M1 (s23_5 x0 x1 x2 x3)=rec1 x0 x1 x2 x3
theorem qX_j5_eq m M1 rec1 (h1:H23_1 m M1 rec1) x0 x1 x2 x3:e23 jn m w23_0 [M1] (s23_5 x0 x1 x2 x3)=qX_j5 m rec1 x0 x1 x2 x3:=
 tq (g:=fun J=>(jj J 1 2 M1 (s23_5 x0 (IntKind.wrap .i64 (x1+1)) x2 x3) (l23 J m [1,0,1,0] [] M1))) (by simp only[jj_eq,h1];rfl)
theorem qX_j4_eq m M1 rec1 (h1:H23_1 m M1 rec1) x0 x1 x2 x3 x4:e23 jn m w23_1 [M1] (s23_4 x0 x1 x2 x3 x4)=qX_j4 m rec1 x0 x1 x2 x3 x4:=
 tq (g:=fun J=>(bif (x2 !=0) then
  some x2
   else
  (jj J 0 3 0 (s23_5 x0 x1 x3 x4) (e23 J m w23_0 [M1])))) (by simp only[jj_eq,qX_j5_eq m M1 rec1 h1];rfl)
theorem qX_j3_eq m M1 rec1 (h1:H23_1 m M1 rec1) x0 x1 x2 x3 x4 x5:e23 jn m w23_2 [M1] (s23_3 x0 x1 x2 x3 x4 x5)=qX_j3 m rec1 x0 x1 x2 x3 x4 x5:=
 tq (g:=fun J=>(bif x3 then
  some (IntKind.wrap .i64 (0-x2))
   else
  (jj J 0 7 0 (s23_4 x0 x1 x2 x4 x5) (e23 J m w23_1 [M1])))) (by simp only[jj_eq,qX_j4_eq m M1 rec1 h1];rfl)
theorem qX_j2_eq m M1 rec1 (h1:H23_1 m M1 rec1) x0 x1 x2 x3:e23 jn m w23_3 [M1] (s23_5 x0 x1 x2 x3)=qX_j2 m rec1 x0 x1 x2 x3:=
 tq (g:=fun J=>((idx x0 x1).bind fun v0=>
  ((zK m v0 x2).bind fun r1=>
  ((idx x0 x1).bind fun v2=>
  ((zK m v2 x3).bind fun r3=>
  ((qB m r1 r3).bind fun r4=>
  (bif (r4 !=0) then
  ((idx x0 x1).bind fun v5=>
  (jj J 0 6 0 (s23_3 x0 x1 r4 (Dt.B v5 1) x2 x3) (e23 J m w23_2 [M1])))
  else
  (jj J 0 6 0 (s23_3 x0 x1 r4 false x2 x3) (e23 J m w23_2 [M1]))))))))) (by simp only[jj_eq,qX_j3_eq m M1 rec1 h1];rfl)
theorem qX_j6_eq m:e23 jn m [1,1] [] s23_6=qX_j6 m:=
 tq (g:=fun J=>some 0) (by rfl)
theorem qX_l1_eq m:∀M1 x0 x1 x2 x3,l23 jn m [1,0,1,0] [] M1 (s23_5 x0 x1 x2 x3)=qX_l1 m M1 x0 x1 x2 x3
 |0,_,_,_,_=>rfl
 | M1+1,x0,x1,x2,x3=>
   tl (g:=fun J=>(bif (decide (x1<(List.length x0:Int))) then
  (jj J 0 4 0 (s23_5 x0 x1 x2 x3) (e23 J m w23_3 [M1]))
   else
  (jj J 0 9 0 s23_6 (e23 J m [1,1] [])))) (by simp only[jj_eq,qX_j2_eq m M1 (qX_l1 m M1) (qX_l1_eq m M1),qX_j6_eq m];rfl)
theorem qX_j0_eq m x0 x1 x2 x3:e23 jn m [1,0,1] [] (s23_5 x0 x1 x2 x3)=qX_j0 m x0 x1 x2 x3:=
 tq (g:=fun J=>(jj J 1 2 (Nat.succ m) (s23_5 x0 x1 x2 x3) (l23 J m [1,0,1,0] [] (Nat.succ m)))) (by simp only[jj_eq,qX_l1_eq m];rfl)
theorem qX_eq m a0 a1 a2:e23 jn m [] [] ⟨[(.dat 22 (.lst a0)),(.dat 36 a1),(.dat 36 a2)],[],0⟩=qX (m+1) a0 a1 a2:=
 tq (g:=fun J=>(jj J 0 2 0 (s23_5 a0 0 a1 a2) (e23 J m [1,0,1] []))) (by simp only[jj_eq,qX_j0_eq m];rfl)
def w12_0:List Nat:=[1,1,0,1,0]
def w12_6:List Nat:=[1,1,0,1,0,0,1]
def w12_3:List Nat:=w12_6++[1]
def w12_5:List Nat:=w12_6++[0,0,1]
def w12_4:List Nat:=w12_5++[1]
def w12_1:List Nat:=w12_5++[0,0]
def w12_2:List Nat:=w12_1++[0,1]
noncomputable def e12 (J:Nat→Nat→Nat→St→Option (List Dt)→Option (List Dt)) (m:Nat) (p ms:List Nat) (σ:St):=evAt Tryz.prog env (ct m) J (m+1) 20 54 Tryz.f20 d44 p ms σ
noncomputable def l12 (J:Nat→Nat→Nat→St→Option (List Dt)→Option (List Dt)) (m:Nat) (p ms:List Nat) (M:Nat) (σ:St):=loopAt Tryz.prog env (ct m) J (m+1) 20 54 Tryz.f20 d44 p ms M σ
noncomputable def s12_5 (x0 x1 x2:List Dt) (x3 x4:Int):St:=⟨tsOf [(0,(.dat 22 (.lst x0))),(1,(.dat 23 (.lst x1))),(5,(.dat 23 (.lst x2))),(6,(.dat 3 (.int x3))),(7,(.dat 3 (.int x4)))],[],0⟩
noncomputable def s12_7 (x0 x1 x2:List Dt) (x3:Int):St:=⟨tsOf [(0,(.dat 22 (.lst x0))),(1,(.dat 23 (.lst x1))),(5,(.dat 23 (.lst x2))),(6,(.dat 3 (.int x3)))],[],0⟩
noncomputable def s12_8 (x0:List Dt):St:=⟨tsOf [(5,(.dat 23 (.lst x0)))],[],0⟩
abbrev H12_1 (m M1:Nat) (rec1:List Dt→List Dt→List Dt→Int→Option (List Dt)):Prop:=∀x0 x1 x2 x3,l12 jn m w12_0 [] M1 (s12_7 x0 x1 x2 x3)=rec1 x0 x1 x2 x3
abbrev H12_4 (m M1 M4:Nat) (rec4:List Dt→List Dt→List Dt→Int→Int→Option (List Dt)):Prop:=∀x0 x1 x2 x3 x4,l12 jn m w12_1 [M1] M4 (s12_5 x0 x1 x2 x3 x4)=rec4 x0 x1 x2 x3 x4
theorem zE_j5_eq m M1 rec1 (h1:H12_1 m M1 rec1) M4 rec4 (h4:H12_4 m M1 M4 rec4) x0 x1 x2 x3 x4:e12 jn m w12_2 [M1,M4] (s12_5 x0 x1 x2 x3 x4)=zE_j5 m rec1 rec4 x0 x1 x2 x3 x4:=
 tq (g:=fun J=>(jj J 1 6 M4 (s12_5 x0 x1 x2 x3 (IntKind.wrap .i64 (x4-1))) (l12 J m w12_1 [M1] M4))) (by simp only[jj_eq,h4];rfl)
theorem zE_j7_eq m M1 rec1 (h1:H12_1 m M1 rec1) x0 x1 x2 x3:e12 jn m w12_3 [M1] (s12_7 x0 x1 x2 x3)=zE_j7 m rec1 x0 x1 x2 x3:=
 tq (g:=fun J=>(jj J 1 3 M1 (s12_7 x0 x1 x2 (IntKind.wrap .i64 (x3+1))) (l12 J m w12_0 [] M1))) (by simp only[jj_eq,h1];rfl)
theorem zE_j6_eq m M1 rec1 (h1:H12_1 m M1 rec1) x0 x1 x2 x3 x4:e12 jn m w12_4 [M1] (s12_5 x0 x1 x2 x3 x4)=zE_j6 m rec1 x0 x1 x2 x3 x4:=
 tq (g:=fun J=>((cutL x2 0 x4).bind fun v3=>
  ((app [] v3).bind fun v4=>
  ((idx x1 x3).bind fun v5=>
  ((app v4 [v5]).bind fun v6=>
  ((cutL x2 x4 (List.length x2:Int)).bind fun v7=>
  ((app v6 v7).bind fun v8=>
  (jj J 0 4 0 (s12_7 x0 x1 v8 x3) (e12 J m w12_3 [M1]))))))))) (by simp only[jj_eq,zE_j7_eq m M1 rec1 h1];rfl)
theorem zE_l4_eq m M1 rec1 (h1:H12_1 m M1 rec1):∀M4 x0 x1 x2 x3 x4,l12 jn m w12_1 [M1] M4 (s12_5 x0 x1 x2 x3 x4)=zE_l4 m rec1 M4 x0 x1 x2 x3 x4
 |0,_,_,_,_,_=>rfl
 | M4+1,x0,x1,x2,x3,x4=>
   tl (g:=fun J=>(bif (decide (0<x4)) then
  ((idx x2 (IntKind.wrap .i64 (x4-1))).bind fun v0=>
  ((idx x1 x3).bind fun v1=>
  ((qX m x0 v0 v1).bind fun r2=>
  (bif (decide (0<r2)) then
  (jj J 0 7 0 (s12_5 x0 x1 x2 x3 x4) (e12 J m w12_2 [M1,M4]))
  else
  (jj J 0 8 0 (s12_5 x0 x1 x2 x3 x4) (e12 J m w12_4 [M1]))))))
   else
  (jj J 0 8 0 (s12_5 x0 x1 x2 x3 x4) (e12 J m w12_4 [M1])))) (by simp only[jj_eq,zE_j5_eq m M1 rec1 h1 M4 (zE_l4 m rec1 M4) (zE_l4_eq m M1 rec1 h1 M4),zE_j6_eq m M1 rec1 h1];rfl)
theorem zE_j3_eq m M1 rec1 (h1:H12_1 m M1 rec1) x0 x1 x2 x3 x4:e12 jn m w12_5 [M1] (s12_5 x0 x1 x2 x3 x4)=zE_j3 m rec1 x0 x1 x2 x3 x4:=
 tq (g:=fun J=>(jj J 1 6 (Nat.succ m) (s12_5 x0 x1 x2 x3 x4) (l12 J m w12_1 [M1] (Nat.succ m)))) (by simp only[jj_eq,zE_l4_eq m M1 rec1 h1];rfl)
theorem zE_j2_eq m M1 rec1 (h1:H12_1 m M1 rec1) x0 x1 x2 x3:e12 jn m w12_6 [M1] (s12_7 x0 x1 x2 x3)=zE_j2 m rec1 x0 x1 x2 x3:=
 tq (g:=fun J=>(jj J 0 6 0 (s12_5 x0 x1 x2 x3 (List.length x2:Int)) (e12 J m w12_5 [M1]))) (by simp only[jj_eq,zE_j3_eq m M1 rec1 h1];rfl)
theorem zE_j8_eq m x0:e12 jn m [1,1,1] [] (s12_8 x0)=zE_j8 m x0:=
 tq (g:=fun J=>some x0) (by rfl)
theorem zE_l1_eq m:∀M1 x0 x1 x2 x3,l12 jn m w12_0 [] M1 (s12_7 x0 x1 x2 x3)=zE_l1 m M1 x0 x1 x2 x3
 |0,_,_,_,_=>rfl
 | M1+1,x0,x1,x2,x3=>
   tl (g:=fun J=>(bif (decide (x3<(List.length x1:Int))) then
  (jj J 0 5 0 (s12_7 x0 x1 x2 x3) (e12 J m w12_6 [M1]))
   else
  (jj J 0 13 0 (s12_8 x2) (e12 J m [1,1,1] [])))) (by simp only[jj_eq,zE_j2_eq m M1 (zE_l1 m M1) (zE_l1_eq m M1),zE_j8_eq m];rfl)
theorem zE_j0_eq m x0 x1 x2 x3:e12 jn m [1,1,0,1] [] (s12_7 x0 x1 x2 x3)=zE_j0 m x0 x1 x2 x3:=
 tq (g:=fun J=>(jj J 1 3 (Nat.succ m) (s12_7 x0 x1 x2 x3) (l12 J m w12_0 [] (Nat.succ m)))) (by simp only[jj_eq,zE_l1_eq m];rfl)
theorem zE_eq m a0 a1:e12 jn m [] [] ⟨[(.dat 22 (.lst a0)),(.dat 23 (.lst a1))],[],0⟩=zE (m+1) a0 a1:=
 tq (g:=fun J=>(jj J 0 3 0 (s12_7 a0 a1 [] 0) (e12 J m [1,1,0,1] []))) (by simp only[jj_eq,zE_j0_eq m];rfl)
noncomputable def e4 (J:Nat→Nat→Nat→St→Option (List Dt×Int×Int)→Option (List Dt×Int×Int)) (m:Nat) (p ms:List Nat) (σ:St):=evAt Tryz.prog env (ct m) J (m+1) 9 27 Tryz.f9 d3 p ms σ
noncomputable def l4 (J:Nat→Nat→Nat→St→Option (List Dt×Int×Int)→Option (List Dt×Int×Int)) (m:Nat) (p ms:List Nat) (M:Nat) (σ:St):=loopAt Tryz.prog env (ct m) J (m+1) 9 27 Tryz.f9 d3 p ms M σ
noncomputable def s4_0 (x0 x1:List Dt) (x2:Int):St:=⟨tsOf [(0,(.dat 22 (.lst x0))),(1,(.dat 23 (.lst x1))),(11,(.dat 3 (.int x2)))],[],0⟩
theorem yA_j0_eq m x0 x1 x2:e4 jn m [1,1,1] [] (s4_0 x0 x1 x2)=yA_j0 m x0 x1 x2:=
 tq (g:=fun J=>((zE m x0 x1).bind fun r1=>
  some (r1,x2,0))) (by rfl)
theorem yA_eq m a0 a1 a2 a3:e4 jn m [] [] ⟨[(.dat 22 (.lst a0)),(.dat 23 (.lst a1)),(.dat 3 (.int a2)),(.dat 4 (.bool a3))],[],0⟩=yA (m+1) a0 a1 a2 a3:=
 tq (g:=fun J=>((zV m a1 a2 a3).bind fun r0=>
  (bif (r0.2 !=0) then
  some ([],0,r0.2)
  else
  (jj J 0 4 0 (s4_0 a0 a1 r0.1) (e4 J m [1,1,1] []))))) (by simp only[jj_eq,yA_j0_eq m];rfl)
noncomputable def e0 (J:Nat→Nat→Nat→St→Option Bool→Option Bool) (m:Nat) (p ms:List Nat) (σ:St):=evAt Tryz.prog env (ct m) J (m+1) 3 62 Tryz.f3 d13 p ms σ
noncomputable def s0_1 (x0:Dt):St:=⟨tsOf [(1,(.ptr 0 [] 0))],[(.box 25 (.dat 25 x0))],0⟩
noncomputable def s0_0 (x0:Bool) (x1:Dt):St:=⟨tsOf [(1,(.ptr 0 [] 0)),(18,(.dat 4 (.bool x0)))],[(.box 25 (.dat 25 x1))],0⟩
theorem zQ_j1_eq m x0:e0 jn m [1,1] [] (s0_1 x0)=zQ_j1 m x0:=
 tq (g:=fun J=>((qA m (Dt.L x0 0) (Dt.L x0 1) (Dt.I x0 2) (Dt.B x0 3)).bind fun r2=>
  ((yA m (Dt.L x0 0) (Dt.L x0 1) (Dt.I x0 2) (Dt.B x0 3)).bind fun r3=>
  ((z7 m r2.1 r3.1).bind fun r4=>
  (bif r4 then
  (bif (r2.2.1==r3.2.1) then
  (bif (r2.2.2==r3.2.2) then
  ((awakeC).bind fun r5=>
  some r5)
  else
  some false)
  else
  some false)
  else
  some false))))) (by rfl)
theorem zQ_j0_eq m x0 x1:e0 jn m [1,0,1] [] (s0_0 x0 x1)=zQ_j0 m x0 x1:=
 tq (g:=fun J=>(bif x0 then
  ((awakeC).bind fun r1=>
  some r1)
   else
  (jj J 0 3 0 (s0_1 x1) (e0 J m [1,1] [])))) (by simp only[jj_eq,zQ_j1_eq m];rfl)
theorem zQ_eq m a0:e0 jn m [] [] ⟨[(.dat 25 a0)],[],0⟩=zQ (m+1) a0:=
 tq (g:=fun J=>((zI m (Dt.L a0 1)).bind fun r0=>
  (bif (Bool.not r0) then
  (jj J 0 2 0 (s0_0 true a0) (e0 J m [1,0,1] []))
  else
  ((qS m (Dt.L a0 0)).bind fun r6=>
  (jj J 0 2 0 (s0_0 (r6 !=0) a0) (e0 J m [1,0,1] [])))))) (by simp only[jj_eq,zQ_j0_eq m];rfl)
end Go.Proofs.YtpifchdngodgjaaGreatDoor
