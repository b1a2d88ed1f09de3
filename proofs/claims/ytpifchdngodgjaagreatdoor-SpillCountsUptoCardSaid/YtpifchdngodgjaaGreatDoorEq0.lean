/- Generated: each function's run in the abstract machine is its shallow function. -/
import Derived.Test.YtpifchdngodgjaaGreatDoorCt
import Derived.Test.YtpifchdngodgjaaGreatDoorAmEnv
import Derived.KernelRfl
set_option linter.unusedVariables false
set_option linter.unusedSimpArgs false
namespace Go.Proofs.YtpifchdngodgjaaGreatDoor
open Go.Am
set_option maxRecDepth 100000
noncomputable def e3 (J:Nat→Nat→Nat→St→Option Dt→Option Dt) (m:Nat) (p ms:List Nat) (σ:St):=evAt Tryz.prog env (ct m) J (m+1) 11 5 Tryz.f11 d3 p ms σ
noncomputable def l3 (J:Nat→Nat→Nat→St→Option Dt→Option Dt) (m:Nat) (p ms:List Nat) (M:Nat) (σ:St):=loopAt Tryz.prog env (ct m) J (m+1) 11 5 Tryz.f11 d3 p ms M σ
theorem z6_eq m a0:e3 jn m [] [] ⟨[(.dat 3 (.int a0))],[],0⟩=z6 (m+1) a0:=
 tq (g:=fun J=>some (Dt.agg [(Dt.int 3),(Dt.int a0),(Dt.str (ByteArray.mk (List.toArray []))),(Dt.lst []),(Dt.lst [])])) (by rfl)
def w14_0:List Nat:=[1,1,0,1,0]
def w14_7:List Nat:=[1,1,1,0,1]
def w14_3:List Nat:=[1,1,1,0,1,0]
def w14_2:List Nat:=[1,1,0,1,0,0,1]
def w14_1:List Nat:=w14_2++[1]
def w14_6:List Nat:=w14_3++[0,1]
def w14_4:List Nat:=w14_6++[1]
def w14_5:List Nat:=w14_6++[0,0,1]
noncomputable def e14 (J:Nat→Nat→Nat→St→Option Bool→Option Bool) (m:Nat) (p ms:List Nat) (σ:St):=evAt Tryz.prog env (ct m) J (m+1) 21 99 Tryz.f21 d14 p ms σ
noncomputable def l14 (J:Nat→Nat→Nat→St→Option Bool→Option Bool) (m:Nat) (p ms:List Nat) (M:Nat) (σ:St):=loopAt Tryz.prog env (ct m) J (m+1) 21 99 Tryz.f21 d14 p ms M σ
noncomputable def s14_5 (x0:Int) (x1 x2:Dt):St:=⟨tsOf [(2,(.ptr 0 [] 0)),(3,(.ptr 1 [] 0)),(5,(.dat 3 (.int x0)))],[(.box 36 (.dat 36 x1)),(.box 36 (.dat 36 x2))],0⟩
noncomputable def s14_11 (x0:Int) (x1 x2:Dt):St:=⟨tsOf [(2,(.ptr 0 [] 0)),(3,(.ptr 1 [] 0)),(6,(.dat 3 (.int x0)))],[(.box 36 (.dat 36 x1)),(.box 36 (.dat 36 x2))],0⟩
noncomputable def s14_10 (x0:Int) (x1:Bool) (x2 x3:Dt):St:=⟨tsOf [(2,(.ptr 0 [] 0)),(3,(.ptr 1 [] 0)),(6,(.dat 3 (.int x0))),(98,(.dat 4 (.bool x1)))],[(.box 36 (.dat 36 x2)),(.box 36 (.dat 36 x3))],0⟩
noncomputable def s14_12:St:=⟨tsOf [],[],0⟩
noncomputable def s14_6 (x0 x1:Dt):St:=⟨tsOf [(2,(.ptr 0 [] 0)),(3,(.ptr 1 [] 0))],[(.box 36 (.dat 36 x0)),(.box 36 (.dat 36 x1))],0⟩
noncomputable def s14_0 (x0:Bool) (x1 x2:Dt):St:=⟨tsOf [(2,(.ptr 0 [] 0)),(3,(.ptr 1 [] 0)),(43,(.dat 4 (.bool x0)))],[(.box 36 (.dat 36 x1)),(.box 36 (.dat 36 x2))],0⟩
abbrev H14_3 (m M3:Nat) (rec3:Int→Dt→Dt→Option Bool):Prop:=∀x0 x1 x2,l14 jn m w14_0 [] M3 (s14_5 x0 x1 x2)=rec3 x0 x1 x2
theorem qI_j5_eq m M3 rec3 (h3:H14_3 m M3 rec3) x0 x1 x2:e14 jn m w14_1 [M3] (s14_5 x0 x1 x2)=qI_j5 m (qI m) rec3 x0 x1 x2:=
 tq (g:=fun J=>(jj J 1 4 M3 (s14_5 (IntKind.wrap .i64 (x0+1)) x1 x2) (l14 J m w14_0 [] M3))) (by simp only[jj_eq,h3];rfl)
theorem qI_j4_eq m M3 rec3 (h3:H14_3 m M3 rec3) x0 x1 x2:e14 jn m w14_2 [M3] (s14_5 x0 x1 x2)=qI_j4 m (qI m) rec3 x0 x1 x2:=
 tq (g:=fun J=>((idx (Dt.L x1 3) x0).bind fun v0=>
  ((idx (Dt.L x2 3) x0).bind fun v1=>
  ((qI m v0 v1).bind fun r2=>
  (bif (Bool.not r2) then
  some false
  else
  (jj J 0 5 0 (s14_5 x0 x1 x2) (e14 J m w14_1 [M3]))))))) (by simp only[jj_eq,qI_j5_eq m M3 rec3 h3];rfl)
abbrev H14_8 (m M8:Nat) (rec8:Int→Dt→Dt→Option Bool):Prop:=∀x0 x1 x2,l14 jn m w14_3 [] M8 (s14_11 x0 x1 x2)=rec8 x0 x1 x2
theorem qI_j11_eq m M8 rec8 (h8:H14_8 m M8 rec8) x0 x1 x2:e14 jn m w14_4 [M8] (s14_11 x0 x1 x2)=qI_j11 m (qI m) rec8 x0 x1 x2:=
 tq (g:=fun J=>(jj J 1 9 M8 (s14_11 (IntKind.wrap .i64 (x0+1)) x1 x2) (l14 J m w14_3 [] M8))) (by simp only[jj_eq,h8];rfl)
theorem qI_j10_eq m M8 rec8 (h8:H14_8 m M8 rec8) x0 x1 x2 x3:e14 jn m w14_5 [M8] (s14_10 x0 x1 x2 x3)=qI_j10 m (qI m) rec8 x0 x1 x2 x3:=
 tq (g:=fun J=>(bif x1 then
  some false
   else
  (jj J 0 10 0 (s14_11 x0 x2 x3) (e14 J m w14_4 [M8])))) (by simp only[jj_eq,qI_j11_eq m M8 rec8 h8];rfl)
theorem qI_j9_eq m M8 rec8 (h8:H14_8 m M8 rec8) x0 x1 x2:e14 jn m w14_6 [M8] (s14_11 x0 x1 x2)=qI_j9 m (qI m) rec8 x0 x1 x2:=
 tq (g:=fun J=>((idx (Dt.L x1 4) x0).bind fun v3=>
  ((idx (Dt.L x2 4) x0).bind fun v4=>
  (bif (Bool.not ((ByteArray.toList (Dt.S v3 0))==(ByteArray.toList (Dt.S v4 0)))) then
  (jj J 0 12 0 (s14_10 x0 true x1 x2) (e14 J m w14_5 [M8]))
  else
  ((idx (Dt.L x1 4) x0).bind fun v5=>
  ((idx (Dt.L x2 4) x0).bind fun v6=>
  ((qI m (Dt.fld v5 1) (Dt.fld v6 1)).bind fun r7=>
  (jj J 0 12 0 (s14_10 x0 (Bool.not r7) x1 x2) (e14 J m w14_5 [M8]))))))))) (by simp only[jj_eq,qI_j10_eq m M8 rec8 h8];rfl)
theorem qI_j12_eq m:e14 jn m [1,1,1,1] [] s14_12=qI_j12 m (qI m):=
 tq (g:=fun J=>some true) (by rfl)
theorem qI_l8_eq m:∀M8 x0 x1 x2,l14 jn m w14_3 [] M8 (s14_11 x0 x1 x2)=qI_l8 m (qI m) M8 x0 x1 x2
 |0,_,_,_=>rfl
 | M8+1,x0,x1,x2=>
   tl (g:=fun J=>(bif (decide (x0<(List.length (Dt.L x1 4):Int))) then
  (jj J 0 11 0 (s14_11 x0 x1 x2) (e14 J m w14_6 [M8]))
   else
  (jj J 0 13 0 s14_12 (e14 J m [1,1,1,1] [])))) (by simp only[jj_eq,qI_j9_eq m M8 (qI_l8 m (qI m) M8) (qI_l8_eq m M8),qI_j12_eq m];rfl)
theorem qI_j7_eq m x0 x1 x2:e14 jn m w14_7 [] (s14_11 x0 x1 x2)=qI_j7 m (qI m) x0 x1 x2:=
 tq (g:=fun J=>(jj J 1 9 (Nat.succ m) (s14_11 x0 x1 x2) (l14 J m w14_3 [] (Nat.succ m)))) (by simp only[jj_eq,qI_l8_eq m];rfl)
theorem qI_j6_eq m x0 x1:e14 jn m [1,1,1] [] (s14_6 x0 x1)=qI_j6 m (qI m) x0 x1:=
 tq (g:=fun J=>(jj J 0 9 0 (s14_11 0 x0 x1) (e14 J m w14_7 []))) (by simp only[jj_eq,qI_j7_eq m];rfl)
theorem qI_l3_eq m:∀M3 x0 x1 x2,l14 jn m w14_0 [] M3 (s14_5 x0 x1 x2)=qI_l3 m (qI m) M3 x0 x1 x2
 |0,_,_,_=>rfl
 | M3+1,x0,x1,x2=>
   tl (g:=fun J=>(bif (decide (x0<(List.length (Dt.L x1 3):Int))) then
  (jj J 0 6 0 (s14_5 x0 x1 x2) (e14 J m w14_2 [M3]))
   else
  (jj J 0 8 0 (s14_6 x1 x2) (e14 J m [1,1,1] [])))) (by simp only[jj_eq,qI_j4_eq m M3 (qI_l3 m (qI m) M3) (qI_l3_eq m M3),qI_j6_eq m];rfl)
theorem qI_j2_eq m x0 x1 x2:e14 jn m [1,1,0,1] [] (s14_5 x0 x1 x2)=qI_j2 m (qI m) x0 x1 x2:=
 tq (g:=fun J=>(jj J 1 4 (Nat.succ m) (s14_5 x0 x1 x2) (l14 J m w14_0 [] (Nat.succ m)))) (by simp only[jj_eq,qI_l3_eq m];rfl)
theorem qI_j1_eq m x0 x1:e14 jn m [1,1] [] (s14_6 x0 x1)=qI_j1 m (qI m) x0 x1:=
 tq (g:=fun J=>(jj J 0 4 0 (s14_5 0 x0 x1) (e14 J m [1,1,0,1] []))) (by simp only[jj_eq,qI_j2_eq m];rfl)
theorem qI_j0_eq m x0 x1 x2:e14 jn m [1,0,1] [] (s14_0 x0 x1 x2)=qI_j0 m (qI m) x0 x1 x2:=
 tq (g:=fun J=>(bif x0 then
  some false
   else
  (jj J 0 3 0 (s14_6 x1 x2) (e14 J m [1,1] [])))) (by simp only[jj_eq,qI_j1_eq m];rfl)
theorem qI_eq m a0 a1:e14 jn m [] [] ⟨[(.dat 36 a0),(.dat 36 a1)],[],0⟩=qI (m+1) a0 a1:=
 tq (g:=fun J=>(bif ((Dt.I a0 0) !=(Dt.I a1 0)) then
  (jj J 0 2 0 (s14_0 true a0 a1) (e14 J m [1,0,1] []))
   else
  (bif ((Dt.I a0 1) !=(Dt.I a1 1)) then
  (jj J 0 2 0 (s14_0 true a0 a1) (e14 J m [1,0,1] []))
  else
  (bif (Bool.not ((ByteArray.toList (Dt.S a0 2))==(ByteArray.toList (Dt.S a1 2)))) then
  (jj J 0 2 0 (s14_0 true a0 a1) (e14 J m [1,0,1] []))
  else
  (bif ((List.length (Dt.L a0 3):Int) !=(List.length (Dt.L a1 3):Int)) then
  (jj J 0 2 0 (s14_0 true a0 a1) (e14 J m [1,0,1] []))
  else
  (jj J 0 2 0 (s14_0 ((List.length (Dt.L a0 4):Int) !=(List.length (Dt.L a1 4):Int)) a0 a1) (e14 J m [1,0,1] []))))))) (by simp only[jj_eq,qI_j0_eq m];rfl)
noncomputable def e6 (J:Nat→Nat→Nat→St→Option Bool→Option Bool) (m:Nat) (p ms:List Nat) (σ:St):=evAt Tryz.prog env (ct m) J (m+1) 10 10 Tryz.f10 d14 p ms σ
theorem zM_eq m a0 a1:e6 jn m [] [] ⟨[(.dat 23 (.lst a0)),(.dat 23 (.lst a1))],[],0⟩=zM (m+1) a0 a1:=
 tq (g:=fun J=>((qI m (Dt.agg [(Dt.int 6),(Dt.int 0),(Dt.str (ByteArray.mk (List.toArray []))),(Dt.lst a0),(Dt.lst [])]) (Dt.agg [(Dt.int 6),(Dt.int 0),(Dt.str (ByteArray.mk (List.toArray []))),(Dt.lst a1),(Dt.lst [])])).bind fun r0=>
  some r0)) (by rfl)
def w21_0:List Nat:=[1,1,0,1,0]
def w21_6:List Nat:=[1,1,0,1,0,0,1,1]
def w21_3:List Nat:=w21_6++[1]
def w21_5:List Nat:=w21_6++[0,0,1,1,1]
def w21_4:List Nat:=w21_5++[1,1]
def w21_1:List Nat:=w21_4++[0]
def w21_2:List Nat:=w21_1++[0,1,1]
noncomputable def e21 (J:Nat→Nat→Nat→St→Option (List Dt×List Dt×List Dt)→Option (List Dt×List Dt×List Dt)) (m:Nat) (p ms:List Nat) (σ:St):=evAt Tryz.prog env (ct m) J (m+1) 34 65 Tryz.f34 d21 p ms σ
noncomputable def l21 (J:Nat→Nat→Nat→St→Option (List Dt×List Dt×List Dt)→Option (List Dt×List Dt×List Dt)) (m:Nat) (p ms:List Nat) (M:Nat) (σ:St):=loopAt Tryz.prog env (ct m) J (m+1) 34 65 Tryz.f34 d21 p ms M σ
noncomputable def s21_6 (x0:Int) (x1:List Dt) (x2 x3:Int) (x4:List Dt) (x5 x6:Int) (x7:Dt) (x8 x9 x10:List Dt) (x11:Dt):St:=⟨tsOf [(2,(.ptr 0 [] 0)),(5,(.ptr 1 [] 0)),(7,(.ptr 5 [] 0)),(9,(.dat 3 (.int x0))),(14,(.dat 23 (.lst x1))),(15,(.dat 3 (.int x2))),(16,(.dat 3 (.int x3))),(33,(.dat 42 (.lst x4))),(34,(.dat 3 (.int x5))),(35,(.dat 3 (.int x6)))],[(.box 44 (.dat 44 x7)),(.box 79 (.agg 79 [(.row 2),(.row 3),(.row 4)])),(.row 23 x8),(.row 76 x9),(.row 77 x10),(.box 36 (.dat 36 x11))],0⟩
noncomputable def s21_7 (x0:List Dt) (x1 x2:Int) (x3:Dt) (x4 x5 x6:List Dt):St:=⟨tsOf [(2,(.ptr 0 [] 0)),(5,(.ptr 1 [] 0)),(14,(.dat 23 (.lst x0))),(15,(.dat 3 (.int x1))),(16,(.dat 3 (.int x2)))],[(.box 44 (.dat 44 x3)),(.box 79 (.agg 79 [(.row 2),(.row 3),(.row 4)])),(.row 23 x4),(.row 76 x5),(.row 77 x6)],0⟩
noncomputable def s21_3 (x0:List Dt) (x1 x2:Int) (x3:Dt) (x4 x5 x6:List Dt) (x7 x8:Dt):St:=⟨tsOf [(2,(.ptr 0 [] 0)),(5,(.ptr 1 [] 0)),(7,(.ptr 5 [] 0)),(8,(.ptr 6 [] 0)),(14,(.dat 23 (.lst x0))),(15,(.dat 3 (.int x1))),(16,(.dat 3 (.int x2)))],[(.box 44 (.dat 44 x3)),(.box 79 (.agg 79 [(.row 2),(.row 3),(.row 4)])),(.row 23 x4),(.row 76 x5),(.row 77 x6),(.box 36 (.dat 36 x7)),(.box 36 (.dat 36 x8))],0⟩
noncomputable def s21_8 (x0 x1 x2:List Dt):St:=⟨tsOf [(5,(.ptr 0 [] 0))],[(.box 79 (.agg 79 [(.row 1),(.row 2),(.row 3)])),(.row 23 x0),(.row 76 x1),(.row 77 x2)],0⟩
abbrev H21_1 (m M1:Nat) (rec1:List Dt→Int→Int→Dt→List Dt→List Dt→List Dt→Option (List Dt×List Dt×List Dt)):Prop:=∀x0 x1 x2 x3 x4 x5 x6,l21 jn m w21_0 [] M1 (s21_7 x0 x1 x2 x3 x4 x5 x6)=rec1 x0 x1 x2 x3 x4 x5 x6
abbrev H21_5 (m M1 M5:Nat) (rec5:Int→List Dt→Int→Int→List Dt→Int→Int→Dt→List Dt→List Dt→List Dt→Dt→Option (List Dt×List Dt×List Dt)):Prop:=∀x0 x1 x2 x3 x4 x5 x6 x7 x8 x9 x10 x11,l21 jn m w21_1 [M1] M5 (s21_6 x0 x1 x2 x3 x4 x5 x6 x7 x8 x9 x10 x11)=rec5 x0 x1 x2 x3 x4 x5 x6 x7 x8 x9 x10 x11
theorem i21_j6_eq m M1 rec1 (h1:H21_1 m M1 rec1) M5 rec5 (h5:H21_5 m M1 M5 rec5) x0 x1 x2 x3 x4 x5 x6 x7 x8 x9 x10 x11:e21 jn m w21_2 [M1,M5] (s21_6 x0 x1 x2 x3 x4 x5 x6 x7 x8 x9 x10 x11)=i21_j6 m rec1 rec5 x0 x1 x2 x3 x4 x5 x6 x7 x8 x9 x10 x11:=
 tq (g:=fun J=>((idx x4 x6).bind fun v2=>
  ((inL x9 x0).bind fun v3=>
  ((x9[(Int.toNat x0)]?).bind fun v4=>
  ((inL x9 x0).bind fun v5=>
  ((x9[(Int.toNat x0)]?).bind fun v6=>
  ((idx (Dt.toLst v6) x6).bind fun v7=>
  ((accAddN v2 v7 x11).bind fun r8=>
  ((idx (Dt.toLst v4) x6).bind fun v9=>
  none))))))))) (by rfl)
theorem i21_j7_eq m M1 rec1 (h1:H21_1 m M1 rec1) x0 x1 x2 x3 x4 x5 x6:e21 jn m w21_3 [M1] (s21_7 x0 x1 x2 x3 x4 x5 x6)=i21_j7 m rec1 x0 x1 x2 x3 x4 x5 x6:=
 tq (g:=fun J=>(jj J 1 3 M1 (s21_7 x0 x1 (IntKind.wrap .i64 (x2+1)) x3 x4 x5 x6) (l21 J m w21_0 [] M1))) (by simp only[jj_eq,h1];rfl)
theorem i21_l5_eq m M1 rec1 (h1:H21_1 m M1 rec1):∀M5 x0 x1 x2 x3 x4 x5 x6 x7 x8 x9 x10 x11,l21 jn m w21_1 [M1] M5 (s21_6 x0 x1 x2 x3 x4 x5 x6 x7 x8 x9 x10 x11)=i21_l5 m rec1 M5 x0 x1 x2 x3 x4 x5 x6 x7 x8 x9 x10 x11
 |0,_,_,_,_,_,_,_,_,_,_,_,_=>rfl
 | M5+1,x0,x1,x2,x3,x4,x5,x6,x7,x8,x9,x10,x11=>
   tl (g:=fun J=>(bif (decide (x6<x5)) then
  (jj J 0 11 0 (s21_6 x0 x1 x2 x3 x4 x5 x6 x7 x8 x9 x10 x11) (e21 J m w21_2 [M1,M5]))
   else
  (jj J 0 14 0 (s21_7 x1 x2 x3 x7 x8 x9 x10) (e21 J m w21_3 [M1])))) (by simp only[jj_eq,i21_j6_eq m M1 rec1 h1 M5 (i21_l5 m rec1 M5) (i21_l5_eq m M1 rec1 h1 M5),i21_j7_eq m M1 rec1 h1];rfl)
theorem i21_j4_eq m M1 rec1 (h1:H21_1 m M1 rec1) x0 x1 x2 x3 x4 x5 x6 x7 x8 x9 x10 x11:e21 jn m w21_4 [M1] (s21_6 x0 x1 x2 x3 x4 x5 x6 x7 x8 x9 x10 x11)=i21_j4 m rec1 x0 x1 x2 x3 x4 x5 x6 x7 x8 x9 x10 x11:=
 tq (g:=fun J=>(jj J 1 10 (Nat.succ m) (s21_6 x0 x1 x2 x3 x4 x5 x6 x7 x8 x9 x10 x11) (l21 J m w21_1 [M1] (Nat.succ m)))) (by simp only[jj_eq,i21_l5_eq m M1 rec1 h1];rfl)
theorem i21_j3_eq m M1 rec1 (h1:H21_1 m M1 rec1) x0 x1 x2 x3 x4 x5 x6 x7 x8:e21 jn m w21_5 [M1] (s21_3 x0 x1 x2 x3 x4 x5 x6 x7 x8)=i21_j3 m rec1 x0 x1 x2 x3 x4 x5 x6 x7 x8:=
 tq (g:=fun J=>(bif (Proofs.YtpifchdngodgjaaGreatDoor.isGr x3 x8) then
  (bif (Proofs.YtpifchdngodgjaaGreatDoor.noKey x4 x5 x6) then
  (jj J 0 10 0 (s21_6 0 x0 x1 x2 (Dt.L x3 1) (List.length (Dt.L x3 1):Int) 0 x3 [kz60e97] [(Dt.lst [])] [(Dt.int 0)] x7) (e21 J m w21_4 [M1]))
  else
  (bif (Proofs.YtpifchdngodgjaaGreatDoor.oneKey x4 x5 x6) then
  (jj J 0 10 0 (s21_6 0 x0 x1 x2 (Dt.L x3 1) (List.length (Dt.L x3 1):Int) 0 x3 x4 x5 x6 x7) (e21 J m w21_4 [M1]))
  else
  none))
   else
  none)) (by simp only[jj_eq,i21_j4_eq m M1 rec1 h1];rfl)
theorem i21_j2_eq m M1 rec1 (h1:H21_1 m M1 rec1) x0 x1 x2 x3 x4 x5 x6:e21 jn m w21_6 [M1] (s21_7 x0 x1 x2 x3 x4 x5 x6)=i21_j2 m rec1 x0 x1 x2 x3 x4 x5 x6:=
 tq (g:=fun J=>((idx x0 x2).bind fun v0=>
  ((expr_EvalC (Dt.fld x3 0) v0).bind fun r1=>
  (bif ((Dt.I r1 0)==0) then
  (jj J 0 8 0 (s21_3 x0 x1 x2 x3 x4 x5 x6 v0 kz3c25e) (e21 J m w21_5 [M1]))
  else
  (jj J 0 8 0 (s21_3 x0 x1 x2 x3 x4 x5 x6 v0 r1) (e21 J m w21_5 [M1])))))) (by simp only[jj_eq,i21_j3_eq m M1 rec1 h1];rfl)
theorem i21_j8_eq m x0 x1 x2:e21 jn m [1,1,1] [] (s21_8 x0 x1 x2)=i21_j8 m x0 x1 x2:=
 tq (g:=fun J=>some (x0,x1,x2)) (by rfl)
theorem i21_l1_eq m:∀M1 x0 x1 x2 x3 x4 x5 x6,l21 jn m w21_0 [] M1 (s21_7 x0 x1 x2 x3 x4 x5 x6)=i21_l1 m M1 x0 x1 x2 x3 x4 x5 x6
 |0,_,_,_,_,_,_,_=>rfl
 | M1+1,x0,x1,x2,x3,x4,x5,x6=>
   tl (g:=fun J=>(bif (decide (x2<x1)) then
  (jj J 0 4 0 (s21_7 x0 x1 x2 x3 x4 x5 x6) (e21 J m w21_6 [M1]))
   else
  (jj J 0 15 0 (s21_8 x4 x5 x6) (e21 J m [1,1,1] [])))) (by simp only[jj_eq,i21_j2_eq m M1 (i21_l1 m M1) (i21_l1_eq m M1),i21_j8_eq m];rfl)
theorem i21_j0_eq m x0 x1 x2 x3 x4 x5 x6:e21 jn m [1,1,0,1] [] (s21_7 x0 x1 x2 x3 x4 x5 x6)=i21_j0 m x0 x1 x2 x3 x4 x5 x6:=
 tq (g:=fun J=>(jj J 1 3 (Nat.succ m) (s21_7 x0 x1 x2 x3 x4 x5 x6) (l21 J m w21_0 [] (Nat.succ m)))) (by simp only[jj_eq,i21_l1_eq m];rfl)
theorem i21_eq m a0 a1:e21 jn m [] [] ⟨[(.dat 44 a0),(.dat 23 (.lst a1))],[],0⟩=i21 (m+1) a0 a1:=
 tq (g:=fun J=>(jj J 0 3 0 (s21_7 a1 (List.length a1:Int) 0 a0 [] [] []) (e21 J m [1,1,0,1] []))) (by simp only[jj_eq,i21_j0_eq m];rfl)
def w25_6:List Nat:=[1,1,1,1,1]
def w25_8:List Nat:=[1,1,1,0,1]
def w25_0:List Nat:=[1,1,1,0,1,0]
def w25_7:List Nat:=[1,1,1,1,0,1]
def w25_3:List Nat:=w25_7++[0]
def w25_2:List Nat:=w25_0++[0,1,1]
def w25_1:List Nat:=w25_2++[1]
def w25_5:List Nat:=w25_3++[0,1,1]
def w25_4:List Nat:=w25_5++[1]
noncomputable def e25 (J:Nat→Nat→Nat→St→Option Dt→Option Dt) (m:Nat) (p ms:List Nat) (σ:St):=evAt Tryz.prog env (ct m) J (m+1) 58 46 Tryz.f58 d3 p ms σ
noncomputable def l25 (J:Nat→Nat→Nat→St→Option Dt→Option Dt) (m:Nat) (p ms:List Nat) (M:Nat) (σ:St):=loopAt Tryz.prog env (ct m) J (m+1) 58 46 Tryz.f58 d3 p ms M σ
noncomputable def s25_3 (x0:List Dt) (x1 x2:Int) (x3 x4:Dt) (x5 x6:Int) (x7:ByteArray) (x8 x9:List Dt):St:=⟨tsOf [(1,(.ptr 0 [] 0)),(2,(.ptr 1 [] 0)),(3,(.ptr 2 [] 0)),(12,(.dat 23 (.lst x0))),(13,(.dat 3 (.int x1))),(14,(.dat 3 (.int x2)))],[(.box 36 (.dat 36 x3)),(.box 36 (.dat 36 x4)),(.box 36 (.agg 36 [(.dat 3 (.int x5)),(.dat 3 (.int x6)),(.dat 9 (.str x7)),(.row 3),(.row 4)])),(.row 23 x8),(.row 34 x9)],0⟩
noncomputable def s25_8 (x0:List Dt) (x1 x2:Int) (x3:Dt) (x4 x5:Int) (x6:ByteArray) (x7 x8:List Dt):St:=⟨tsOf [(2,(.ptr 0 [] 0)),(3,(.ptr 1 [] 0)),(27,(.dat 34 (.lst x0))),(28,(.dat 3 (.int x1))),(29,(.dat 3 (.int x2)))],[(.box 36 (.dat 36 x3)),(.box 36 (.agg 36 [(.dat 3 (.int x4)),(.dat 3 (.int x5)),(.dat 9 (.str x6)),(.row 2),(.row 3)])),(.row 23 x7),(.row 34 x8)],0⟩
noncomputable def s25_9 (x0:Dt) (x1 x2:Int) (x3:ByteArray) (x4 x5:List Dt):St:=⟨tsOf [(2,(.ptr 0 [] 0)),(3,(.ptr 1 [] 0))],[(.box 36 (.dat 36 x0)),(.box 36 (.agg 36 [(.dat 3 (.int x1)),(.dat 3 (.int x2)),(.dat 9 (.str x3)),(.row 2),(.row 3)])),(.row 23 x4),(.row 34 x5)],0⟩
noncomputable def s25_4 (x0 x1:Dt) (x2 x3:Int) (x4:ByteArray) (x5 x6:List Dt):St:=⟨tsOf [(1,(.ptr 0 [] 0)),(2,(.ptr 1 [] 0)),(3,(.ptr 2 [] 0))],[(.box 36 (.dat 36 x0)),(.box 36 (.dat 36 x1)),(.box 36 (.agg 36 [(.dat 3 (.int x2)),(.dat 3 (.int x3)),(.dat 9 (.str x4)),(.row 3),(.row 4)])),(.row 23 x5),(.row 34 x6)],0⟩
abbrev H25_1 (m M1:Nat) (rec1:List Dt→Int→Int→Dt→Dt→Int→Int→ByteArray→List Dt→List Dt→Option Dt):Prop:=∀x0 x1 x2 x3 x4 x5 x6 x7 x8 x9,l25 jn m w25_0 [] M1 (s25_3 x0 x1 x2 x3 x4 x5 x6 x7 x8 x9)=rec1 x0 x1 x2 x3 x4 x5 x6 x7 x8 x9
theorem qJ_j3_eq m M1 rec1 (h1:H25_1 m M1 rec1) x0 x1 x2 x3 x4 x5 x6 x7 x8 x9:e25 jn m w25_1 [M1] (s25_3 x0 x1 x2 x3 x4 x5 x6 x7 x8 x9)=qJ_j3 m (qJ m) rec1 x0 x1 x2 x3 x4 x5 x6 x7 x8 x9:=
 tq (g:=fun J=>(jj J 1 4 M1 (s25_3 x0 x1 (IntKind.wrap .i64 (x2+1)) x3 x4 x5 x6 x7 x8 x9) (l25 J m w25_0 [] M1))) (by simp only[jj_eq,h1];rfl)
theorem qJ_j2_eq m M1 rec1 (h1:H25_1 m M1 rec1) x0 x1 x2 x3 x4 x5 x6 x7 x8 x9:e25 jn m w25_2 [M1] (s25_3 x0 x1 x2 x3 x4 x5 x6 x7 x8 x9)=qJ_j2 m (qJ m) rec1 x0 x1 x2 x3 x4 x5 x6 x7 x8 x9:=
 tq (g:=fun J=>((idx x0 x2).bind fun v0=>
  ((qJ m v0).bind fun r1=>
  ((app x8 [r1]).bind fun v2=>
  (jj J 0 7 0 (s25_3 x0 x1 x2 x3 x4 x5 x6 x7 v2 x9) (e25 J m w25_1 [M1])))))) (by simp only[jj_eq,qJ_j3_eq m M1 rec1 h1];rfl)
abbrev H25_6 (m M6:Nat) (rec6:List Dt→Int→Int→Dt→Int→Int→ByteArray→List Dt→List Dt→Option Dt):Prop:=∀x0 x1 x2 x3 x4 x5 x6 x7 x8,l25 jn m w25_3 [] M6 (s25_8 x0 x1 x2 x3 x4 x5 x6 x7 x8)=rec6 x0 x1 x2 x3 x4 x5 x6 x7 x8
theorem qJ_j8_eq m M6 rec6 (h6:H25_6 m M6 rec6) x0 x1 x2 x3 x4 x5 x6 x7 x8:e25 jn m w25_4 [M6] (s25_8 x0 x1 x2 x3 x4 x5 x6 x7 x8)=qJ_j8 m (qJ m) rec6 x0 x1 x2 x3 x4 x5 x6 x7 x8:=
 tq (g:=fun J=>(jj J 1 9 M6 (s25_8 x0 x1 (IntKind.wrap .i64 (x2+1)) x3 x4 x5 x6 x7 x8) (l25 J m w25_3 [] M6))) (by simp only[jj_eq,h6];rfl)
theorem qJ_j7_eq m M6 rec6 (h6:H25_6 m M6 rec6) x0 x1 x2 x3 x4 x5 x6 x7 x8:e25 jn m w25_5 [M6] (s25_8 x0 x1 x2 x3 x4 x5 x6 x7 x8)=qJ_j7 m (qJ m) rec6 x0 x1 x2 x3 x4 x5 x6 x7 x8:=
 tq (g:=fun J=>((idx x0 x2).bind fun v3=>
  ((qJ m (Dt.fld v3 1)).bind fun r4=>
  ((app x8 [(Dt.agg [(Dt.str (Dt.S v3 0)),r4])]).bind fun v5=>
  (jj J 0 12 0 (s25_8 x0 x1 x2 x3 x4 x5 x6 x7 v5) (e25 J m w25_4 [M6])))))) (by simp only[jj_eq,qJ_j8_eq m M6 rec6 h6];rfl)
theorem qJ_j9_eq m x0 x1 x2 x3 x4 x5:e25 jn m w25_6 [] (s25_9 x0 x1 x2 x3 x4 x5)=qJ_j9 m (qJ m) x0 x1 x2 x3 x4 x5:=
 tq (g:=fun J=>some (Dt.agg [(Dt.int x1),(Dt.int x2),(Dt.str x3),(Dt.lst x4),(Dt.lst x5)])) (by rfl)
theorem qJ_l6_eq m:∀M6 x0 x1 x2 x3 x4 x5 x6 x7 x8,l25 jn m w25_3 [] M6 (s25_8 x0 x1 x2 x3 x4 x5 x6 x7 x8)=qJ_l6 m (qJ m) M6 x0 x1 x2 x3 x4 x5 x6 x7 x8
 |0,_,_,_,_,_,_,_,_,_=>rfl
 | M6+1,x0,x1,x2,x3,x4,x5,x6,x7,x8=>
   tl (g:=fun J=>(bif (decide (x2<x1)) then
  (jj J 0 10 0 (s25_8 x0 x1 x2 x3 x4 x5 x6 x7 x8) (e25 J m w25_5 [M6]))
   else
  (jj J 0 13 0 (s25_9 x3 x4 x5 x6 x7 x8) (e25 J m w25_6 [])))) (by simp only[jj_eq,qJ_j7_eq m M6 (qJ_l6 m (qJ m) M6) (qJ_l6_eq m M6),qJ_j9_eq m];rfl)
theorem qJ_j5_eq m x0 x1 x2 x3 x4 x5 x6 x7 x8:e25 jn m w25_7 [] (s25_8 x0 x1 x2 x3 x4 x5 x6 x7 x8)=qJ_j5 m (qJ m) x0 x1 x2 x3 x4 x5 x6 x7 x8:=
 tq (g:=fun J=>(jj J 1 9 (Nat.succ m) (s25_8 x0 x1 x2 x3 x4 x5 x6 x7 x8) (l25 J m w25_3 [] (Nat.succ m)))) (by simp only[jj_eq,qJ_l6_eq m];rfl)
theorem qJ_j4_eq m x0 x1 x2 x3 x4 x5 x6:e25 jn m [1,1,1,1] [] (s25_4 x0 x1 x2 x3 x4 x5 x6)=qJ_j4 m (qJ m) x0 x1 x2 x3 x4 x5 x6:=
 tq (g:=fun J=>(jj J 0 9 0 (s25_8 (Dt.L x0 4) (List.length (Dt.L x0 4):Int) 0 x1 x2 x3 x4 x5 x6) (e25 J m w25_7 []))) (by simp only[jj_eq,qJ_j5_eq m];rfl)
theorem qJ_l1_eq m:∀M1 x0 x1 x2 x3 x4 x5 x6 x7 x8 x9,l25 jn m w25_0 [] M1 (s25_3 x0 x1 x2 x3 x4 x5 x6 x7 x8 x9)=qJ_l1 m (qJ m) M1 x0 x1 x2 x3 x4 x5 x6 x7 x8 x9
 |0,_,_,_,_,_,_,_,_,_,_=>rfl
 | M1+1,x0,x1,x2,x3,x4,x5,x6,x7,x8,x9=>
   tl (g:=fun J=>(bif (decide (x2<x1)) then
  (jj J 0 5 0 (s25_3 x0 x1 x2 x3 x4 x5 x6 x7 x8 x9) (e25 J m w25_2 [M1]))
   else
  (jj J 0 8 0 (s25_4 x3 x4 x5 x6 x7 x8 x9) (e25 J m [1,1,1,1] [])))) (by simp only[jj_eq,qJ_j2_eq m M1 (qJ_l1 m (qJ m) M1) (qJ_l1_eq m M1),qJ_j4_eq m];rfl)
theorem qJ_j0_eq m x0 x1 x2 x3 x4 x5 x6 x7 x8 x9:e25 jn m w25_8 [] (s25_3 x0 x1 x2 x3 x4 x5 x6 x7 x8 x9)=qJ_j0 m (qJ m) x0 x1 x2 x3 x4 x5 x6 x7 x8 x9:=
 tq (g:=fun J=>(jj J 1 4 (Nat.succ m) (s25_3 x0 x1 x2 x3 x4 x5 x6 x7 x8 x9) (l25 J m w25_0 [] (Nat.succ m)))) (by simp only[jj_eq,qJ_l1_eq m];rfl)
theorem qJ_eq m a0:e25 jn m [] [] ⟨[(.dat 36 a0)],[],0⟩=qJ (m+1) a0:=
 tq (g:=fun J=>(jj J 0 4 0 (s25_3 (Dt.L a0 3) (List.length (Dt.L a0 3):Int) 0 a0 kza2373 (Dt.I a0 0) (Dt.I a0 1) (Dt.S a0 2) [] []) (e25 J m w25_8 []))) (by simp only[jj_eq,qJ_j0_eq m];rfl)
def w24_0:List Nat:=[1,1,0,1,0]
def w24_7:List Nat:=[1,1,0,1,0,0,1,1]
def w24_4:List Nat:=w24_7++[1]
def w24_5:List Nat:=w24_7++[0,0,1,1,1]
def w24_6:List Nat:=w24_7++[0,0,1,1,0,1]
def w24_1:List Nat:=w24_6++[0]
def w24_3:List Nat:=w24_1++[0,1,1]
def w24_2:List Nat:=w24_3++[1]
noncomputable def e24 (J:Nat→Nat→Nat→St→Option (List Dt×List Dt×List Dt×List Dt)→Option (List Dt×List Dt×List Dt×List Dt)) (m:Nat) (p ms:List Nat) (σ:St):=evAt Tryz.prog env (ct m) J (m+1) 35 68 Tryz.f35 d24 p ms σ
noncomputable def l24 (J:Nat→Nat→Nat→St→Option (List Dt×List Dt×List Dt×List Dt)→Option (List Dt×List Dt×List Dt×List Dt)) (m:Nat) (p ms:List Nat) (M:Nat) (σ:St):=loopAt Tryz.prog env (ct m) J (m+1) 35 68 Tryz.f35 d24 p ms M σ
noncomputable def s24_6 (x0:Int) (x1:List Dt) (x2 x3:Int) (x4:List Dt) (x5 x6:Int) (x7 x8 x9:List Dt) (x10:Dt) (x11 x12:List Dt):St:=⟨tsOf [(0,(.ptr 0 [] 0)),(2,(.fn 36 [])),(4,(.ptr 4 [] 0)),(7,(.row 5)),(8,(.dat 3 (.int x0))),(10,(.row 6)),(22,(.dat 23 (.lst x1))),(23,(.dat 3 (.int x2))),(24,(.dat 3 (.int x3))),(34,(.dat 42 (.lst x4))),(35,(.dat 3 (.int x5))),(36,(.dat 3 (.int x6)))],[(.box 79 (.agg 79 [(.row 1),(.row 2),(.row 3)])),(.frz 23 x7),(.frz 76 x8),(.frz 77 x9),(.box 44 (.dat 44 x10)),(.row 23 x11),(.row 34 x12)],4⟩
noncomputable def s24_8 (x0:List Dt) (x1 x2:Int) (x3 x4 x5:List Dt) (x6:Dt) (x7:List Dt):St:=⟨tsOf [(0,(.ptr 0 [] 0)),(2,(.fn 36 [])),(4,(.ptr 4 [] 0)),(7,(.row 5)),(22,(.dat 23 (.lst x0))),(23,(.dat 3 (.int x1))),(24,(.dat 3 (.int x2)))],[(.box 79 (.agg 79 [(.row 1),(.row 2),(.row 3)])),(.frz 23 x3),(.frz 76 x4),(.frz 77 x5),(.box 44 (.dat 44 x6)),(.row 23 x7)],4⟩
noncomputable def s24_7 (x0:Int) (x1:List Dt) (x2 x3:Int) (x4 x5 x6:List Dt) (x7:Dt) (x8 x9:List Dt):St:=⟨tsOf [(0,(.ptr 0 [] 0)),(2,(.fn 36 [])),(4,(.ptr 4 [] 0)),(7,(.row 5)),(8,(.dat 3 (.int x0))),(10,(.row 6)),(22,(.dat 23 (.lst x1))),(23,(.dat 3 (.int x2))),(24,(.dat 3 (.int x3)))],[(.box 79 (.agg 79 [(.row 1),(.row 2),(.row 3)])),(.frz 23 x4),(.frz 76 x5),(.frz 77 x6),(.box 44 (.dat 44 x7)),(.row 23 x8),(.row 34 x9)],4⟩
noncomputable def s24_9 (x0 x1 x2 x3:List Dt):St:=⟨tsOf [(7,(.row 4))],[(.box 79 (.agg 79 [(.row 1),(.row 2),(.row 3)])),(.frz 23 x0),(.frz 76 x1),(.frz 77 x2),(.row 23 x3)],4⟩
abbrev H24_1 (m M1:Nat) (rec1:List Dt→Int→Int→List Dt→List Dt→List Dt→Dt→List Dt→Option (List Dt×List Dt×List Dt×List Dt)):Prop:=∀x0 x1 x2 x3 x4 x5 x6 x7,l24 jn m w24_0 [] M1 (s24_8 x0 x1 x2 x3 x4 x5 x6 x7)=rec1 x0 x1 x2 x3 x4 x5 x6 x7
abbrev H24_4 (m M1 M4:Nat) (rec4:Int→List Dt→Int→Int→List Dt→Int→Int→List Dt→List Dt→List Dt→Dt→List Dt→List Dt→Option (List Dt×List Dt×List Dt×List Dt)):Prop:=∀x0 x1 x2 x3 x4 x5 x6 x7 x8 x9 x10 x11 x12,l24 jn m w24_1 [M1] M4 (s24_6 x0 x1 x2 x3 x4 x5 x6 x7 x8 x9 x10 x11 x12)=rec4 x0 x1 x2 x3 x4 x5 x6 x7 x8 x9 x10 x11 x12
theorem i24_j6_eq m M1 rec1 (h1:H24_1 m M1 rec1) M4 rec4 (h4:H24_4 m M1 M4 rec4) x0 x1 x2 x3 x4 x5 x6 x7 x8 x9 x10 x11 x12:e24 jn m w24_2 [M1,M4] (s24_6 x0 x1 x2 x3 x4 x5 x6 x7 x8 x9 x10 x11 x12)=i24_j6 m rec1 rec4 x0 x1 x2 x3 x4 x5 x6 x7 x8 x9 x10 x11 x12:=
 tq (g:=fun J=>(jj J 1 7 M4 (s24_6 x0 x1 x2 x3 x4 x5 (IntKind.wrap .i64 (x6+1)) x7 x8 x9 x10 x11 x12) (l24 J m w24_1 [M1] M4))) (by simp only[jj_eq,h4];rfl)
theorem i24_j5_eq m M1 rec1 (h1:H24_1 m M1 rec1) M4 rec4 (h4:H24_4 m M1 M4 rec4) x0 x1 x2 x3 x4 x5 x6 x7 x8 x9 x10 x11 x12:e24 jn m w24_3 [M1,M4] (s24_6 x0 x1 x2 x3 x4 x5 x6 x7 x8 x9 x10 x11 x12)=i24_j5 m rec1 rec4 x0 x1 x2 x3 x4 x5 x6 x7 x8 x9 x10 x11 x12:=
 tq (g:=fun J=>((idx x4 x6).bind fun v3=>
  ((idx x8 x0).bind fun v4=>
  ((idx (Dt.toLst v4) x6).bind fun v5=>
  ((accResultN v3 v5).bind fun r6=>
  ((app x12 [(Dt.agg [(Dt.str (Dt.S v3 0)),r6])]).bind fun v7=>
  (jj J 0 10 0 (s24_6 x0 x1 x2 x3 x4 x5 x6 x7 x8 x9 x10 x11 v7) (e24 J m w24_2 [M1,M4])))))))) (by simp only[jj_eq,i24_j6_eq m M1 rec1 h1 M4 rec4 h4];rfl)
theorem i24_j8_eq m M1 rec1 (h1:H24_1 m M1 rec1) x0 x1 x2 x3 x4 x5 x6 x7:e24 jn m w24_4 [M1] (s24_8 x0 x1 x2 x3 x4 x5 x6 x7)=i24_j8 m rec1 x0 x1 x2 x3 x4 x5 x6 x7:=
 tq (g:=fun J=>(jj J 1 3 M1 (s24_8 x0 x1 (IntKind.wrap .i64 (x2+1)) x3 x4 x5 x6 x7) (l24 J m w24_0 [] M1))) (by simp only[jj_eq,h1];rfl)
theorem i24_j7_eq m M1 rec1 (h1:H24_1 m M1 rec1) x0 x1 x2 x3 x4 x5 x6 x7 x8 x9:e24 jn m w24_5 [M1] (s24_7 x0 x1 x2 x3 x4 x5 x6 x7 x8 x9)=i24_j7 m rec1 x0 x1 x2 x3 x4 x5 x6 x7 x8 x9:=
 tq (g:=fun J=>((inL x8 x0).bind fun v8=>
  ((x8[(Int.toNat x0)]?).bind fun v9=>
  (jj J 0 12 0 (s24_8 x1 x2 x3 x4 x5 x6 x7 (List.set x8 (Int.toNat x0) (Dt.agg [(Dt.int 5),(Dt.int 0),(Dt.str (ByteArray.mk (List.toArray []))),(Dt.lst []),(Dt.lst x9)]))) (e24 J m w24_4 [M1]))))) (by simp only[jj_eq,i24_j8_eq m M1 rec1 h1];rfl)
theorem i24_l4_eq m M1 rec1 (h1:H24_1 m M1 rec1):∀M4 x0 x1 x2 x3 x4 x5 x6 x7 x8 x9 x10 x11 x12,l24 jn m w24_1 [M1] M4 (s24_6 x0 x1 x2 x3 x4 x5 x6 x7 x8 x9 x10 x11 x12)=i24_l4 m rec1 M4 x0 x1 x2 x3 x4 x5 x6 x7 x8 x9 x10 x11 x12
 |0,_,_,_,_,_,_,_,_,_,_,_,_,_=>rfl
 | M4+1,x0,x1,x2,x3,x4,x5,x6,x7,x8,x9,x10,x11,x12=>
   tl (g:=fun J=>(bif (decide (x6<x5)) then
  (jj J 0 8 0 (s24_6 x0 x1 x2 x3 x4 x5 x6 x7 x8 x9 x10 x11 x12) (e24 J m w24_3 [M1,M4]))
   else
  (jj J 0 11 0 (s24_7 x0 x1 x2 x3 x7 x8 x9 x10 x11 x12) (e24 J m w24_5 [M1])))) (by simp only[jj_eq,i24_j5_eq m M1 rec1 h1 M4 (i24_l4 m rec1 M4) (i24_l4_eq m M1 rec1 h1 M4),i24_j7_eq m M1 rec1 h1];rfl)
theorem i24_j3_eq m M1 rec1 (h1:H24_1 m M1 rec1) x0 x1 x2 x3 x4 x5 x6 x7 x8 x9 x10 x11 x12:e24 jn m w24_6 [M1] (s24_6 x0 x1 x2 x3 x4 x5 x6 x7 x8 x9 x10 x11 x12)=i24_j3 m rec1 x0 x1 x2 x3 x4 x5 x6 x7 x8 x9 x10 x11 x12:=
 tq (g:=fun J=>(jj J 1 7 (Nat.succ m) (s24_6 x0 x1 x2 x3 x4 x5 x6 x7 x8 x9 x10 x11 x12) (l24 J m w24_1 [M1] (Nat.succ m)))) (by simp only[jj_eq,i24_l4_eq m M1 rec1 h1];rfl)
theorem i24_j2_eq m M1 rec1 (h1:H24_1 m M1 rec1) x0 x1 x2 x3 x4 x5 x6 x7:e24 jn m w24_7 [M1] (s24_8 x0 x1 x2 x3 x4 x5 x6 x7)=i24_j2 m rec1 x0 x1 x2 x3 x4 x5 x6 x7:=
 tq (g:=fun J=>((idx x0 x2).bind fun v1=>
  ((qJ m v1).bind fun r2=>
  (jj J 0 7 0 (s24_6 x2 x0 x1 x2 (Dt.L x6 1) (List.length (Dt.L x6 1):Int) 0 x3 x4 x5 x6 x7 [(Dt.agg [(Dt.str (ByteArray.mk (List.toArray [95,105,100]))),r2])]) (e24 J m w24_6 [M1]))))) (by simp only[jj_eq,i24_j3_eq m M1 rec1 h1];rfl)
theorem i24_j9_eq m x0 x1 x2 x3:e24 jn m [1,1,1] [] (s24_9 x0 x1 x2 x3)=i24_j9 m x0 x1 x2 x3:=
 tq (g:=fun J=>some (x3,x0,x1,x2)) (by rfl)
theorem i24_l1_eq m:∀M1 x0 x1 x2 x3 x4 x5 x6 x7,l24 jn m w24_0 [] M1 (s24_8 x0 x1 x2 x3 x4 x5 x6 x7)=i24_l1 m M1 x0 x1 x2 x3 x4 x5 x6 x7
 |0,_,_,_,_,_,_,_,_=>rfl
 | M1+1,x0,x1,x2,x3,x4,x5,x6,x7=>
   tl (g:=fun J=>(bif (decide (x2<x1)) then
  (jj J 0 4 0 (s24_8 x0 x1 x2 x3 x4 x5 x6 x7) (e24 J m w24_7 [M1]))
   else
  (jj J 0 13 0 (s24_9 x3 x4 x5 x7) (e24 J m [1,1,1] [])))) (by simp only[jj_eq,i24_j2_eq m M1 (i24_l1 m M1) (i24_l1_eq m M1),i24_j9_eq m];rfl)
theorem i24_j0_eq m x0 x1 x2 x3 x4 x5 x6 x7:e24 jn m [1,1,0,1] [] (s24_8 x0 x1 x2 x3 x4 x5 x6 x7)=i24_j0 m x0 x1 x2 x3 x4 x5 x6 x7:=
 tq (g:=fun J=>(jj J 1 3 (Nat.succ m) (s24_8 x0 x1 x2 x3 x4 x5 x6 x7) (l24 J m w24_0 [] (Nat.succ m)))) (by simp only[jj_eq,i24_l1_eq m];rfl)
theorem i24_eq m a0 a1 a2 a3:e24 jn m [] [] ⟨[(.ptr 0 [] 0),(.dat 44 a0),(.fn 36 [])],[(.box 79 (.agg 79 [(.row 1),(.row 2),(.row 3)])),(.row 23 a1),(.row 76 a2),(.row 77 a3)],4⟩=i24 (m+1) a0 a1 a2 a3:=
 tq (g:=fun J=>((mkL (List.length a1:Int) (List.length a1:Int) kza2373).bind fun v0=>
  (jj J 0 3 0 (s24_8 a1 (List.length a1:Int) 0 a1 a2 a3 a0 v0) (e24 J m [1,1,0,1] [])))) (by simp only[jj_eq,i24_j0_eq m];rfl)
noncomputable def e11 (J:Nat→Nat→Nat→St→Option (List Dt)→Option (List Dt)) (m:Nat) (p ms:List Nat) (σ:St):=evAt Tryz.prog env (ct m) J (m+1) 22 10 Tryz.f22 d11 p ms σ
theorem zY_eq m a0 a1:e11 jn m [] [] ⟨[(.dat 44 a0),(.dat 23 (.lst a1))],[],0⟩=zY (m+1) a0 a1:=
 tq (g:=fun J=>((i21 m a0 a1).bind fun r0=>
  ((i24 m a0 r0.1 r0.2.1 r0.2.2).bind fun r1=>
  some r1.1))) (by rfl)
noncomputable def e28 (J:Nat→Nat→Nat→St→Option Dt→Option Dt) (m:Nat) (p ms:List Nat) (σ:St):=evAt Tryz.prog env (ct m) J (m+1) 37 7 Tryz.f37 d3 p ms σ
theorem zZ_eq m a0 a1:e28 jn m [] [] ⟨[(.dat 83 a0),(.dat 85 a1)],[],0⟩=zZ (m+1) a0 a1:=
 tq (g:=fun J=>((accPackN a1).bind fun r0=>
  some r0)) (by rfl)
def w27_0:List Nat:=[1,1,0,1,0]
def w27_7:List Nat:=[1,1,0,1,0,0,1,1]
def w27_4:List Nat:=w27_7++[1]
def w27_5:List Nat:=w27_7++[0,0,1,1,1]
def w27_6:List Nat:=w27_7++[0,0,1,1,0,1]
def w27_1:List Nat:=w27_6++[0]
def w27_3:List Nat:=w27_1++[0,1,1]
def w27_2:List Nat:=w27_3++[1]
noncomputable def e27 (J:Nat→Nat→Nat→St→Option (List Dt×List Dt×List Dt×List Dt)→Option (List Dt×List Dt×List Dt×List Dt)) (m:Nat) (p ms:List Nat) (σ:St):=evAt Tryz.prog env (ct m) J (m+1) 35 68 Tryz.f35 d24 p ms σ
noncomputable def l27 (J:Nat→Nat→Nat→St→Option (List Dt×List Dt×List Dt×List Dt)→Option (List Dt×List Dt×List Dt×List Dt)) (m:Nat) (p ms:List Nat) (M:Nat) (σ:St):=loopAt Tryz.prog env (ct m) J (m+1) 35 68 Tryz.f35 d24 p ms M σ
noncomputable def s27_6 (x0:Int) (x1:List Dt) (x2 x3:Int) (x4:List Dt) (x5 x6:Int) (x7 x8 x9:List Dt) (x10:Dt) (x11 x12:List Dt):St:=⟨tsOf [(0,(.ptr 0 [] 0)),(2,(.fn 37 [])),(4,(.ptr 4 [] 0)),(7,(.row 5)),(8,(.dat 3 (.int x0))),(10,(.row 6)),(22,(.dat 23 (.lst x1))),(23,(.dat 3 (.int x2))),(24,(.dat 3 (.int x3))),(34,(.dat 42 (.lst x4))),(35,(.dat 3 (.int x5))),(36,(.dat 3 (.int x6)))],[(.box 79 (.agg 79 [(.row 1),(.row 2),(.row 3)])),(.frz 23 x7),(.frz 76 x8),(.frz 77 x9),(.box 44 (.dat 44 x10)),(.row 23 x11),(.row 34 x12)],4⟩
noncomputable def s27_8 (x0:List Dt) (x1 x2:Int) (x3 x4 x5:List Dt) (x6:Dt) (x7:List Dt):St:=⟨tsOf [(0,(.ptr 0 [] 0)),(2,(.fn 37 [])),(4,(.ptr 4 [] 0)),(7,(.row 5)),(22,(.dat 23 (.lst x0))),(23,(.dat 3 (.int x1))),(24,(.dat 3 (.int x2)))],[(.box 79 (.agg 79 [(.row 1),(.row 2),(.row 3)])),(.frz 23 x3),(.frz 76 x4),(.frz 77 x5),(.box 44 (.dat 44 x6)),(.row 23 x7)],4⟩
noncomputable def s27_7 (x0:Int) (x1:List Dt) (x2 x3:Int) (x4 x5 x6:List Dt) (x7:Dt) (x8 x9:List Dt):St:=⟨tsOf [(0,(.ptr 0 [] 0)),(2,(.fn 37 [])),(4,(.ptr 4 [] 0)),(7,(.row 5)),(8,(.dat 3 (.int x0))),(10,(.row 6)),(22,(.dat 23 (.lst x1))),(23,(.dat 3 (.int x2))),(24,(.dat 3 (.int x3)))],[(.box 79 (.agg 79 [(.row 1),(.row 2),(.row 3)])),(.frz 23 x4),(.frz 76 x5),(.frz 77 x6),(.box 44 (.dat 44 x7)),(.row 23 x8),(.row 34 x9)],4⟩
noncomputable def s27_9 (x0 x1 x2 x3:List Dt):St:=⟨tsOf [(7,(.row 4))],[(.box 79 (.agg 79 [(.row 1),(.row 2),(.row 3)])),(.frz 23 x0),(.frz 76 x1),(.frz 77 x2),(.row 23 x3)],4⟩
abbrev H27_1 (m M1:Nat) (rec1:List Dt→Int→Int→List Dt→List Dt→List Dt→Dt→List Dt→Option (List Dt×List Dt×List Dt×List Dt)):Prop:=∀x0 x1 x2 x3 x4 x5 x6 x7,l27 jn m w27_0 [] M1 (s27_8 x0 x1 x2 x3 x4 x5 x6 x7)=rec1 x0 x1 x2 x3 x4 x5 x6 x7
abbrev H27_4 (m M1 M4:Nat) (rec4:Int→List Dt→Int→Int→List Dt→Int→Int→List Dt→List Dt→List Dt→Dt→List Dt→List Dt→Option (List Dt×List Dt×List Dt×List Dt)):Prop:=∀x0 x1 x2 x3 x4 x5 x6 x7 x8 x9 x10 x11 x12,l27 jn m w27_1 [M1] M4 (s27_6 x0 x1 x2 x3 x4 x5 x6 x7 x8 x9 x10 x11 x12)=rec4 x0 x1 x2 x3 x4 x5 x6 x7 x8 x9 x10 x11 x12
theorem i27_j6_eq m M1 rec1 (h1:H27_1 m M1 rec1) M4 rec4 (h4:H27_4 m M1 M4 rec4) x0 x1 x2 x3 x4 x5 x6 x7 x8 x9 x10 x11 x12:e27 jn m w27_2 [M1,M4] (s27_6 x0 x1 x2 x3 x4 x5 x6 x7 x8 x9 x10 x11 x12)=i27_j6 m rec1 rec4 x0 x1 x2 x3 x4 x5 x6 x7 x8 x9 x10 x11 x12:=
 tq (g:=fun J=>(jj J 1 7 M4 (s27_6 x0 x1 x2 x3 x4 x5 (IntKind.wrap .i64 (x6+1)) x7 x8 x9 x10 x11 x12) (l27 J m w27_1 [M1] M4))) (by simp only[jj_eq,h4];rfl)
theorem i27_j5_eq m M1 rec1 (h1:H27_1 m M1 rec1) M4 rec4 (h4:H27_4 m M1 M4 rec4) x0 x1 x2 x3 x4 x5 x6 x7 x8 x9 x10 x11 x12:e27 jn m w27_3 [M1,M4] (s27_6 x0 x1 x2 x3 x4 x5 x6 x7 x8 x9 x10 x11 x12)=i27_j5 m rec1 rec4 x0 x1 x2 x3 x4 x5 x6 x7 x8 x9 x10 x11 x12:=
 tq (g:=fun J=>((idx x4 x6).bind fun v3=>
  ((idx x8 x0).bind fun v4=>
  ((idx (Dt.toLst v4) x6).bind fun v5=>
  ((zZ m v3 v5).bind fun r6=>
  ((app x12 [(Dt.agg [(Dt.str (Dt.S v3 0)),r6])]).bind fun v7=>
  (jj J 0 10 0 (s27_6 x0 x1 x2 x3 x4 x5 x6 x7 x8 x9 x10 x11 v7) (e27 J m w27_2 [M1,M4])))))))) (by simp only[jj_eq,i27_j6_eq m M1 rec1 h1 M4 rec4 h4];rfl)
theorem i27_j8_eq m M1 rec1 (h1:H27_1 m M1 rec1) x0 x1 x2 x3 x4 x5 x6 x7:e27 jn m w27_4 [M1] (s27_8 x0 x1 x2 x3 x4 x5 x6 x7)=i27_j8 m rec1 x0 x1 x2 x3 x4 x5 x6 x7:=
 tq (g:=fun J=>(jj J 1 3 M1 (s27_8 x0 x1 (IntKind.wrap .i64 (x2+1)) x3 x4 x5 x6 x7) (l27 J m w27_0 [] M1))) (by simp only[jj_eq,h1];rfl)
theorem i27_j7_eq m M1 rec1 (h1:H27_1 m M1 rec1) x0 x1 x2 x3 x4 x5 x6 x7 x8 x9:e27 jn m w27_5 [M1] (s27_7 x0 x1 x2 x3 x4 x5 x6 x7 x8 x9)=i27_j7 m rec1 x0 x1 x2 x3 x4 x5 x6 x7 x8 x9:=
 tq (g:=fun J=>((inL x8 x0).bind fun v8=>
  ((x8[(Int.toNat x0)]?).bind fun v9=>
  (jj J 0 12 0 (s27_8 x1 x2 x3 x4 x5 x6 x7 (List.set x8 (Int.toNat x0) (Dt.agg [(Dt.int 5),(Dt.int 0),(Dt.str (ByteArray.mk (List.toArray []))),(Dt.lst []),(Dt.lst x9)]))) (e27 J m w27_4 [M1]))))) (by simp only[jj_eq,i27_j8_eq m M1 rec1 h1];rfl)
theorem i27_l4_eq m M1 rec1 (h1:H27_1 m M1 rec1):∀M4 x0 x1 x2 x3 x4 x5 x6 x7 x8 x9 x10 x11 x12,l27 jn m w27_1 [M1] M4 (s27_6 x0 x1 x2 x3 x4 x5 x6 x7 x8 x9 x10 x11 x12)=i27_l4 m rec1 M4 x0 x1 x2 x3 x4 x5 x6 x7 x8 x9 x10 x11 x12
 |0,_,_,_,_,_,_,_,_,_,_,_,_,_=>rfl
 | M4+1,x0,x1,x2,x3,x4,x5,x6,x7,x8,x9,x10,x11,x12=>
   tl (g:=fun J=>(bif (decide (x6<x5)) then
  (jj J 0 8 0 (s27_6 x0 x1 x2 x3 x4 x5 x6 x7 x8 x9 x10 x11 x12) (e27 J m w27_3 [M1,M4]))
   else
  (jj J 0 11 0 (s27_7 x0 x1 x2 x3 x7 x8 x9 x10 x11 x12) (e27 J m w27_5 [M1])))) (by simp only[jj_eq,i27_j5_eq m M1 rec1 h1 M4 (i27_l4 m rec1 M4) (i27_l4_eq m M1 rec1 h1 M4),i27_j7_eq m M1 rec1 h1];rfl)
theorem i27_j3_eq m M1 rec1 (h1:H27_1 m M1 rec1) x0 x1 x2 x3 x4 x5 x6 x7 x8 x9 x10 x11 x12:e27 jn m w27_6 [M1] (s27_6 x0 x1 x2 x3 x4 x5 x6 x7 x8 x9 x10 x11 x12)=i27_j3 m rec1 x0 x1 x2 x3 x4 x5 x6 x7 x8 x9 x10 x11 x12:=
 tq (g:=fun J=>(jj J 1 7 (Nat.succ m) (s27_6 x0 x1 x2 x3 x4 x5 x6 x7 x8 x9 x10 x11 x12) (l27 J m w27_1 [M1] (Nat.succ m)))) (by simp only[jj_eq,i27_l4_eq m M1 rec1 h1];rfl)
theorem i27_j2_eq m M1 rec1 (h1:H27_1 m M1 rec1) x0 x1 x2 x3 x4 x5 x6 x7:e27 jn m w27_7 [M1] (s27_8 x0 x1 x2 x3 x4 x5 x6 x7)=i27_j2 m rec1 x0 x1 x2 x3 x4 x5 x6 x7:=
 tq (g:=fun J=>((idx x0 x2).bind fun v1=>
  ((qJ m v1).bind fun r2=>
  (jj J 0 7 0 (s27_6 x2 x0 x1 x2 (Dt.L x6 1) (List.length (Dt.L x6 1):Int) 0 x3 x4 x5 x6 x7 [(Dt.agg [(Dt.str (ByteArray.mk (List.toArray [95,105,100]))),r2])]) (e27 J m w27_6 [M1]))))) (by simp only[jj_eq,i27_j3_eq m M1 rec1 h1];rfl)
theorem i27_j9_eq m x0 x1 x2 x3:e27 jn m [1,1,1] [] (s27_9 x0 x1 x2 x3)=i27_j9 m x0 x1 x2 x3:=
 tq (g:=fun J=>some (x3,x0,x1,x2)) (by rfl)
theorem i27_l1_eq m:∀M1 x0 x1 x2 x3 x4 x5 x6 x7,l27 jn m w27_0 [] M1 (s27_8 x0 x1 x2 x3 x4 x5 x6 x7)=i27_l1 m M1 x0 x1 x2 x3 x4 x5 x6 x7
 |0,_,_,_,_,_,_,_,_=>rfl
 | M1+1,x0,x1,x2,x3,x4,x5,x6,x7=>
   tl (g:=fun J=>(bif (decide (x2<x1)) then
  (jj J 0 4 0 (s27_8 x0 x1 x2 x3 x4 x5 x6 x7) (e27 J m w27_7 [M1]))
   else
  (jj J 0 13 0 (s27_9 x3 x4 x5 x7) (e27 J m [1,1,1] [])))) (by simp only[jj_eq,i27_j2_eq m M1 (i27_l1 m M1) (i27_l1_eq m M1),i27_j9_eq m];rfl)
theorem i27_j0_eq m x0 x1 x2 x3 x4 x5 x6 x7:e27 jn m [1,1,0,1] [] (s27_8 x0 x1 x2 x3 x4 x5 x6 x7)=i27_j0 m x0 x1 x2 x3 x4 x5 x6 x7:=
 tq (g:=fun J=>(jj J 1 3 (Nat.succ m) (s27_8 x0 x1 x2 x3 x4 x5 x6 x7) (l27 J m w27_0 [] (Nat.succ m)))) (by simp only[jj_eq,i27_l1_eq m];rfl)
theorem i27_eq m a0 a1 a2 a3:e27 jn m [] [] ⟨[(.ptr 0 [] 0),(.dat 44 a0),(.fn 37 [])],[(.box 79 (.agg 79 [(.row 1),(.row 2),(.row 3)])),(.row 23 a1),(.row 76 a2),(.row 77 a3)],4⟩=i27 (m+1) a0 a1 a2 a3:=
 tq (g:=fun J=>((mkL (List.length a1:Int) (List.length a1:Int) kza2373).bind fun v0=>
  (jj J 0 3 0 (s27_8 a1 (List.length a1:Int) 0 a1 a2 a3 a0 v0) (e27 J m [1,1,0,1] [])))) (by simp only[jj_eq,i27_j0_eq m];rfl)
noncomputable def e12 (J:Nat→Nat→Nat→St→Option (List Dt)→Option (List Dt)) (m:Nat) (p ms:List Nat) (σ:St):=evAt Tryz.prog env (ct m) J (m+1) 23 10 Tryz.f23 d11 p ms σ
theorem zN_eq m a0 a1:e12 jn m [] [] ⟨[(.dat 44 a0),(.dat 23 (.lst a1))],[],0⟩=zN (m+1) a0 a1:=
 tq (g:=fun J=>((i21 m a0 a1).bind fun r0=>
  ((i27 m a0 r0.1 r0.2.1 r0.2.2).bind fun r1=>
  some r1.1))) (by rfl)
def w29_0:List Nat:=[1,1,0,1,0]
def w29_2:List Nat:=[1,1,0,1,0,0,1,1]
def w29_1:List Nat:=w29_2++[1]
noncomputable def e29 (J:Nat→Nat→Nat→St→Option Bool→Option Bool) (m:Nat) (p ms:List Nat) (σ:St):=evAt Tryz.prog env (ct m) J (m+1) 38 47 Tryz.f38 d14 p ms σ
noncomputable def l29 (J:Nat→Nat→Nat→St→Option Bool→Option Bool) (m:Nat) (p ms:List Nat) (M:Nat) (σ:St):=loopAt Tryz.prog env (ct m) J (m+1) 38 47 Tryz.f38 d14 p ms M σ
noncomputable def s29_5 (x0:List Dt) (x1 x2:Int) (x3:Dt):St:=⟨tsOf [(3,(.ptr 0 [] 0)),(29,(.dat 42 (.lst x0))),(30,(.dat 3 (.int x1))),(31,(.dat 3 (.int x2)))],[(.box 36 (.dat 36 x3))],0⟩
noncomputable def s29_6:St:=⟨tsOf [],[],0⟩
noncomputable def s29_1 (x0 x1:Dt):St:=⟨tsOf [(2,(.ptr 0 [] 0)),(3,(.ptr 1 [] 0))],[(.box 44 (.dat 44 x0)),(.box 36 (.dat 36 x1))],0⟩
noncomputable def s29_0 (x0:Bool) (x1 x2:Dt):St:=⟨tsOf [(2,(.ptr 0 [] 0)),(3,(.ptr 1 [] 0)),(27,(.dat 4 (.bool x0)))],[(.box 44 (.dat 44 x1)),(.box 36 (.dat 36 x2))],0⟩
abbrev H29_3 (m M3:Nat) (rec3:List Dt→Int→Int→Dt→Option Bool):Prop:=∀x0 x1 x2 x3,l29 jn m w29_0 [] M3 (s29_5 x0 x1 x2 x3)=rec3 x0 x1 x2 x3
theorem qZ_j5_eq m M3 rec3 (h3:H29_3 m M3 rec3) x0 x1 x2 x3:e29 jn m w29_1 [M3] (s29_5 x0 x1 x2 x3)=qZ_j5 m rec3 x0 x1 x2 x3:=
 tq (g:=fun J=>(jj J 1 4 M3 (s29_5 x0 x1 (IntKind.wrap .i64 (x2+1)) x3) (l29 J m w29_0 [] M3))) (by simp only[jj_eq,h3];rfl)
theorem qZ_j4_eq m M3 rec3 (h3:H29_3 m M3 rec3) x0 x1 x2 x3:e29 jn m w29_2 [M3] (s29_5 x0 x1 x2 x3)=qZ_j4 m rec3 x0 x1 x2 x3:=
 tq (g:=fun J=>((idx x0 x2).bind fun v0=>
  ((idx (Dt.L x3 4) (IntKind.wrap .i64 (x2+1))).bind fun v1=>
  (bif (Bool.not ((ByteArray.toList (Dt.S v1 0))==(ByteArray.toList (Dt.S v0 0)))) then
  some false
  else
  (jj J 0 8 0 (s29_5 x0 x1 x2 x3) (e29 J m w29_1 [M3])))))) (by simp only[jj_eq,qZ_j5_eq m M3 rec3 h3];rfl)
theorem qZ_j6_eq m:e29 jn m [1,1,1] [] s29_6=qZ_j6 m:=
 tq (g:=fun J=>some true) (by rfl)
theorem qZ_l3_eq m:∀M3 x0 x1 x2 x3,l29 jn m w29_0 [] M3 (s29_5 x0 x1 x2 x3)=qZ_l3 m M3 x0 x1 x2 x3
 |0,_,_,_,_=>rfl
 | M3+1,x0,x1,x2,x3=>
   tl (g:=fun J=>(bif (decide (x2<x1)) then
  (jj J 0 5 0 (s29_5 x0 x1 x2 x3) (e29 J m w29_2 [M3]))
   else
  (jj J 0 9 0 s29_6 (e29 J m [1,1,1] [])))) (by simp only[jj_eq,qZ_j4_eq m M3 (qZ_l3 m M3) (qZ_l3_eq m M3),qZ_j6_eq m];rfl)
theorem qZ_j2_eq m x0 x1 x2 x3:e29 jn m [1,1,0,1] [] (s29_5 x0 x1 x2 x3)=qZ_j2 m x0 x1 x2 x3:=
 tq (g:=fun J=>(jj J 1 4 (Nat.succ m) (s29_5 x0 x1 x2 x3) (l29 J m w29_0 [] (Nat.succ m)))) (by simp only[jj_eq,qZ_l3_eq m];rfl)
theorem qZ_j1_eq m x0 x1:e29 jn m [1,1] [] (s29_1 x0 x1)=qZ_j1 m x0 x1:=
 tq (g:=fun J=>(jj J 0 4 0 (s29_5 (Dt.L x0 1) (List.length (Dt.L x0 1):Int) 0 x1) (e29 J m [1,1,0,1] []))) (by simp only[jj_eq,qZ_j2_eq m];rfl)
theorem qZ_j0_eq m x0 x1 x2:e29 jn m [1,0,1] [] (s29_0 x0 x1 x2)=qZ_j0 m x0 x1 x2:=
 tq (g:=fun J=>(bif x0 then
  some false
   else
  (jj J 0 3 0 (s29_1 x1 x2) (e29 J m [1,1] [])))) (by simp only[jj_eq,qZ_j1_eq m];rfl)
theorem qZ_eq m a0 a1:e29 jn m [] [] ⟨[(.dat 44 a0),(.dat 36 a1)],[],0⟩=qZ (m+1) a0 a1:=
 tq (g:=fun J=>(bif ((Dt.I a1 0) !=5) then
  (jj J 0 2 0 (s29_0 true a0 a1) (e29 J m [1,0,1] []))
   else
  (bif ((List.length (Dt.L a1 4):Int) !=(IntKind.wrap .i64 ((List.length (Dt.L a0 1):Int)+1))) then
  (jj J 0 2 0 (s29_0 true a0 a1) (e29 J m [1,0,1] []))
  else
  ((idx (Dt.L a1 4) 0).bind fun v2=>
  (jj J 0 2 0 (s29_0 (Bool.not ((ByteArray.toList (Dt.S v2 0))==[95,105,100])) a0 a1) (e29 J m [1,0,1] [])))))) (by simp only[jj_eq,qZ_j0_eq m];rfl)
def w13_0:List Nat:=[1,1,0,1,0]
def w13_13:List Nat:=[1,1,0,1,0,0,1,1]
def w13_8:List Nat:=w13_13++[1]
def w13_12:List Nat:=w13_13++[0,0,1,1]
def w13_10:List Nat:=w13_12++[1,1]
def w13_11:List Nat:=w13_12++[1,0,1]
def w13_1:List Nat:=w13_11++[0]
def w13_9:List Nat:=w13_10++[1,1]
def w13_6:List Nat:=w13_9++[0]
def w13_5:List Nat:=w13_1++[0,1,1]
def w13_2:List Nat:=w13_5++[1]
def w13_7:List Nat:=w13_6++[0,1,1]
def w13_4:List Nat:=w13_5++[0,0,1,1,1]
def w13_3:List Nat:=w13_4++[1]
noncomputable def e13 (J:Nat→Nat→Nat→St→Option (List Dt×Int)→Option (List Dt×Int)) (m:Nat) (p ms:List Nat) (σ:St):=evAt Tryz.prog env (ct m) J (m+1) 24 111 Tryz.f24 d13 p ms σ
noncomputable def l13 (J:Nat→Nat→Nat→St→Option (List Dt×Int)→Option (List Dt×Int)) (m:Nat) (p ms:List Nat) (M:Nat) (σ:St):=loopAt Tryz.prog env (ct m) J (m+1) 24 111 Tryz.f24 d13 p ms M σ
noncomputable def s13_9 (x0:List Dt) (x1 x2:Int) (x3:List Dt) (x4 x5:Int) (x6:Dt) (x7 x8 x9:List Dt) (x10:Dt) (x11:List Dt):St:=⟨tsOf [(2,(.ptr 0 [] 0)),(6,(.ptr 1 [] 0)),(8,(.ptr 5 [] 0)),(9,(.row 6)),(19,(.dat 23 (.lst x0))),(20,(.dat 3 (.int x1))),(21,(.dat 3 (.int x2))),(34,(.dat 42 (.lst x3))),(35,(.dat 3 (.int x4))),(36,(.dat 3 (.int x5)))],[(.box 44 (.dat 44 x6)),(.box 79 (.agg 79 [(.row 2),(.row 3),(.row 4)])),(.row 23 x7),(.row 76 x8),(.row 77 x9),(.box 36 (.dat 36 x10)),(.row 81 x11)],0⟩
noncomputable def s13_8 (x0:Int) (x1:List Dt) (x2 x3:Int) (x4:List Dt) (x5 x6:Int) (x7:Dt) (x8 x9 x10:List Dt) (x11:Dt) (x12:List Dt) (x13:Dt):St:=⟨tsOf [(2,(.ptr 0 [] 0)),(6,(.ptr 1 [] 0)),(8,(.ptr 5 [] 0)),(9,(.row 6)),(10,(.dat 3 (.int x0))),(12,(.ptr 7 [] 0)),(19,(.dat 23 (.lst x1))),(20,(.dat 3 (.int x2))),(21,(.dat 3 (.int x3))),(34,(.dat 42 (.lst x4))),(35,(.dat 3 (.int x5))),(36,(.dat 3 (.int x6)))],[(.box 44 (.dat 44 x7)),(.box 79 (.agg 79 [(.row 2),(.row 3),(.row 4)])),(.row 23 x8),(.row 76 x9),(.row 77 x10),(.box 36 (.dat 36 x11)),(.row 81 x12),(.box 85 (.dat 85 x13))],0⟩
noncomputable def s13_7 (x0:Int) (x1:List Dt) (x2 x3:Int) (x4:List Dt) (x5 x6:Int) (x7:Dt) (x8 x9 x10:List Dt) (x11:Dt) (x12:List Dt) (x13 x14:Dt):St:=⟨tsOf [(2,(.ptr 0 [] 0)),(6,(.ptr 1 [] 0)),(8,(.ptr 5 [] 0)),(9,(.row 6)),(10,(.dat 3 (.int x0))),(11,(.ptr 7 [] 0)),(12,(.ptr 8 [] 0)),(19,(.dat 23 (.lst x1))),(20,(.dat 3 (.int x2))),(21,(.dat 3 (.int x3))),(34,(.dat 42 (.lst x4))),(35,(.dat 3 (.int x5))),(36,(.dat 3 (.int x6)))],[(.box 44 (.dat 44 x7)),(.box 79 (.agg 79 [(.row 2),(.row 3),(.row 4)])),(.row 23 x8),(.row 76 x9),(.row 77 x10),(.box 36 (.dat 36 x11)),(.row 81 x12),(.box 83 (.dat 83 x13)),(.box 85 (.dat 85 x14))],0⟩
noncomputable def s13_13 (x0:Int) (x1:List Dt) (x2 x3:Int) (x4:List Dt) (x5 x6:Int) (x7:Dt) (x8 x9 x10 x11:List Dt):St:=⟨tsOf [(2,(.ptr 0 [] 0)),(6,(.ptr 1 [] 0)),(9,(.row 5)),(14,(.dat 3 (.int x0))),(19,(.dat 23 (.lst x1))),(20,(.dat 3 (.int x2))),(21,(.dat 3 (.int x3))),(74,(.dat 42 (.lst x4))),(75,(.dat 3 (.int x5))),(76,(.dat 3 (.int x6)))],[(.box 44 (.dat 44 x7)),(.box 79 (.agg 79 [(.row 2),(.row 3),(.row 4)])),(.row 23 x8),(.row 76 x9),(.row 77 x10),(.row 81 x11)],0⟩
noncomputable def s13_14 (x0:List Dt) (x1 x2:Int) (x3:Dt) (x4 x5 x6:List Dt):St:=⟨tsOf [(2,(.ptr 0 [] 0)),(6,(.ptr 1 [] 0)),(19,(.dat 23 (.lst x0))),(20,(.dat 3 (.int x1))),(21,(.dat 3 (.int x2)))],[(.box 44 (.dat 44 x3)),(.box 79 (.agg 79 [(.row 2),(.row 3),(.row 4)])),(.row 23 x4),(.row 76 x5),(.row 77 x6)],0⟩
noncomputable def s13_10 (x0:List Dt) (x1 x2:Int) (x3:Dt) (x4 x5 x6:List Dt) (x7:Dt) (x8:List Dt):St:=⟨tsOf [(2,(.ptr 0 [] 0)),(6,(.ptr 1 [] 0)),(8,(.ptr 5 [] 0)),(9,(.row 6)),(19,(.dat 23 (.lst x0))),(20,(.dat 3 (.int x1))),(21,(.dat 3 (.int x2)))],[(.box 44 (.dat 44 x3)),(.box 79 (.agg 79 [(.row 2),(.row 3),(.row 4)])),(.row 23 x4),(.row 76 x5),(.row 77 x6),(.box 36 (.dat 36 x7)),(.row 81 x8)],0⟩
noncomputable def s13_3 (x0:List Dt) (x1 x2:Int) (x3:Dt) (x4 x5 x6:List Dt) (x7:Dt):St:=⟨tsOf [(2,(.ptr 0 [] 0)),(6,(.ptr 1 [] 0)),(8,(.ptr 5 [] 0)),(19,(.dat 23 (.lst x0))),(20,(.dat 3 (.int x1))),(21,(.dat 3 (.int x2)))],[(.box 44 (.dat 44 x3)),(.box 79 (.agg 79 [(.row 2),(.row 3),(.row 4)])),(.row 23 x4),(.row 76 x5),(.row 77 x6),(.box 36 (.dat 36 x7))],0⟩
noncomputable def s13_15 (x0:Dt) (x1 x2 x3:List Dt):St:=⟨tsOf [(2,(.ptr 0 [] 0)),(6,(.ptr 1 [] 0))],[(.box 44 (.dat 44 x0)),(.box 79 (.agg 79 [(.row 2),(.row 3),(.row 4)])),(.row 23 x1),(.row 76 x2),(.row 77 x3)],0⟩
abbrev H13_1 (m M1:Nat) (rec1:List Dt→Int→Int→Dt→List Dt→List Dt→List Dt→Option (List Dt×Int)):Prop:=∀x0 x1 x2 x3 x4 x5 x6,l13 jn m w13_0 [] M1 (s13_14 x0 x1 x2 x3 x4 x5 x6)=rec1 x0 x1 x2 x3 x4 x5 x6
abbrev H13_5 (m M1 M5:Nat) (rec5:List Dt→Int→Int→List Dt→Int→Int→Dt→List Dt→List Dt→List Dt→Dt→List Dt→Option (List Dt×Int)):Prop:=∀x0 x1 x2 x3 x4 x5 x6 x7 x8 x9 x10 x11,l13 jn m w13_1 [M1] M5 (s13_9 x0 x1 x2 x3 x4 x5 x6 x7 x8 x9 x10 x11)=rec5 x0 x1 x2 x3 x4 x5 x6 x7 x8 x9 x10 x11
theorem qK_j9_eq m M1 rec1 (h1:H13_1 m M1 rec1) M5 rec5 (h5:H13_5 m M1 M5 rec5) x0 x1 x2 x3 x4 x5 x6 x7 x8 x9 x10 x11:e13 jn m w13_2 [M1,M5] (s13_9 x0 x1 x2 x3 x4 x5 x6 x7 x8 x9 x10 x11)=qK_j9 m rec1 rec5 x0 x1 x2 x3 x4 x5 x6 x7 x8 x9 x10 x11:=
 tq (g:=fun J=>(jj J 1 9 M5 (s13_9 x0 x1 x2 x3 x4 (IntKind.wrap .i64 (x5+1)) x6 x7 x8 x9 x10 x11) (l13 J m w13_1 [M1] M5))) (by simp only[jj_eq,h5];rfl)
theorem qK_j8_eq m M1 rec1 (h1:H13_1 m M1 rec1) M5 rec5 (h5:H13_5 m M1 M5 rec5) x0 x1 x2 x3 x4 x5 x6 x7 x8 x9 x10 x11 x12 x13:e13 jn m w13_3 [M1,M5] (s13_8 x0 x1 x2 x3 x4 x5 x6 x7 x8 x9 x10 x11 x12 x13)=qK_j8 m rec1 rec5 x0 x1 x2 x3 x4 x5 x6 x7 x8 x9 x10 x11 x12 x13:=
 tq (g:=fun J=>((inL x12 x0).bind fun v6=>
  ((x12[(Int.toNat x0)]?).bind fun v7=>
  (jj J 0 17 0 (s13_9 x1 x2 x3 x4 x5 x6 x7 x8 x9 x10 x11 (List.set x12 (Int.toNat x0) x13)) (e13 J m w13_2 [M1,M5]))))) (by simp only[jj_eq,qK_j9_eq m M1 rec1 h1 M5 rec5 h5];rfl)
theorem qK_j7_eq m M1 rec1 (h1:H13_1 m M1 rec1) M5 rec5 (h5:H13_5 m M1 M5 rec5) x0 x1 x2 x3 x4 x5 x6 x7 x8 x9 x10 x11 x12 x13 x14:e13 jn m w13_4 [M1,M5] (s13_7 x0 x1 x2 x3 x4 x5 x6 x7 x8 x9 x10 x11 x12 x13 x14)=qK_j7 m rec1 rec5 x0 x1 x2 x3 x4 x5 x6 x7 x8 x9 x10 x11 x12 x13 x14:=
 tq (g:=fun J=>(bif ((Dt.I x14 0) !=(Dt.I x13 1)) then
  some ([],4)
   else
  (jj J 0 16 0 (s13_8 x0 x1 x2 x3 x4 x5 x6 x7 x8 x9 x10 x11 x12 x14) (e13 J m w13_3 [M1,M5])))) (by simp only[jj_eq,qK_j8_eq m M1 rec1 h1 M5 rec5 h5];rfl)
theorem qK_j6_eq m M1 rec1 (h1:H13_1 m M1 rec1) M5 rec5 (h5:H13_5 m M1 M5 rec5) x0 x1 x2 x3 x4 x5 x6 x7 x8 x9 x10 x11:e13 jn m w13_5 [M1,M5] (s13_9 x0 x1 x2 x3 x4 x5 x6 x7 x8 x9 x10 x11)=qK_j6 m rec1 rec5 x0 x1 x2 x3 x4 x5 x6 x7 x8 x9 x10 x11:=
 tq (g:=fun J=>((idx x3 x5).bind fun v3=>
  ((idx (Dt.L x10 4) (IntKind.wrap .i64 (x5+1))).bind fun v4=>
  ((accUnpackN (Dt.fld v4 1)).bind fun r5=>
  (bif (r5.2 !=0) then
  some ([],r5.2)
  else
  (jj J 0 14 0 (s13_7 x5 x0 x1 x2 x3 x4 x5 x6 x7 x8 x9 x10 x11 v3 r5.1) (e13 J m w13_4 [M1,M5]))))))) (by simp only[jj_eq,qK_j7_eq m M1 rec1 h1 M5 rec5 h5];rfl)
abbrev H13_12 (m M1 M12:Nat) (rec12:Int→List Dt→Int→Int→List Dt→Int→Int→Dt→List Dt→List Dt→List Dt→List Dt→Option (List Dt×Int)):Prop:=∀x0 x1 x2 x3 x4 x5 x6 x7 x8 x9 x10 x11,l13 jn m w13_6 [M1] M12 (s13_13 x0 x1 x2 x3 x4 x5 x6 x7 x8 x9 x10 x11)=rec12 x0 x1 x2 x3 x4 x5 x6 x7 x8 x9 x10 x11
theorem qK_j13_eq m M1 rec1 (h1:H13_1 m M1 rec1) M12 rec12 (h12:H13_12 m M1 M12 rec12) x0 x1 x2 x3 x4 x5 x6 x7 x8 x9 x10 x11:e13 jn m w13_7 [M1,M12] (s13_13 x0 x1 x2 x3 x4 x5 x6 x7 x8 x9 x10 x11)=qK_j13 m rec1 rec12 x0 x1 x2 x3 x4 x5 x6 x7 x8 x9 x10 x11:=
 tq (g:=fun J=>((idx x4 x6).bind fun v9=>
  ((inL x9 x0).bind fun v10=>
  ((x9[(Int.toNat x0)]?).bind fun v11=>
  ((inL x9 x0).bind fun v12=>
  ((x9[(Int.toNat x0)]?).bind fun v13=>
  ((idx (Dt.toLst v13) x6).bind fun v14=>
  ((inL x11 x6).bind fun v15=>
  ((x11[(Int.toNat x6)]?).bind fun v16=>
  ((accJoinN v9 v14 v16).bind fun r17=>
  ((idx (Dt.toLst v11) x6).bind fun v18=>
  none))))))))))) (by rfl)
theorem qK_j14_eq m M1 rec1 (h1:H13_1 m M1 rec1) x0 x1 x2 x3 x4 x5 x6:e13 jn m w13_8 [M1] (s13_14 x0 x1 x2 x3 x4 x5 x6)=qK_j14 m rec1 x0 x1 x2 x3 x4 x5 x6:=
 tq (g:=fun J=>(jj J 1 3 M1 (s13_14 x0 x1 (IntKind.wrap .i64 (x2+1)) x3 x4 x5 x6) (l13 J m w13_0 [] M1))) (by simp only[jj_eq,h1];rfl)
theorem qK_l12_eq m M1 rec1 (h1:H13_1 m M1 rec1):∀M12 x0 x1 x2 x3 x4 x5 x6 x7 x8 x9 x10 x11,l13 jn m w13_6 [M1] M12 (s13_13 x0 x1 x2 x3 x4 x5 x6 x7 x8 x9 x10 x11)=qK_l12 m rec1 M12 x0 x1 x2 x3 x4 x5 x6 x7 x8 x9 x10 x11
 |0,_,_,_,_,_,_,_,_,_,_,_,_=>rfl
 | M12+1,x0,x1,x2,x3,x4,x5,x6,x7,x8,x9,x10,x11=>
   tl (g:=fun J=>(bif (decide (x6<x5)) then
  (jj J 0 21 0 (s13_13 x0 x1 x2 x3 x4 x5 x6 x7 x8 x9 x10 x11) (e13 J m w13_7 [M1,M12]))
   else
  (jj J 0 24 0 (s13_14 x1 x2 x3 x7 x8 x9 x10) (e13 J m w13_8 [M1])))) (by simp only[jj_eq,qK_j13_eq m M1 rec1 h1 M12 (qK_l12 m rec1 M12) (qK_l12_eq m M1 rec1 h1 M12),qK_j14_eq m M1 rec1 h1];rfl)
theorem qK_j11_eq m M1 rec1 (h1:H13_1 m M1 rec1) x0 x1 x2 x3 x4 x5 x6 x7 x8 x9 x10 x11:e13 jn m w13_9 [M1] (s13_13 x0 x1 x2 x3 x4 x5 x6 x7 x8 x9 x10 x11)=qK_j11 m rec1 x0 x1 x2 x3 x4 x5 x6 x7 x8 x9 x10 x11:=
 tq (g:=fun J=>(jj J 1 20 (Nat.succ m) (s13_13 x0 x1 x2 x3 x4 x5 x6 x7 x8 x9 x10 x11) (l13 J m w13_6 [M1] (Nat.succ m)))) (by simp only[jj_eq,qK_l12_eq m M1 rec1 h1];rfl)
theorem qK_j10_eq m M1 rec1 (h1:H13_1 m M1 rec1) x0 x1 x2 x3 x4 x5 x6 x7 x8:e13 jn m w13_10 [M1] (s13_10 x0 x1 x2 x3 x4 x5 x6 x7 x8)=qK_j10 m rec1 x0 x1 x2 x3 x4 x5 x6 x7 x8:=
 tq (g:=fun J=>((idx (Dt.L x7 4) 0).bind fun v8=>
  (bif (Proofs.YtpifchdngodgjaaGreatDoor.isGr x3 (Dt.fld v8 1)) then
  (bif (Proofs.YtpifchdngodgjaaGreatDoor.noKey x4 x5 x6) then
  (jj J 0 20 0 (s13_13 0 x0 x1 x2 (Dt.L x3 1) (List.length (Dt.L x3 1):Int) 0 x3 [kz60e97] [(Dt.lst [])] [(Dt.int 0)] x8) (e13 J m w13_9 [M1]))
  else
  (bif (Proofs.YtpifchdngodgjaaGreatDoor.oneKey x4 x5 x6) then
  (jj J 0 20 0 (s13_13 0 x0 x1 x2 (Dt.L x3 1) (List.length (Dt.L x3 1):Int) 0 x3 x4 x5 x6 x8) (e13 J m w13_9 [M1]))
  else
  none))
  else
  none))) (by simp only[jj_eq,qK_j11_eq m M1 rec1 h1];rfl)
theorem qK_l5_eq m M1 rec1 (h1:H13_1 m M1 rec1):∀M5 x0 x1 x2 x3 x4 x5 x6 x7 x8 x9 x10 x11,l13 jn m w13_1 [M1] M5 (s13_9 x0 x1 x2 x3 x4 x5 x6 x7 x8 x9 x10 x11)=qK_l5 m rec1 M5 x0 x1 x2 x3 x4 x5 x6 x7 x8 x9 x10 x11
 |0,_,_,_,_,_,_,_,_,_,_,_,_=>rfl
 | M5+1,x0,x1,x2,x3,x4,x5,x6,x7,x8,x9,x10,x11=>
   tl (g:=fun J=>(bif (decide (x5<x4)) then
  (jj J 0 10 0 (s13_9 x0 x1 x2 x3 x4 x5 x6 x7 x8 x9 x10 x11) (e13 J m w13_5 [M1,M5]))
   else
  (jj J 0 18 0 (s13_10 x0 x1 x2 x6 x7 x8 x9 x10 x11) (e13 J m w13_10 [M1])))) (by simp only[jj_eq,qK_j6_eq m M1 rec1 h1 M5 (qK_l5 m rec1 M5) (qK_l5_eq m M1 rec1 h1 M5),qK_j10_eq m M1 rec1 h1];rfl)
theorem qK_j4_eq m M1 rec1 (h1:H13_1 m M1 rec1) x0 x1 x2 x3 x4 x5 x6 x7 x8 x9 x10 x11:e13 jn m w13_11 [M1] (s13_9 x0 x1 x2 x3 x4 x5 x6 x7 x8 x9 x10 x11)=qK_j4 m rec1 x0 x1 x2 x3 x4 x5 x6 x7 x8 x9 x10 x11:=
 tq (g:=fun J=>(jj J 1 9 (Nat.succ m) (s13_9 x0 x1 x2 x3 x4 x5 x6 x7 x8 x9 x10 x11) (l13 J m w13_1 [M1] (Nat.succ m)))) (by simp only[jj_eq,qK_l5_eq m M1 rec1 h1];rfl)
theorem qK_j3_eq m M1 rec1 (h1:H13_1 m M1 rec1) x0 x1 x2 x3 x4 x5 x6 x7:e13 jn m w13_12 [M1] (s13_3 x0 x1 x2 x3 x4 x5 x6 x7)=qK_j3 m rec1 x0 x1 x2 x3 x4 x5 x6 x7:=
 tq (g:=fun J=>((mkL (List.length (Dt.L x3 1):Int) (List.length (Dt.L x3 1):Int) kzc575d).bind fun v2=>
  (jj J 0 9 0 (s13_9 x0 x1 x2 (Dt.L x3 1) (List.length (Dt.L x3 1):Int) 0 x3 x4 x5 x6 x7 v2) (e13 J m w13_11 [M1])))) (by simp only[jj_eq,qK_j4_eq m M1 rec1 h1];rfl)
theorem qK_j2_eq m M1 rec1 (h1:H13_1 m M1 rec1) x0 x1 x2 x3 x4 x5 x6:e13 jn m w13_13 [M1] (s13_14 x0 x1 x2 x3 x4 x5 x6)=qK_j2 m rec1 x0 x1 x2 x3 x4 x5 x6:=
 tq (g:=fun J=>((idx x0 x2).bind fun v0=>
  ((qZ m x3 v0).bind fun r1=>
  (bif (Bool.not r1) then
  some ([],4)
  else
  (jj J 0 7 0 (s13_3 x0 x1 x2 x3 x4 x5 x6 v0) (e13 J m w13_12 [M1])))))) (by simp only[jj_eq,qK_j3_eq m M1 rec1 h1];rfl)
theorem qK_j15_eq m x0 x1 x2 x3:e13 jn m [1,1,1] [] (s13_15 x0 x1 x2 x3)=qK_j15 m x0 x1 x2 x3:=
 tq (g:=fun J=>((i24 m x0 x1 x2 x3).bind fun r19=>
  some (r19.1,0))) (by rfl)
theorem qK_l1_eq m:∀M1 x0 x1 x2 x3 x4 x5 x6,l13 jn m w13_0 [] M1 (s13_14 x0 x1 x2 x3 x4 x5 x6)=qK_l1 m M1 x0 x1 x2 x3 x4 x5 x6
 |0,_,_,_,_,_,_,_=>rfl
 | M1+1,x0,x1,x2,x3,x4,x5,x6=>
   tl (g:=fun J=>(bif (decide (x2<x1)) then
  (jj J 0 4 0 (s13_14 x0 x1 x2 x3 x4 x5 x6) (e13 J m w13_13 [M1]))
   else
  (jj J 0 25 0 (s13_15 x3 x4 x5 x6) (e13 J m [1,1,1] [])))) (by simp only[jj_eq,qK_j2_eq m M1 (qK_l1 m M1) (qK_l1_eq m M1),qK_j15_eq m];rfl)
theorem qK_j0_eq m x0 x1 x2 x3 x4 x5 x6:e13 jn m [1,1,0,1] [] (s13_14 x0 x1 x2 x3 x4 x5 x6)=qK_j0 m x0 x1 x2 x3 x4 x5 x6:=
 tq (g:=fun J=>(jj J 1 3 (Nat.succ m) (s13_14 x0 x1 x2 x3 x4 x5 x6) (l13 J m w13_0 [] (Nat.succ m)))) (by simp only[jj_eq,qK_l1_eq m];rfl)
theorem qK_eq m a0 a1:e13 jn m [] [] ⟨[(.dat 44 a0),(.dat 23 (.lst a1))],[],0⟩=qK (m+1) a0 a1:=
 tq (g:=fun J=>(jj J 0 3 0 (s13_14 a1 (List.length a1:Int) 0 a0 [] [] []) (e13 J m [1,1,0,1] []))) (by simp only[jj_eq,qK_j0_eq m];rfl)
def w46_0:List Nat:=[1,0,0,1,1]
noncomputable def e46 (J:Nat→Nat→Nat→St→Option (List Dt×List Dt)→Option (List Dt×List Dt)) (m:Nat) (p ms:List Nat) (σ:St):=evAt Tryz.prog env (ct m) J (m+1) 135 38 Tryz.f135 d46 p ms σ
noncomputable def l46 (J:Nat→Nat→Nat→St→Option (List Dt×List Dt)→Option (List Dt×List Dt)) (m:Nat) (p ms:List Nat) (M:Nat) (σ:St):=loopAt Tryz.prog env (ct m) J (m+1) 135 38 Tryz.f135 d46 p ms M σ
noncomputable def s46_3 (x0 x1 x2 x3:Int) (x4 x5:List Dt):St:=⟨tsOf [(0,(.row 0)),(1,(.dat 3 (.int x0))),(2,(.dat 3 (.int x1))),(3,(.dat 3 (.int x2))),(10,(.dat 3 (.int x3)))],[(.row 91 x4),(.box 22 (.dat 22 (.lst x5)))],2⟩
abbrev H46_1 (m M1:Nat) (rec1:Int→Int→Int→Int→List Dt→List Dt→Option (List Dt×List Dt)):Prop:=∀x0 x1 x2 x3 x4 x5,l46 jn m [1,0] [] M1 (s46_3 x0 x1 x2 x3 x4 x5)=rec1 x0 x1 x2 x3 x4 x5
theorem i46_j3_eq m M1 rec1 (h1:H46_1 m M1 rec1) x0 x1 x2 x3 x4 x5:e46 jn m w46_0 [M1] (s46_3 x0 x1 x2 x3 x4 x5)=i46_j3 m rec1 x0 x1 x2 x3 x4 x5:=
 tq (g:=fun J=>(jj J 1 1 M1 (s46_3 x0 x1 x2 (IntKind.wrap .i64 (x3+1)) x4 x5) (l46 J m [1,0] [] M1))) (by simp only[jj_eq,h1];rfl)
theorem i46_j2_eq m M1 rec1 (h1:H46_1 m M1 rec1) x0 x1 x2 x3 x4 x5:e46 jn m [1,0,0,1] [M1] (s46_3 x0 x1 x2 x3 x4 x5)=i46_j2 m rec1 x0 x1 x2 x3 x4 x5:=
 tq (g:=fun J=>((inL x4 (IntKind.wrap .i64 (x1+x3))).bind fun v0=>
  ((x4[(Int.toNat (IntKind.wrap .i64 (x1+x3)))]?).bind fun v1=>
  ((inL x4 (IntKind.wrap .i64 (x0+x3))).bind fun v2=>
  ((x4[(Int.toNat (IntKind.wrap .i64 (x0+x3)))]?).bind fun v3=>
  ((inL x4 (IntKind.wrap .i64 (x0+x3))).bind fun v4=>
  ((x4[(Int.toNat (IntKind.wrap .i64 (x0+x3)))]?).bind fun v5=>
  ((inL (List.set x4 (Int.toNat (IntKind.wrap .i64 (x0+x3))) v1) (IntKind.wrap .i64 (x1+x3))).bind fun v6=>
  (((List.set x4 (Int.toNat (IntKind.wrap .i64 (x0+x3))) v1)[(Int.toNat (IntKind.wrap .i64 (x1+x3)))]?).bind fun v7=>
  (jj J 0 2 0 (s46_3 x0 x1 x2 x3 (List.set (List.set x4 (Int.toNat (IntKind.wrap .i64 (x0+x3))) v1) (Int.toNat (IntKind.wrap .i64 (x1+x3))) v3) x5) (e46 J m w46_0 [M1]))))))))))) (by simp only[jj_eq,i46_j3_eq m M1 rec1 h1];rfl)
theorem i46_l1_eq m:∀M1 x0 x1 x2 x3 x4 x5,l46 jn m [1,0] [] M1 (s46_3 x0 x1 x2 x3 x4 x5)=i46_l1 m M1 x0 x1 x2 x3 x4 x5
 |0,_,_,_,_,_,_=>rfl
 | M1+1,x0,x1,x2,x3,x4,x5=>
   tl (g:=fun J=>(bif (decide (x3<x2)) then
  (jj J 0 3 0 (s46_3 x0 x1 x2 x3 x4 x5) (e46 J m [1,0,0,1] [M1]))
   else
  some (x4,x5))) (by simp only[jj_eq,i46_j2_eq m M1 (i46_l1 m M1) (i46_l1_eq m M1)];rfl)
theorem i46_j0_eq m x0 x1 x2 x3 x4 x5:e46 jn m [1] [] (s46_3 x0 x1 x2 x3 x4 x5)=i46_j0 m x0 x1 x2 x3 x4 x5:=
 tq (g:=fun J=>(jj J 1 1 (Nat.succ m) (s46_3 x0 x1 x2 x3 x4 x5) (l46 J m [1,0] [] (Nat.succ m)))) (by simp only[jj_eq,i46_l1_eq m];rfl)
theorem i46_eq m a0 a1 a2 a3 a4:e46 jn m [] [] ⟨[(.row 0),(.dat 3 (.int a0)),(.dat 3 (.int a1)),(.dat 3 (.int a2)),(.fn 50 [(.ptr 1 [] 0)])],[(.row 91 a3),(.box 22 (.dat 22 (.lst a4)))],2⟩=i46 (m+1) a0 a1 a2 a3 a4:=
 tq (g:=fun J=>(jj J 0 1 0 (s46_3 a0 a1 a2 0 a3 a4) (e46 J m [1] []))) (by simp only[jj_eq,i46_j0_eq m];rfl)
def w45_0:List Nat:=[1,1,0,0,0,1]
noncomputable def e45 (J:Nat→Nat→Nat→St→Option (List Dt×List Dt)→Option (List Dt×List Dt)) (m:Nat) (p ms:List Nat) (σ:St):=evAt Tryz.prog env (ct m) J (m+1) 117 58 Tryz.f117 d46 p ms σ
noncomputable def l45 (J:Nat→Nat→Nat→St→Option (List Dt×List Dt)→Option (List Dt×List Dt)) (m:Nat) (p ms:List Nat) (M:Nat) (σ:St):=loopAt Tryz.prog env (ct m) J (m+1) 117 58 Tryz.f117 d46 p ms M σ
noncomputable def s45_2 (x0 x1 x2:Int) (x3 x4:List Dt):St:=⟨tsOf [(0,(.row 0)),(2,(.dat 3 (.int x0))),(4,(.fn 50 [(.ptr 1 [] 0)])),(10,(.dat 3 (.int x1))),(11,(.dat 3 (.int x2)))],[(.row 91 x3),(.box 22 (.dat 22 (.lst x4)))],2⟩
noncomputable def s45_3 (x0 x1:Int) (x2 x3:List Dt):St:=⟨tsOf [(0,(.row 0)),(2,(.dat 3 (.int x0))),(4,(.fn 50 [(.ptr 1 [] 0)])),(10,(.dat 3 (.int x1)))],[(.row 91 x2),(.box 22 (.dat 22 (.lst x3)))],2⟩
abbrev H45_1 (m M1:Nat) (rec1:Int→Int→Int→List Dt→List Dt→Option (List Dt×List Dt)):Prop:=∀x0 x1 x2 x3 x4,l45 jn m [1,1,0,0] [] M1 (s45_2 x0 x1 x2 x3 x4)=rec1 x0 x1 x2 x3 x4
theorem i45_j2_eq m M1 rec1 (h1:H45_1 m M1 rec1) x0 x1 x2 x3 x4:e45 jn m w45_0 [M1] (s45_2 x0 x1 x2 x3 x4)=i45_j2 m rec1 x0 x1 x2 x3 x4:=
 tq (g:=fun J=>(bif (decide (x2<x1)) then
  ((i46 m (IntKind.wrap .i64 (x0-x1)) x0 x2 x3 x4).bind fun r0=>
  (jj J 1 2 M1 (s45_2 x0 (IntKind.wrap .i64 (x1-x2)) x2 r0.1 r0.2) (l45 J m [1,1,0,0] [] M1)))
   else
  ((i46 m (IntKind.wrap .i64 (x0-x1)) (IntKind.wrap .i64 ((IntKind.wrap .i64 (x0+x2))-x1)) x1 x3 x4).bind fun r1=>
  (jj J 1 2 M1 (s45_2 x0 x1 (IntKind.wrap .i64 (x2-x1)) r1.1 r1.2) (l45 J m [1,1,0,0] [] M1))))) (by simp only[jj_eq,h1];rfl)
theorem i45_j3_eq m x0 x1 x2 x3:e45 jn m [1,1,1] [] (s45_3 x0 x1 x2 x3)=i45_j3 m x0 x1 x2 x3:=
 tq (g:=fun J=>((i46 m (IntKind.wrap .i64 (x0-x1)) x0 x1 x2 x3).bind fun r2=>
  some (r2.1,r2.2))) (by rfl)
theorem i45_l1_eq m:∀M1 x0 x1 x2 x3 x4,l45 jn m [1,1,0,0] [] M1 (s45_2 x0 x1 x2 x3 x4)=i45_l1 m M1 x0 x1 x2 x3 x4
 |0,_,_,_,_,_=>rfl
 | M1+1,x0,x1,x2,x3,x4=>
   tl (g:=fun J=>(bif (x1 !=x2) then
  (jj J 0 3 0 (s45_2 x0 x1 x2 x3 x4) (e45 J m w45_0 [M1]))
   else
  (jj J 0 8 0 (s45_3 x0 x1 x3 x4) (e45 J m [1,1,1] [])))) (by simp only[jj_eq,i45_j2_eq m M1 (i45_l1 m M1) (i45_l1_eq m M1),i45_j3_eq m];rfl)
theorem i45_j0_eq m x0 x1 x2 x3 x4:e45 jn m [1,1] [] (s45_2 x0 x1 x2 x3 x4)=i45_j0 m x0 x1 x2 x3 x4:=
 tq (g:=fun J=>(jj J 1 2 (Nat.succ m) (s45_2 x0 x1 x2 x3 x4) (l45 J m [1,1,0,0] [] (Nat.succ m)))) (by simp only[jj_eq,i45_l1_eq m];rfl)
theorem i45_eq m a0 a1 a2 a3 a4:e45 jn m [] [] ⟨[(.row 0),(.dat 3 (.int a0)),(.dat 3 (.int a1)),(.dat 3 (.int a2)),(.fn 50 [(.ptr 1 [] 0)])],[(.row 91 a3),(.box 22 (.dat 22 (.lst a4)))],2⟩=i45 (m+1) a0 a1 a2 a3 a4:=
 tq (g:=fun J=>(jj J 0 2 0 (s45_2 a1 (IntKind.wrap .i64 (a1-a0)) (IntKind.wrap .i64 (a2-a1)) a3 a4) (e45 J m [1,1] []))) (by simp only[jj_eq,i45_j0_eq m];rfl)
def w47_7:List Nat:=[1,1,0,1,0,1,1]
def w47_0:List Nat:=w47_7++[0]
def w47_6:List Nat:=[1,1,1,0,1,0,1,1]
def w47_3:List Nat:=w47_6++[0]
def w47_2:List Nat:=w47_0++[0,1,1]
def w47_1:List Nat:=w47_2++[1]
def w47_5:List Nat:=w47_3++[0,1,1]
def w47_4:List Nat:=w47_5++[1]
noncomputable def e47 (J:Nat→Nat→Nat→St→Option Dt→Option Dt) (m:Nat) (p ms:List Nat) (σ:St):=evAt Tryz.prog env (ct m) J (m+1) 52 68 Tryz.f52 d3 p ms σ
noncomputable def l47 (J:Nat→Nat→Nat→St→Option Dt→Option Dt) (m:Nat) (p ms:List Nat) (M:Nat) (σ:St):=loopAt Tryz.prog env (ct m) J (m+1) 52 68 Tryz.f52 d3 p ms M σ
noncomputable def s47_3 (x0:List Dt) (x1 x2:Int) (x3 x4:Dt) (x5 x6:Int) (x7:ByteArray) (x8:List Dt):St:=⟨tsOf [(1,(.ptr 0 [] 0)),(2,(.ptr 1 [] 0)),(3,(.ptr 2 [] 0)),(25,(.dat 23 (.lst x0))),(26,(.dat 3 (.int x1))),(27,(.dat 3 (.int x2)))],[(.box 36 (.dat 36 x3)),(.box 36 (.dat 36 x4)),(.box 36 (.agg 36 [(.dat 3 (.int x5)),(.dat 3 (.int x6)),(.dat 9 (.str x7)),(.row 3),(.nils 34)])),(.row 23 x8)],0⟩
noncomputable def s47_8 (x0:List Dt) (x1 x2:Int) (x3:Dt) (x4 x5:Int) (x6:ByteArray) (x7 x8:List Dt):St:=⟨tsOf [(2,(.ptr 0 [] 0)),(3,(.ptr 1 [] 0)),(49,(.dat 34 (.lst x0))),(50,(.dat 3 (.int x1))),(51,(.dat 3 (.int x2)))],[(.box 36 (.dat 36 x3)),(.box 36 (.agg 36 [(.dat 3 (.int x4)),(.dat 3 (.int x5)),(.dat 9 (.str x6)),(.row 2),(.row 3)])),(.row 23 x7),(.row 34 x8)],0⟩
noncomputable def s47_9 (x0:Dt) (x1 x2:Int) (x3:ByteArray) (x4 x5:List Dt):St:=⟨tsOf [(2,(.ptr 0 [] 0)),(3,(.ptr 1 [] 0))],[(.box 36 (.dat 36 x0)),(.box 36 (.agg 36 [(.dat 3 (.int x1)),(.dat 3 (.int x2)),(.dat 9 (.str x3)),(.row 2),(.row 3)])),(.row 23 x4),(.row 34 x5)],0⟩
noncomputable def s47_10 (x0:Dt) (x1 x2:Int) (x3:ByteArray) (x4:List Dt):St:=⟨tsOf [(2,(.ptr 0 [] 0)),(3,(.ptr 1 [] 0))],[(.box 36 (.dat 36 x0)),(.box 36 (.agg 36 [(.dat 3 (.int x1)),(.dat 3 (.int x2)),(.dat 9 (.str x3)),(.row 2),(.nils 34)])),(.row 23 x4)],0⟩
noncomputable def s47_4 (x0 x1:Dt) (x2 x3:Int) (x4:ByteArray) (x5:List Dt):St:=⟨tsOf [(1,(.ptr 0 [] 0)),(2,(.ptr 1 [] 0)),(3,(.ptr 2 [] 0))],[(.box 36 (.dat 36 x0)),(.box 36 (.dat 36 x1)),(.box 36 (.agg 36 [(.dat 3 (.int x2)),(.dat 3 (.int x3)),(.dat 9 (.str x4)),(.row 3),(.nils 34)])),(.row 23 x5)],0⟩
noncomputable def s47_15 (x0:List Dt) (x1 x2:Int) (x3:Dt) (x4 x5:Int) (x6:ByteArray) (x7 x8:List Dt):St:=⟨tsOf [(2,(.ptr 0 [] 0)),(3,(.ptr 1 [] 0)),(49,(.dat 34 (.lst x0))),(50,(.dat 3 (.int x1))),(51,(.dat 3 (.int x2)))],[(.box 36 (.dat 36 x3)),(.box 36 (.agg 36 [(.dat 3 (.int x4)),(.dat 3 (.int x5)),(.dat 9 (.str x6)),(.dat 23 (.lst x7)),(.row 2)])),(.row 34 x8)],0⟩
noncomputable def s47_16 (x0:Dt) (x1 x2:Int) (x3:ByteArray) (x4 x5:List Dt):St:=⟨tsOf [(2,(.ptr 0 [] 0)),(3,(.ptr 1 [] 0))],[(.box 36 (.dat 36 x0)),(.box 36 (.agg 36 [(.dat 3 (.int x1)),(.dat 3 (.int x2)),(.dat 9 (.str x3)),(.dat 23 (.lst x4)),(.row 2)])),(.row 34 x5)],0⟩
noncomputable def s47_17 (x0 x1:Dt):St:=⟨tsOf [(2,(.ptr 0 [] 0)),(3,(.ptr 1 [] 0))],[(.box 36 (.dat 36 x0)),(.box 36 (.dat 36 x1))],0⟩
noncomputable def s47_11 (x0 x1 x2:Dt):St:=⟨tsOf [(1,(.ptr 0 [] 0)),(2,(.ptr 1 [] 0)),(3,(.ptr 2 [] 0))],[(.box 36 (.dat 36 x0)),(.box 36 (.dat 36 x1)),(.box 36 (.dat 36 x2))],0⟩
abbrev H47_1 (m M1:Nat) (rec1:List Dt→Int→Int→Dt→Dt→Int→Int→ByteArray→List Dt→Option Dt):Prop:=∀x0 x1 x2 x3 x4 x5 x6 x7 x8,l47 jn m w47_0 [] M1 (s47_3 x0 x1 x2 x3 x4 x5 x6 x7 x8)=rec1 x0 x1 x2 x3 x4 x5 x6 x7 x8
theorem qG_j3_eq m M1 rec1 (h1:H47_1 m M1 rec1) x0 x1 x2 x3 x4 x5 x6 x7 x8:e47 jn m w47_1 [M1] (s47_3 x0 x1 x2 x3 x4 x5 x6 x7 x8)=qG_j3 m (qG m) rec1 x0 x1 x2 x3 x4 x5 x6 x7 x8:=
 tq (g:=fun J=>(jj J 1 5 M1 (s47_3 x0 x1 (IntKind.wrap .i64 (x2+1)) x3 x4 x5 x6 x7 x8) (l47 J m w47_0 [] M1))) (by simp only[jj_eq,h1];rfl)
theorem qG_j2_eq m M1 rec1 (h1:H47_1 m M1 rec1) x0 x1 x2 x3 x4 x5 x6 x7 x8:e47 jn m w47_2 [M1] (s47_3 x0 x1 x2 x3 x4 x5 x6 x7 x8)=qG_j2 m (qG m) rec1 x0 x1 x2 x3 x4 x5 x6 x7 x8:=
 tq (g:=fun J=>((idx x0 x2).bind fun v1=>
  ((qG m v1).bind fun r2=>
  ((inL x8 x2).bind fun v3=>
  ((x8[(Int.toNat x2)]?).bind fun v4=>
  (jj J 0 8 0 (s47_3 x0 x1 x2 x3 x4 x5 x6 x7 (List.set x8 (Int.toNat x2) r2)) (e47 J m w47_1 [M1]))))))) (by simp only[jj_eq,qG_j3_eq m M1 rec1 h1];rfl)
abbrev H47_6 (m M6:Nat) (rec6:List Dt→Int→Int→Dt→Int→Int→ByteArray→List Dt→List Dt→Option Dt):Prop:=∀x0 x1 x2 x3 x4 x5 x6 x7 x8,l47 jn m w47_3 [] M6 (s47_8 x0 x1 x2 x3 x4 x5 x6 x7 x8)=rec6 x0 x1 x2 x3 x4 x5 x6 x7 x8
theorem qG_j8_eq m M6 rec6 (h6:H47_6 m M6 rec6) x0 x1 x2 x3 x4 x5 x6 x7 x8:e47 jn m w47_4 [M6] (s47_8 x0 x1 x2 x3 x4 x5 x6 x7 x8)=qG_j8 m (qG m) rec6 x0 x1 x2 x3 x4 x5 x6 x7 x8:=
 tq (g:=fun J=>(jj J 1 12 M6 (s47_8 x0 x1 (IntKind.wrap .i64 (x2+1)) x3 x4 x5 x6 x7 x8) (l47 J m w47_3 [] M6))) (by simp only[jj_eq,h6];rfl)
theorem qG_j7_eq m M6 rec6 (h6:H47_6 m M6 rec6) x0 x1 x2 x3 x4 x5 x6 x7 x8:e47 jn m w47_5 [M6] (s47_8 x0 x1 x2 x3 x4 x5 x6 x7 x8)=qG_j7 m (qG m) rec6 x0 x1 x2 x3 x4 x5 x6 x7 x8:=
 tq (g:=fun J=>((idx x0 x2).bind fun v6=>
  ((qG m (Dt.fld v6 1)).bind fun r7=>
  ((inL x8 x2).bind fun v8=>
  ((x8[(Int.toNat x2)]?).bind fun v9=>
  (jj J 0 15 0 (s47_8 x0 x1 x2 x3 x4 x5 x6 x7 (List.set x8 (Int.toNat x2) (Dt.agg [(Dt.str (Dt.S v6 0)),r7]))) (e47 J m w47_4 [M6]))))))) (by simp only[jj_eq,qG_j8_eq m M6 rec6 h6];rfl)
theorem qG_j9_eq m x0 x1 x2 x3 x4 x5:e47 jn m [1,1,1,1] [] (s47_9 x0 x1 x2 x3 x4 x5)=qG_j9 m (qG m) x0 x1 x2 x3 x4 x5:=
 tq (g:=fun J=>some (Dt.agg [(Dt.int x1),(Dt.int x2),(Dt.str x3),(Dt.lst x4),(Dt.lst x5)])) (by rfl)
theorem qG_l6_eq m:∀M6 x0 x1 x2 x3 x4 x5 x6 x7 x8,l47 jn m w47_3 [] M6 (s47_8 x0 x1 x2 x3 x4 x5 x6 x7 x8)=qG_l6 m (qG m) M6 x0 x1 x2 x3 x4 x5 x6 x7 x8
 |0,_,_,_,_,_,_,_,_,_=>rfl
 | M6+1,x0,x1,x2,x3,x4,x5,x6,x7,x8=>
   tl (g:=fun J=>(bif (decide (x2<x1)) then
  (jj J 0 13 0 (s47_8 x0 x1 x2 x3 x4 x5 x6 x7 x8) (e47 J m w47_5 [M6]))
   else
  (jj J 0 16 0 (s47_9 x3 x4 x5 x6 x7 x8) (e47 J m [1,1,1,1] [])))) (by simp only[jj_eq,qG_j7_eq m M6 (qG_l6 m (qG m) M6) (qG_l6_eq m M6),qG_j9_eq m];rfl)
theorem qG_j5_eq m x0 x1 x2 x3 x4 x5 x6 x7 x8:e47 jn m w47_6 [] (s47_8 x0 x1 x2 x3 x4 x5 x6 x7 x8)=qG_j5 m (qG m) x0 x1 x2 x3 x4 x5 x6 x7 x8:=
 tq (g:=fun J=>(jj J 1 12 (Nat.succ m) (s47_8 x0 x1 x2 x3 x4 x5 x6 x7 x8) (l47 J m w47_3 [] (Nat.succ m)))) (by simp only[jj_eq,qG_l6_eq m];rfl)
theorem qG_j10_eq m x0 x1 x2 x3 x4:e47 jn m [1,1,1,1] [] (s47_10 x0 x1 x2 x3 x4)=qG_j10 m (qG m) x0 x1 x2 x3 x4:=
 tq (g:=fun J=>some (Dt.agg [(Dt.int x1),(Dt.int x2),(Dt.str x3),(Dt.lst x4),(Dt.lst [])])) (by rfl)
theorem qG_j4_eq m x0 x1 x2 x3 x4 x5:e47 jn m [1,1,1] [] (s47_4 x0 x1 x2 x3 x4 x5)=qG_j4 m (qG m) x0 x1 x2 x3 x4 x5:=
 tq (g:=fun J=>(bif (decide (0<(List.length (Dt.L x0 4):Int))) then
  ((mkL (List.length (Dt.L x0 4):Int) (List.length (Dt.L x0 4):Int) kzcda49).bind fun v5=>
  (jj J 0 12 0 (s47_8 (Dt.L x0 4) (List.length (Dt.L x0 4):Int) 0 x1 x2 x3 x4 x5 v5) (e47 J m w47_6 [])))
   else
  (jj J 0 16 0 (s47_10 x1 x2 x3 x4 x5) (e47 J m [1,1,1,1] [])))) (by simp only[jj_eq,qG_j5_eq m,qG_j10_eq m];rfl)
theorem qG_l1_eq m:∀M1 x0 x1 x2 x3 x4 x5 x6 x7 x8,l47 jn m w47_0 [] M1 (s47_3 x0 x1 x2 x3 x4 x5 x6 x7 x8)=qG_l1 m (qG m) M1 x0 x1 x2 x3 x4 x5 x6 x7 x8
 |0,_,_,_,_,_,_,_,_,_=>rfl
 | M1+1,x0,x1,x2,x3,x4,x5,x6,x7,x8=>
   tl (g:=fun J=>(bif (decide (x2<x1)) then
  (jj J 0 6 0 (s47_3 x0 x1 x2 x3 x4 x5 x6 x7 x8) (e47 J m w47_2 [M1]))
   else
  (jj J 0 9 0 (s47_4 x3 x4 x5 x6 x7 x8) (e47 J m [1,1,1] [])))) (by simp only[jj_eq,qG_j2_eq m M1 (qG_l1 m (qG m) M1) (qG_l1_eq m M1),qG_j4_eq m];rfl)
theorem qG_j0_eq m x0 x1 x2 x3 x4 x5 x6 x7 x8:e47 jn m w47_7 [] (s47_3 x0 x1 x2 x3 x4 x5 x6 x7 x8)=qG_j0 m (qG m) x0 x1 x2 x3 x4 x5 x6 x7 x8:=
 tq (g:=fun J=>(jj J 1 5 (Nat.succ m) (s47_3 x0 x1 x2 x3 x4 x5 x6 x7 x8) (l47 J m w47_0 [] (Nat.succ m)))) (by simp only[jj_eq,qG_l1_eq m];rfl)
abbrev H47_13 (m M13:Nat) (rec13:List Dt→Int→Int→Dt→Int→Int→ByteArray→List Dt→List Dt→Option Dt):Prop:=∀x0 x1 x2 x3 x4 x5 x6 x7 x8,l47 jn m w47_3 [] M13 (s47_15 x0 x1 x2 x3 x4 x5 x6 x7 x8)=rec13 x0 x1 x2 x3 x4 x5 x6 x7 x8
theorem qG_j15_eq m M13 rec13 (h13:H47_13 m M13 rec13) x0 x1 x2 x3 x4 x5 x6 x7 x8:e47 jn m w47_4 [M13] (s47_15 x0 x1 x2 x3 x4 x5 x6 x7 x8)=qG_j15 m (qG m) rec13 x0 x1 x2 x3 x4 x5 x6 x7 x8:=
 tq (g:=fun J=>(jj J 1 12 M13 (s47_15 x0 x1 (IntKind.wrap .i64 (x2+1)) x3 x4 x5 x6 x7 x8) (l47 J m w47_3 [] M13))) (by simp only[jj_eq,h13];rfl)
theorem qG_j14_eq m M13 rec13 (h13:H47_13 m M13 rec13) x0 x1 x2 x3 x4 x5 x6 x7 x8:e47 jn m w47_5 [M13] (s47_15 x0 x1 x2 x3 x4 x5 x6 x7 x8)=qG_j14 m (qG m) rec13 x0 x1 x2 x3 x4 x5 x6 x7 x8:=
 tq (g:=fun J=>((idx x0 x2).bind fun v11=>
  ((qG m (Dt.fld v11 1)).bind fun r12=>
  ((inL x8 x2).bind fun v13=>
  ((x8[(Int.toNat x2)]?).bind fun v14=>
  (jj J 0 15 0 (s47_15 x0 x1 x2 x3 x4 x5 x6 x7 (List.set x8 (Int.toNat x2) (Dt.agg [(Dt.str (Dt.S v11 0)),r12]))) (e47 J m w47_4 [M13]))))))) (by simp only[jj_eq,qG_j15_eq m M13 rec13 h13];rfl)
theorem qG_j16_eq m x0 x1 x2 x3 x4 x5:e47 jn m [1,1,1,1] [] (s47_16 x0 x1 x2 x3 x4 x5)=qG_j16 m (qG m) x0 x1 x2 x3 x4 x5:=
 tq (g:=fun J=>some (Dt.agg [(Dt.int x1),(Dt.int x2),(Dt.str x3),(Dt.lst x4),(Dt.lst x5)])) (by rfl)
theorem qG_l13_eq m:∀M13 x0 x1 x2 x3 x4 x5 x6 x7 x8,l47 jn m w47_3 [] M13 (s47_15 x0 x1 x2 x3 x4 x5 x6 x7 x8)=qG_l13 m (qG m) M13 x0 x1 x2 x3 x4 x5 x6 x7 x8
 |0,_,_,_,_,_,_,_,_,_=>rfl
 | M13+1,x0,x1,x2,x3,x4,x5,x6,x7,x8=>
   tl (g:=fun J=>(bif (decide (x2<x1)) then
  (jj J 0 13 0 (s47_15 x0 x1 x2 x3 x4 x5 x6 x7 x8) (e47 J m w47_5 [M13]))
   else
  (jj J 0 16 0 (s47_16 x3 x4 x5 x6 x7 x8) (e47 J m [1,1,1,1] [])))) (by simp only[jj_eq,qG_j14_eq m M13 (qG_l13 m (qG m) M13) (qG_l13_eq m M13),qG_j16_eq m];rfl)
theorem qG_j12_eq m x0 x1 x2 x3 x4 x5 x6 x7 x8:e47 jn m w47_6 [] (s47_15 x0 x1 x2 x3 x4 x5 x6 x7 x8)=qG_j12 m (qG m) x0 x1 x2 x3 x4 x5 x6 x7 x8:=
 tq (g:=fun J=>(jj J 1 12 (Nat.succ m) (s47_15 x0 x1 x2 x3 x4 x5 x6 x7 x8) (l47 J m w47_3 [] (Nat.succ m)))) (by simp only[jj_eq,qG_l13_eq m];rfl)
theorem qG_j17_eq m x0 x1:e47 jn m [1,1,1,1] [] (s47_17 x0 x1)=qG_j17 m (qG m) x0 x1:=
 tq (g:=fun J=>some x1) (by rfl)
theorem qG_j11_eq m x0 x1 x2:e47 jn m [1,1,1] [] (s47_11 x0 x1 x2)=qG_j11 m (qG m) x0 x1 x2:=
 tq (g:=fun J=>(bif (decide (0<(List.length (Dt.L x0 4):Int))) then
  ((mkL (List.length (Dt.L x0 4):Int) (List.length (Dt.L x0 4):Int) kzcda49).bind fun v10=>
  (jj J 0 12 0 (s47_15 (Dt.L x0 4) (List.length (Dt.L x0 4):Int) 0 x1 (Dt.I x2 0) (Dt.I x2 1) (Dt.S x2 2) (Dt.L x2 3) v10) (e47 J m w47_6 [])))
   else
  (jj J 0 16 0 (s47_17 x1 x2) (e47 J m [1,1,1,1] [])))) (by simp only[jj_eq,qG_j12_eq m,qG_j17_eq m];rfl)
theorem qG_eq m a0:e47 jn m [] [] ⟨[(.dat 36 a0)],[],0⟩=qG (m+1) a0:=
 tq (g:=fun J=>(bif (decide (0<(List.length (Dt.L a0 3):Int))) then
  ((mkL (List.length (Dt.L a0 3):Int) (List.length (Dt.L a0 3):Int) kza2373).bind fun v0=>
  (jj J 0 5 0 (s47_3 (Dt.L a0 3) (List.length (Dt.L a0 3):Int) 0 a0 kza2373 (Dt.I a0 0) (Dt.I a0 1) (Dt.S a0 2) v0) (e47 J m w47_7 [])))
   else
  (jj J 0 9 0 (s47_11 a0 kza2373 (Dt.agg [(Dt.int (Dt.I a0 0)),(Dt.int (Dt.I a0 1)),(Dt.str (Dt.S a0 2)),(Dt.lst []),(Dt.lst [])])) (e47 J m [1,1,1] [])))) (by simp only[jj_eq,qG_j0_eq m,qG_j11_eq m];rfl)
def w49_7:List Nat:=[1,1,0,1,0,1]
def w49_0:List Nat:=w49_7++[0]
def w49_6:List Nat:=[1,1,1,0,1,0,1]
def w49_3:List Nat:=w49_6++[0]
def w49_2:List Nat:=w49_0++[0,1]
def w49_1:List Nat:=w49_2++[1]
def w49_5:List Nat:=w49_3++[0,1]
def w49_4:List Nat:=w49_5++[1]
noncomputable def e49 (J:Nat→Nat→Nat→St→Option (List Dt)→Option (List Dt)) (m:Nat) (p ms:List Nat) (σ:St):=evAt Tryz.prog env (ct m) J (m+1) 72 44 Tryz.f72 d11 p ms σ
noncomputable def l49 (J:Nat→Nat→Nat→St→Option (List Dt)→Option (List Dt)) (m:Nat) (p ms:List Nat) (M:Nat) (σ:St):=loopAt Tryz.prog env (ct m) J (m+1) 72 44 Tryz.f72 d11 p ms M σ
noncomputable def s49_3 (x0:Int) (x1:Dt) (x2:List Dt):St:=⟨tsOf [(1,(.ptr 0 [] 0)),(3,(.row 1)),(4,(.dat 3 (.int x0)))],[(.box 36 (.dat 36 x1)),(.row 23 x2)],0⟩
noncomputable def s49_8 (x0:Int) (x1:Dt) (x2:List Dt):St:=⟨tsOf [(1,(.ptr 0 [] 0)),(3,(.row 1)),(5,(.dat 3 (.int x0)))],[(.box 36 (.dat 36 x1)),(.row 23 x2)],0⟩
noncomputable def s49_9 (x0:List Dt):St:=⟨tsOf [(3,(.row 0))],[(.row 23 x0)],0⟩
noncomputable def s49_4 (x0:Dt) (x1:List Dt):St:=⟨tsOf [(1,(.ptr 0 [] 0)),(3,(.row 1))],[(.box 36 (.dat 36 x0)),(.row 23 x1)],0⟩
abbrev H49_1 (m M1:Nat) (rec1:Int→Dt→List Dt→Option (List Dt)):Prop:=∀x0 x1 x2,l49 jn m w49_0 [] M1 (s49_3 x0 x1 x2)=rec1 x0 x1 x2
theorem qP_j3_eq m M1 rec1 (h1:H49_1 m M1 rec1) x0 x1 x2:e49 jn m w49_1 [M1] (s49_3 x0 x1 x2)=qP_j3 m rec1 x0 x1 x2:=
 tq (g:=fun J=>(jj J 1 4 M1 (s49_3 (IntKind.wrap .i64 (x0+1)) x1 x2) (l49 J m w49_0 [] M1))) (by simp only[jj_eq,h1];rfl)
theorem qP_j2_eq m M1 rec1 (h1:H49_1 m M1 rec1) x0 x1 x2:e49 jn m w49_2 [M1] (s49_3 x0 x1 x2)=qP_j2 m rec1 x0 x1 x2:=
 tq (g:=fun J=>((idx (Dt.L x1 3) x0).bind fun v0=>
  ((app x2 [v0]).bind fun v1=>
  (jj J 0 5 0 (s49_3 x0 x1 v1) (e49 J m w49_1 [M1]))))) (by simp only[jj_eq,qP_j3_eq m M1 rec1 h1];rfl)
abbrev H49_6 (m M6:Nat) (rec6:Int→Dt→List Dt→Option (List Dt)):Prop:=∀x0 x1 x2,l49 jn m w49_3 [] M6 (s49_8 x0 x1 x2)=rec6 x0 x1 x2
theorem qP_j8_eq m M6 rec6 (h6:H49_6 m M6 rec6) x0 x1 x2:e49 jn m w49_4 [M6] (s49_8 x0 x1 x2)=qP_j8 m rec6 x0 x1 x2:=
 tq (g:=fun J=>(jj J 1 9 M6 (s49_8 (IntKind.wrap .i64 (x0+1)) x1 x2) (l49 J m w49_3 [] M6))) (by simp only[jj_eq,h6];rfl)
theorem qP_j7_eq m M6 rec6 (h6:H49_6 m M6 rec6) x0 x1 x2:e49 jn m w49_5 [M6] (s49_8 x0 x1 x2)=qP_j7 m rec6 x0 x1 x2:=
 tq (g:=fun J=>((idx (Dt.L x1 4) x0).bind fun v2=>
  ((app x2 [(Dt.fld v2 1)]).bind fun v3=>
  (jj J 0 10 0 (s49_8 x0 x1 v3) (e49 J m w49_4 [M6]))))) (by simp only[jj_eq,qP_j8_eq m M6 rec6 h6];rfl)
theorem qP_j9_eq m x0:e49 jn m [1,1,1,1] [] (s49_9 x0)=qP_j9 m x0:=
 tq (g:=fun J=>some x0) (by rfl)
theorem qP_l6_eq m:∀M6 x0 x1 x2,l49 jn m w49_3 [] M6 (s49_8 x0 x1 x2)=qP_l6 m M6 x0 x1 x2
 |0,_,_,_=>rfl
 | M6+1,x0,x1,x2=>
   tl (g:=fun J=>(bif (decide (x0<(List.length (Dt.L x1 4):Int))) then
  (jj J 0 11 0 (s49_8 x0 x1 x2) (e49 J m w49_5 [M6]))
   else
  (jj J 0 12 0 (s49_9 x2) (e49 J m [1,1,1,1] [])))) (by simp only[jj_eq,qP_j7_eq m M6 (qP_l6 m M6) (qP_l6_eq m M6),qP_j9_eq m];rfl)
theorem qP_j5_eq m x0 x1 x2:e49 jn m w49_6 [] (s49_8 x0 x1 x2)=qP_j5 m x0 x1 x2:=
 tq (g:=fun J=>(jj J 1 9 (Nat.succ m) (s49_8 x0 x1 x2) (l49 J m w49_3 [] (Nat.succ m)))) (by simp only[jj_eq,qP_l6_eq m];rfl)
theorem qP_j4_eq m x0 x1:e49 jn m [1,1,1] [] (s49_4 x0 x1)=qP_j4 m x0 x1:=
 tq (g:=fun J=>(bif ((Dt.I x0 0)==5) then
  (jj J 0 9 0 (s49_8 0 x0 x1) (e49 J m w49_6 []))
   else
  (jj J 0 12 0 (s49_9 x1) (e49 J m [1,1,1,1] [])))) (by simp only[jj_eq,qP_j5_eq m,qP_j9_eq m];rfl)
theorem qP_l1_eq m:∀M1 x0 x1 x2,l49 jn m w49_0 [] M1 (s49_3 x0 x1 x2)=qP_l1 m M1 x0 x1 x2
 |0,_,_,_=>rfl
 | M1+1,x0,x1,x2=>
   tl (g:=fun J=>(bif (decide (x0<(List.length (Dt.L x1 3):Int))) then
  (jj J 0 6 0 (s49_3 x0 x1 x2) (e49 J m w49_2 [M1]))
   else
  (jj J 0 7 0 (s49_4 x1 x2) (e49 J m [1,1,1] [])))) (by simp only[jj_eq,qP_j2_eq m M1 (qP_l1 m M1) (qP_l1_eq m M1),qP_j4_eq m];rfl)
theorem qP_j0_eq m x0 x1 x2:e49 jn m w49_7 [] (s49_3 x0 x1 x2)=qP_j0 m x0 x1 x2:=
 tq (g:=fun J=>(jj J 1 4 (Nat.succ m) (s49_3 x0 x1 x2) (l49 J m w49_0 [] (Nat.succ m)))) (by simp only[jj_eq,qP_l1_eq m];rfl)
theorem qP_eq m a0:e49 jn m [] [] ⟨[(.dat 36 a0)],[],0⟩=qP (m+1) a0:=
 tq (g:=fun J=>(bif ((Dt.I a0 0)==6) then
  (jj J 0 4 0 (s49_3 0 a0 []) (e49 J m w49_7 []))
   else
  (jj J 0 7 0 (s49_4 a0 []) (e49 J m [1,1,1] [])))) (by simp only[jj_eq,qP_j0_eq m,qP_j4_eq m];rfl)
def w32_3:List Nat:=[1,1,1,1,1]
def w32_4:List Nat:=[1,1,1,1,0,1]
def w32_0:List Nat:=w32_4++[0]
def w32_2:List Nat:=w32_0++[0,1]
def w32_1:List Nat:=w32_2++[1]
noncomputable def e32 (J:Nat→Nat→Nat→St→Option Int→Option Int) (m:Nat) (p ms:List Nat) (σ:St):=evAt Tryz.prog env (ct m) J (m+1) 42 34 Tryz.f42 d32 p ms σ
noncomputable def l32 (J:Nat→Nat→Nat→St→Option Int→Option Int) (m:Nat) (p ms:List Nat) (M:Nat) (σ:St):=loopAt Tryz.prog env (ct m) J (m+1) 42 34 Tryz.f42 d32 p ms M σ
noncomputable def s32_5 (x0:Int) (x1:List Dt) (x2 x3:Int):St:=⟨tsOf [(1,(.dat 3 (.int x0))),(5,(.dat 23 (.lst x1))),(6,(.dat 3 (.int x2))),(7,(.dat 3 (.int x3)))],[],0⟩
noncomputable def s32_6 (x0:Int):St:=⟨tsOf [(6,(.dat 3 (.int x0)))],[],0⟩
noncomputable def s32_1 (x0:Int) (x1:List Dt):St:=⟨tsOf [(1,(.dat 3 (.int x0))),(5,(.dat 23 (.lst x1)))],[],0⟩
noncomputable def s32_0 (x0:Int) (x1:List Dt) (x2:Bool):St:=⟨tsOf [(1,(.dat 3 (.int x0))),(5,(.dat 23 (.lst x1))),(16,(.dat 4 (.bool x2)))],[],0⟩
abbrev H32_3 (m M3:Nat) (rec3:Int→List Dt→Int→Int→Option Int):Prop:=∀x0 x1 x2 x3,l32 jn m w32_0 [] M3 (s32_5 x0 x1 x2 x3)=rec3 x0 x1 x2 x3
theorem qM_j5_eq m M3 rec3 (h3:H32_3 m M3 rec3) x0 x1 x2 x3:e32 jn m w32_1 [M3] (s32_5 x0 x1 x2 x3)=qM_j5 m (qM m) rec3 x0 x1 x2 x3:=
 tq (g:=fun J=>(jj J 1 6 M3 (s32_5 x0 x1 x2 (IntKind.wrap .i64 (x3+1))) (l32 J m w32_0 [] M3))) (by simp only[jj_eq,h3];rfl)
theorem qM_j4_eq m M3 rec3 (h3:H32_3 m M3 rec3) x0 x1 x2 x3:e32 jn m w32_2 [M3] (s32_5 x0 x1 x2 x3)=qM_j4 m (qM m) rec3 x0 x1 x2 x3:=
 tq (g:=fun J=>((idx x1 x3).bind fun v1=>
  ((qM m v1 (IntKind.wrap .i64 (x0-1))).bind fun r2=>
  (jj J 0 7 0 (s32_5 x0 x1 (bif (decide (x2<r2)) then r2 else x2) x3) (e32 J m w32_1 [M3]))))) (by simp only[jj_eq,qM_j5_eq m M3 rec3 h3];rfl)
theorem qM_j6_eq m x0:e32 jn m w32_3 [] (s32_6 x0)=qM_j6 m (qM m) x0:=
 tq (g:=fun J=>some (IntKind.wrap .i64 (x0+1))) (by rfl)
theorem qM_l3_eq m:∀M3 x0 x1 x2 x3,l32 jn m w32_0 [] M3 (s32_5 x0 x1 x2 x3)=qM_l3 m (qM m) M3 x0 x1 x2 x3
 |0,_,_,_,_=>rfl
 | M3+1,x0,x1,x2,x3=>
   tl (g:=fun J=>(bif (decide (x3<(List.length x1:Int))) then
  (jj J 0 8 0 (s32_5 x0 x1 x2 x3) (e32 J m w32_2 [M3]))
   else
  (jj J 0 9 0 (s32_6 x2) (e32 J m w32_3 [])))) (by simp only[jj_eq,qM_j4_eq m M3 (qM_l3 m (qM m) M3) (qM_l3_eq m M3),qM_j6_eq m];rfl)
theorem qM_j2_eq m x0 x1 x2 x3:e32 jn m w32_4 [] (s32_5 x0 x1 x2 x3)=qM_j2 m (qM m) x0 x1 x2 x3:=
 tq (g:=fun J=>(jj J 1 6 (Nat.succ m) (s32_5 x0 x1 x2 x3) (l32 J m w32_0 [] (Nat.succ m)))) (by simp only[jj_eq,qM_l3_eq m];rfl)
theorem qM_j1_eq m x0 x1:e32 jn m [1,1,1] [] (s32_1 x0 x1)=qM_j1 m (qM m) x0 x1:=
 tq (g:=fun J=>(jj J 0 6 0 (s32_5 x0 x1 0 0) (e32 J m w32_4 []))) (by simp only[jj_eq,qM_j2_eq m];rfl)
theorem qM_j0_eq m x0 x1 x2:e32 jn m [1,1,0,1] [] (s32_0 x0 x1 x2)=qM_j0 m (qM m) x0 x1 x2:=
 tq (g:=fun J=>(bif x2 then
  some 1
   else
  (jj J 0 4 0 (s32_1 x0 x1) (e32 J m [1,1,1] [])))) (by simp only[jj_eq,qM_j1_eq m];rfl)
theorem qM_eq m a0 a1:e32 jn m [] [] ⟨[(.dat 36 a0),(.dat 3 (.int a1))],[],0⟩=qM (m+1) a0 a1:=
 tq (g:=fun J=>((qP m a0).bind fun r0=>
  (bif (decide (a1<2)) then
  (jj J 0 3 0 (s32_0 a1 r0 true) (e32 J m [1,1,0,1] []))
  else
  (jj J 0 3 0 (s32_0 a1 r0 ((List.length r0:Int)==0)) (e32 J m [1,1,0,1] []))))) (by simp only[jj_eq,qM_j0_eq m];rfl)
noncomputable def e15 (J:Nat→Nat→Nat→St→Option Int→Option Int) (m:Nat) (p ms:List Nat) (σ:St):=evAt Tryz.prog env (ct m) J (m+1) 25 5 Tryz.f25 d32 p ms σ
theorem zQ_eq m a0:e15 jn m [] [] ⟨[(.dat 36 a0)],[],0⟩=zQ (m+1) a0:=
 tq (g:=fun J=>((qM m a0 17).bind fun r0=>
  some r0)) (by rfl)
def w33_3:List Nat:=[1,1,1,0,1]
def w33_0:List Nat:=[1,1,1,0,1,0]
def w33_2:List Nat:=w33_0++[0,1]
def w33_1:List Nat:=w33_2++[1]
noncomputable def e33 (J:Nat→Nat→Nat→St→Option Int→Option Int) (m:Nat) (p ms:List Nat) (σ:St):=evAt Tryz.prog env (ct m) J (m+1) 43 32 Tryz.f43 d32 p ms σ
noncomputable def l33 (J:Nat→Nat→Nat→St→Option Int→Option Int) (m:Nat) (p ms:List Nat) (M:Nat) (σ:St):=loopAt Tryz.prog env (ct m) J (m+1) 43 32 Tryz.f43 d32 p ms M σ
noncomputable def s33_3 (x0 x1:Int) (x2:List Dt) (x3:Int):St:=⟨tsOf [(1,(.dat 3 (.int x0))),(5,(.dat 3 (.int x1))),(6,(.dat 23 (.lst x2))),(7,(.dat 3 (.int x3)))],[],0⟩
noncomputable def s33_4 (x0:Int):St:=⟨tsOf [(5,(.dat 3 (.int x0)))],[],0⟩
abbrev H33_1 (m M1:Nat) (rec1:Int→Int→List Dt→Int→Option Int):Prop:=∀x0 x1 x2 x3,l33 jn m w33_0 [] M1 (s33_3 x0 x1 x2 x3)=rec1 x0 x1 x2 x3
theorem zC_j3_eq m M1 rec1 (h1:H33_1 m M1 rec1) x0 x1 x2 x3:e33 jn m w33_1 [M1] (s33_3 x0 x1 x2 x3)=zC_j3 m (zC m) rec1 x0 x1 x2 x3:=
 tq (g:=fun J=>(jj J 1 4 M1 (s33_3 x0 x1 x2 (IntKind.wrap .i64 (x3+1))) (l33 J m w33_0 [] M1))) (by simp only[jj_eq,h1];rfl)
theorem zC_j2_eq m M1 rec1 (h1:H33_1 m M1 rec1) x0 x1 x2 x3:e33 jn m w33_2 [M1] (s33_3 x0 x1 x2 x3)=zC_j2 m (zC m) rec1 x0 x1 x2 x3:=
 tq (g:=fun J=>((idx x2 x3).bind fun v1=>
  ((zC m v1 (IntKind.wrap .i64 (x0-x1))).bind fun r2=>
  (jj J 0 5 0 (s33_3 x0 (IntKind.wrap .i64 (x1+r2)) x2 x3) (e33 J m w33_1 [M1]))))) (by simp only[jj_eq,zC_j3_eq m M1 rec1 h1];rfl)
theorem zC_j4_eq m x0:e33 jn m [1,1,1,1] [] (s33_4 x0)=zC_j4 m (zC m) x0:=
 tq (g:=fun J=>some x0) (by rfl)
theorem zC_l1_eq m:∀M1 x0 x1 x2 x3,l33 jn m w33_0 [] M1 (s33_3 x0 x1 x2 x3)=zC_l1 m (zC m) M1 x0 x1 x2 x3
 |0,_,_,_,_=>rfl
 | M1+1,x0,x1,x2,x3=>
   tl (g:=fun J=>(bif (decide (x3<(List.length x2:Int))) then
  (bif (decide (x1<x0)) then
  (jj J 0 6 0 (s33_3 x0 x1 x2 x3) (e33 J m w33_2 [M1]))
  else
  (jj J 0 7 0 (s33_4 x1) (e33 J m [1,1,1,1] [])))
   else
  (jj J 0 7 0 (s33_4 x1) (e33 J m [1,1,1,1] [])))) (by simp only[jj_eq,zC_j2_eq m M1 (zC_l1 m (zC m) M1) (zC_l1_eq m M1),zC_j4_eq m];rfl)
theorem zC_j0_eq m x0 x1 x2 x3:e33 jn m w33_3 [] (s33_3 x0 x1 x2 x3)=zC_j0 m (zC m) x0 x1 x2 x3:=
 tq (g:=fun J=>(jj J 1 4 (Nat.succ m) (s33_3 x0 x1 x2 x3) (l33 J m w33_0 [] (Nat.succ m)))) (by simp only[jj_eq,zC_l1_eq m];rfl)
theorem zC_eq m a0 a1:e33 jn m [] [] ⟨[(.dat 36 a0),(.dat 3 (.int a1))],[],0⟩=zC (m+1) a0 a1:=
 tq (g:=fun J=>((qP m a0).bind fun r0=>
  (jj J 0 4 0 (s33_3 a1 1 r0 0) (e33 J m w33_3 [])))) (by simp only[jj_eq,zC_j0_eq m];rfl)
noncomputable def e16 (J:Nat→Nat→Nat→St→Option Int→Option Int) (m:Nat) (p ms:List Nat) (σ:St):=evAt Tryz.prog env (ct m) J (m+1) 26 5 Tryz.f26 d32 p ms σ
theorem zT_eq m a0:e16 jn m [] [] ⟨[(.dat 36 a0)],[],0⟩=zT (m+1) a0:=
 tq (g:=fun J=>((zC m a0 1025).bind fun r0=>
  some r0)) (by rfl)
def w50_0:List Nat:=[1,1,0,1,0]
def w50_3:List Nat:=[1,1,0,1,0,0,1]
def w50_1:List Nat:=w50_3++[1]
def w50_2:List Nat:=w50_3++[0,0,1]
noncomputable def e50 (J:Nat→Nat→Nat→St→Option Bool→Option Bool) (m:Nat) (p ms:List Nat) (σ:St):=evAt Tryz.prog env (ct m) J (m+1) 73 33 Tryz.f73 d14 p ms σ
noncomputable def l50 (J:Nat→Nat→Nat→St→Option Bool→Option Bool) (m:Nat) (p ms:List Nat) (M:Nat) (σ:St):=loopAt Tryz.prog env (ct m) J (m+1) 73 33 Tryz.f73 d14 p ms M σ
noncomputable def s50_5 (x0:ByteArray) (x1 x2 x3:Int):St:=⟨tsOf [(0,(.dat 9 (.str x0))),(1,(.dat 3 (.int x1))),(2,(.dat 3 (.int x2))),(7,(.dat 3 (.int x3)))],[],0⟩
noncomputable def s50_4 (x0:ByteArray) (x1 x2 x3:Int) (x4:Bool):St:=⟨tsOf [(0,(.dat 9 (.str x0))),(1,(.dat 3 (.int x1))),(2,(.dat 3 (.int x2))),(7,(.dat 3 (.int x3))),(32,(.dat 4 (.bool x4)))],[],0⟩
noncomputable def s50_6:St:=⟨tsOf [],[],0⟩
noncomputable def s50_0 (x0:ByteArray) (x1 x2:Int):St:=⟨tsOf [(0,(.dat 9 (.str x0))),(1,(.dat 3 (.int x1))),(2,(.dat 3 (.int x2)))],[],0⟩
abbrev H50_2 (m M2:Nat) (rec2:ByteArray→Int→Int→Int→Option Bool):Prop:=∀x0 x1 x2 x3,l50 jn m w50_0 [] M2 (s50_5 x0 x1 x2 x3)=rec2 x0 x1 x2 x3
theorem zA_j5_eq m M2 rec2 (h2:H50_2 m M2 rec2) x0 x1 x2 x3:e50 jn m w50_1 [M2] (s50_5 x0 x1 x2 x3)=zA_j5 m rec2 x0 x1 x2 x3:=
 tq (g:=fun J=>(jj J 1 4 M2 (s50_5 x0 x1 x2 (IntKind.wrap .i64 (x3+1))) (l50 J m w50_0 [] M2))) (by simp only[jj_eq,h2];rfl)
theorem zA_j4_eq m M2 rec2 (h2:H50_2 m M2 rec2) x0 x1 x2 x3 x4:e50 jn m w50_2 [M2] (s50_4 x0 x1 x2 x3 x4)=zA_j4 m rec2 x0 x1 x2 x3 x4:=
 tq (g:=fun J=>(bif x4 then
  some false
   else
  (jj J 0 5 0 (s50_5 x0 x1 x2 x3) (e50 J m w50_1 [M2])))) (by simp only[jj_eq,zA_j5_eq m M2 rec2 h2];rfl)
theorem zA_j3_eq m M2 rec2 (h2:H50_2 m M2 rec2) x0 x1 x2 x3:e50 jn m w50_3 [M2] (s50_5 x0 x1 x2 x3)=zA_j3 m rec2 x0 x1 x2 x3:=
 tq (g:=fun J=>((idxS x0 (IntKind.wrap .i64 (x1+x3))).bind fun v0=>
  (bif (decide (v0<128)) then
  (jj J 0 7 0 (s50_4 x0 x1 x2 x3 true) (e50 J m w50_2 [M2]))
  else
  ((idxS x0 (IntKind.wrap .i64 (x1+x3))).bind fun v1=>
  (jj J 0 7 0 (s50_4 x0 x1 x2 x3 (decide (191<v1))) (e50 J m w50_2 [M2])))))) (by simp only[jj_eq,zA_j4_eq m M2 rec2 h2];rfl)
theorem zA_j6_eq m:e50 jn m [1,1,1] [] s50_6=zA_j6 m:=
 tq (g:=fun J=>some true) (by rfl)
theorem zA_l2_eq m:∀M2 x0 x1 x2 x3,l50 jn m w50_0 [] M2 (s50_5 x0 x1 x2 x3)=zA_l2 m M2 x0 x1 x2 x3
 |0,_,_,_,_=>rfl
 | M2+1,x0,x1,x2,x3=>
   tl (g:=fun J=>(bif (decide (x3<x2)) then
  (jj J 0 6 0 (s50_5 x0 x1 x2 x3) (e50 J m w50_3 [M2]))
   else
  (jj J 0 8 0 s50_6 (e50 J m [1,1,1] [])))) (by simp only[jj_eq,zA_j3_eq m M2 (zA_l2 m M2) (zA_l2_eq m M2),zA_j6_eq m];rfl)
theorem zA_j1_eq m x0 x1 x2 x3:e50 jn m [1,1,0,1] [] (s50_5 x0 x1 x2 x3)=zA_j1 m x0 x1 x2 x3:=
 tq (g:=fun J=>(jj J 1 4 (Nat.succ m) (s50_5 x0 x1 x2 x3) (l50 J m w50_0 [] (Nat.succ m)))) (by simp only[jj_eq,zA_l2_eq m];rfl)
theorem zA_j0_eq m x0 x1 x2:e50 jn m [1,1] [] (s50_0 x0 x1 x2)=zA_j0 m x0 x1 x2:=
 tq (g:=fun J=>(jj J 0 4 0 (s50_5 x0 x1 x2 0) (e50 J m [1,1,0,1] []))) (by simp only[jj_eq,zA_j1_eq m];rfl)
theorem zA_eq m a0 a1 a2:e50 jn m [] [] ⟨[(.dat 9 (.str a0)),(.dat 3 (.int a1)),(.dat 3 (.int a2))],[],0⟩=zA (m+1) a0 a1 a2:=
 tq (g:=fun J=>(bif (decide ((ByteArray.size a0:Int)<(IntKind.wrap .i64 (a1+a2)))) then
  some false
   else
  (jj J 0 3 0 (s50_0 a0 a1 a2) (e50 J m [1,1] [])))) (by simp only[jj_eq,zA_j0_eq m];rfl)
def w34_7:List Nat:=[1,0,1,0,0,1]
def w34_3:List Nat:=w34_7++[0,1,1,1]
def w34_2:List Nat:=w34_3++[1]
def w34_0:List Nat:=w34_2++[1]
def w34_1:List Nat:=w34_2++[0,1]
def w34_6:List Nat:=w34_7++[0,1,1,0,0,1,1,1]
def w34_5:List Nat:=w34_6++[1,1]
def w34_4:List Nat:=w34_5++[1,1]
noncomputable def e34 (J:Nat→Nat→Nat→St→Option Bool→Option Bool) (m:Nat) (p ms:List Nat) (σ:St):=evAt Tryz.prog env (ct m) J (m+1) 44 89 Tryz.f44 d14 p ms σ
noncomputable def l34 (J:Nat→Nat→Nat→St→Option Bool→Option Bool) (m:Nat) (p ms:List Nat) (M:Nat) (σ:St):=loopAt Tryz.prog env (ct m) J (m+1) 44 89 Tryz.f44 d14 p ms M σ
noncomputable def s34_6 (x0:ByteArray) (x1 x2:Int):St:=⟨tsOf [(0,(.dat 9 (.str x0))),(3,(.dat 3 (.int x1))),(5,(.dat 3 (.int x2)))],[],0⟩
noncomputable def s34_5 (x0:ByteArray) (x1 x2:Int) (x3:Bool):St:=⟨tsOf [(0,(.dat 9 (.str x0))),(3,(.dat 3 (.int x1))),(5,(.dat 3 (.int x2))),(84,(.dat 4 (.bool x3)))],[],0⟩
noncomputable def s34_4 (x0:ByteArray) (x1 x2 x3:Int):St:=⟨tsOf [(0,(.dat 9 (.str x0))),(3,(.dat 3 (.int x1))),(4,(.dat 5 (.int x2))),(5,(.dat 3 (.int x3)))],[],0⟩
noncomputable def s34_9 (x0:ByteArray) (x1 x2:Int) (x3:Bool):St:=⟨tsOf [(0,(.dat 9 (.str x0))),(3,(.dat 3 (.int x1))),(4,(.dat 5 (.int x2))),(30,(.dat 4 (.bool x3)))],[],0⟩
noncomputable def s34_8 (x0:ByteArray) (x1 x2:Int) (x3:Bool):St:=⟨tsOf [(0,(.dat 9 (.str x0))),(3,(.dat 3 (.int x1))),(4,(.dat 5 (.int x2))),(23,(.dat 4 (.bool x3)))],[],0⟩
noncomputable def s34_7 (x0:ByteArray) (x1 x2:Int) (x3:Bool):St:=⟨tsOf [(0,(.dat 9 (.str x0))),(3,(.dat 3 (.int x1))),(4,(.dat 5 (.int x2))),(16,(.dat 4 (.bool x3)))],[],0⟩
noncomputable def s34_2 (x0:ByteArray) (x1:Int):St:=⟨tsOf [(0,(.dat 9 (.str x0))),(3,(.dat 3 (.int x1)))],[],0⟩
noncomputable def s34_10:St:=⟨tsOf [],[],0⟩
abbrev H34_1 (m M1:Nat) (rec1:ByteArray→Int→Option Bool):Prop:=∀x0 x1,l34 jn m [1,0,1,0] [] M1 (s34_2 x0 x1)=rec1 x0 x1
theorem qN_j6_eq m M1 rec1 (h1:H34_1 m M1 rec1) x0 x1 x2:e34 jn m w34_0 [M1] (s34_6 x0 x1 x2)=qN_j6 m rec1 x0 x1 x2:=
 tq (g:=fun J=>(jj J 1 2 M1 (s34_2 x0 (IntKind.wrap .i64 ((IntKind.wrap .i64 (x1+x2))+1))) (l34 J m [1,0,1,0] [] M1))) (by simp only[jj_eq,h1];rfl)
theorem qN_j5_eq m M1 rec1 (h1:H34_1 m M1 rec1) x0 x1 x2 x3:e34 jn m w34_1 [M1] (s34_5 x0 x1 x2 x3)=qN_j5 m rec1 x0 x1 x2 x3:=
 tq (g:=fun J=>(bif x3 then
  some false
   else
  (jj J 0 17 0 (s34_6 x0 x1 x2) (e34 J m w34_0 [M1])))) (by simp only[jj_eq,qN_j6_eq m M1 rec1 h1];rfl)
theorem qN_j4_eq m M1 rec1 (h1:H34_1 m M1 rec1) x0 x1 x2 x3:e34 jn m w34_2 [M1] (s34_4 x0 x1 x2 x3)=qN_j4 m rec1 x0 x1 x2 x3:=
 tq (g:=fun J=>(bif (x2==224) then
  ((idxS x0 (IntKind.wrap .i64 (x1+1))).bind fun v2=>
  (bif (decide (v2<160)) then
  (jj J 0 16 0 (s34_5 x0 x1 x3 true) (e34 J m w34_1 [M1]))
  else
  (bif (x2==237) then
  ((idxS x0 (IntKind.wrap .i64 (x1+1))).bind fun v3=>
  (bif (decide (159<v3)) then
  (jj J 0 16 0 (s34_5 x0 x1 x3 true) (e34 J m w34_1 [M1]))
  else
  (bif (x2==240) then
  ((idxS x0 (IntKind.wrap .i64 (x1+1))).bind fun v4=>
  (bif (decide (v4<144)) then
  (jj J 0 16 0 (s34_5 x0 x1 x3 true) (e34 J m w34_1 [M1]))
  else
  (bif (x2==244) then
  ((idxS x0 (IntKind.wrap .i64 (x1+1))).bind fun v5=>
  (jj J 0 16 0 (s34_5 x0 x1 x3 (decide (143<v5))) (e34 J m w34_1 [M1])))
  else
  (jj J 0 16 0 (s34_5 x0 x1 x3 false) (e34 J m w34_1 [M1])))))
  else
  (bif (x2==244) then
  ((idxS x0 (IntKind.wrap .i64 (x1+1))).bind fun v6=>
  (jj J 0 16 0 (s34_5 x0 x1 x3 (decide (143<v6))) (e34 J m w34_1 [M1])))
  else
  (jj J 0 16 0 (s34_5 x0 x1 x3 false) (e34 J m w34_1 [M1]))))))
  else
  (bif (x2==240) then
  ((idxS x0 (IntKind.wrap .i64 (x1+1))).bind fun v7=>
  (bif (decide (v7<144)) then
  (jj J 0 16 0 (s34_5 x0 x1 x3 true) (e34 J m w34_1 [M1]))
  else
  (bif (x2==244) then
  ((idxS x0 (IntKind.wrap .i64 (x1+1))).bind fun v8=>
  (jj J 0 16 0 (s34_5 x0 x1 x3 (decide (143<v8))) (e34 J m w34_1 [M1])))
  else
  (jj J 0 16 0 (s34_5 x0 x1 x3 false) (e34 J m w34_1 [M1])))))
  else
  (bif (x2==244) then
  ((idxS x0 (IntKind.wrap .i64 (x1+1))).bind fun v9=>
  (jj J 0 16 0 (s34_5 x0 x1 x3 (decide (143<v9))) (e34 J m w34_1 [M1])))
  else
  (jj J 0 16 0 (s34_5 x0 x1 x3 false) (e34 J m w34_1 [M1])))))))
   else
  (bif (x2==237) then
  ((idxS x0 (IntKind.wrap .i64 (x1+1))).bind fun v10=>
  (bif (decide (159<v10)) then
  (jj J 0 16 0 (s34_5 x0 x1 x3 true) (e34 J m w34_1 [M1]))
  else
  (bif (x2==240) then
  ((idxS x0 (IntKind.wrap .i64 (x1+1))).bind fun v11=>
  (bif (decide (v11<144)) then
  (jj J 0 16 0 (s34_5 x0 x1 x3 true) (e34 J m w34_1 [M1]))
  else
  (bif (x2==244) then
  ((idxS x0 (IntKind.wrap .i64 (x1+1))).bind fun v12=>
  (jj J 0 16 0 (s34_5 x0 x1 x3 (decide (143<v12))) (e34 J m w34_1 [M1])))
  else
  (jj J 0 16 0 (s34_5 x0 x1 x3 false) (e34 J m w34_1 [M1])))))
  else
  (bif (x2==244) then
  ((idxS x0 (IntKind.wrap .i64 (x1+1))).bind fun v13=>
  (jj J 0 16 0 (s34_5 x0 x1 x3 (decide (143<v13))) (e34 J m w34_1 [M1])))
  else
  (jj J 0 16 0 (s34_5 x0 x1 x3 false) (e34 J m w34_1 [M1]))))))
  else
  (bif (x2==240) then
  ((idxS x0 (IntKind.wrap .i64 (x1+1))).bind fun v14=>
  (bif (decide (v14<144)) then
  (jj J 0 16 0 (s34_5 x0 x1 x3 true) (e34 J m w34_1 [M1]))
  else
  (bif (x2==244) then
  ((idxS x0 (IntKind.wrap .i64 (x1+1))).bind fun v15=>
  (jj J 0 16 0 (s34_5 x0 x1 x3 (decide (143<v15))) (e34 J m w34_1 [M1])))
  else
  (jj J 0 16 0 (s34_5 x0 x1 x3 false) (e34 J m w34_1 [M1])))))
  else
  (bif (x2==244) then
  ((idxS x0 (IntKind.wrap .i64 (x1+1))).bind fun v16=>
  (jj J 0 16 0 (s34_5 x0 x1 x3 (decide (143<v16))) (e34 J m w34_1 [M1])))
  else
  (jj J 0 16 0 (s34_5 x0 x1 x3 false) (e34 J m w34_1 [M1]))))))) (by simp only[jj_eq,qN_j5_eq m M1 rec1 h1];rfl)
theorem qN_j3_eq m M1 rec1 (h1:H34_1 m M1 rec1) x0 x1 x2 x3:e34 jn m w34_3 [M1] (s34_4 x0 x1 x2 x3)=qN_j3 m rec1 x0 x1 x2 x3:=
 tq (g:=fun J=>((zA m x0 (IntKind.wrap .i64 (x1+1)) x3).bind fun r1=>
  (bif (Bool.not r1) then
  some false
  else
  (jj J 0 15 0 (s34_4 x0 x1 x2 x3) (e34 J m w34_2 [M1]))))) (by simp only[jj_eq,qN_j4_eq m M1 rec1 h1];rfl)
theorem qN_j9_eq m M1 rec1 (h1:H34_1 m M1 rec1) x0 x1 x2 x3:e34 jn m w34_4 [M1] (s34_9 x0 x1 x2 x3)=qN_j9 m rec1 x0 x1 x2 x3:=
 tq (g:=fun J=>(bif x3 then
  (jj J 0 13 0 (s34_4 x0 x1 x2 3) (e34 J m w34_3 [M1]))
   else
  some false)) (by simp only[jj_eq,qN_j3_eq m M1 rec1 h1];rfl)
theorem qN_j8_eq m M1 rec1 (h1:H34_1 m M1 rec1) x0 x1 x2 x3:e34 jn m w34_5 [M1] (s34_8 x0 x1 x2 x3)=qN_j8 m rec1 x0 x1 x2 x3:=
 tq (g:=fun J=>(bif x3 then
  (jj J 0 13 0 (s34_4 x0 x1 x2 2) (e34 J m w34_3 [M1]))
   else
  (bif (decide (240≤x2)) then
  (jj J 0 12 0 (s34_9 x0 x1 x2 (decide (x2≤244))) (e34 J m w34_4 [M1]))
  else
  (jj J 0 12 0 (s34_9 x0 x1 x2 false) (e34 J m w34_4 [M1]))))) (by simp only[jj_eq,qN_j3_eq m M1 rec1 h1,qN_j9_eq m M1 rec1 h1];rfl)
theorem qN_j7_eq m M1 rec1 (h1:H34_1 m M1 rec1) x0 x1 x2 x3:e34 jn m w34_6 [M1] (s34_7 x0 x1 x2 x3)=qN_j7 m rec1 x0 x1 x2 x3:=
 tq (g:=fun J=>(bif x3 then
  (jj J 0 13 0 (s34_4 x0 x1 x2 1) (e34 J m w34_3 [M1]))
   else
  (bif (decide (224≤x2)) then
  (jj J 0 10 0 (s34_8 x0 x1 x2 (decide (x2≤239))) (e34 J m w34_5 [M1]))
  else
  (jj J 0 10 0 (s34_8 x0 x1 x2 false) (e34 J m w34_5 [M1]))))) (by simp only[jj_eq,qN_j3_eq m M1 rec1 h1,qN_j8_eq m M1 rec1 h1];rfl)
theorem qN_j2_eq m M1 rec1 (h1:H34_1 m M1 rec1) x0 x1:e34 jn m w34_7 [M1] (s34_2 x0 x1)=qN_j2 m rec1 x0 x1:=
 tq (g:=fun J=>((idxS x0 x1).bind fun v0=>
  (bif (decide (v0<128)) then
  (jj J 0 13 0 (s34_4 x0 x1 v0 0) (e34 J m w34_3 [M1]))
  else
  (bif (decide (194≤v0)) then
  (jj J 0 8 0 (s34_7 x0 x1 v0 (decide (v0≤223))) (e34 J m w34_6 [M1]))
  else
  (jj J 0 8 0 (s34_7 x0 x1 v0 false) (e34 J m w34_6 [M1])))))) (by simp only[jj_eq,qN_j3_eq m M1 rec1 h1,qN_j7_eq m M1 rec1 h1];rfl)
theorem qN_j10_eq m:e34 jn m [1,1] [] s34_10=qN_j10 m:=
 tq (g:=fun J=>some true) (by rfl)
theorem qN_l1_eq m:∀M1 x0 x1,l34 jn m [1,0,1,0] [] M1 (s34_2 x0 x1)=qN_l1 m M1 x0 x1
 |0,_,_=>rfl
 | M1+1,x0,x1=>
   tl (g:=fun J=>(bif (decide (x1<(ByteArray.size x0:Int))) then
  (jj J 0 3 0 (s34_2 x0 x1) (e34 J m w34_7 [M1]))
   else
  (jj J 0 18 0 s34_10 (e34 J m [1,1] [])))) (by simp only[jj_eq,qN_j2_eq m M1 (qN_l1 m M1) (qN_l1_eq m M1),qN_j10_eq m];rfl)
theorem qN_j0_eq m x0 x1:e34 jn m [1,0,1] [] (s34_2 x0 x1)=qN_j0 m x0 x1:=
 tq (g:=fun J=>(jj J 1 2 (Nat.succ m) (s34_2 x0 x1) (l34 J m [1,0,1,0] [] (Nat.succ m)))) (by simp only[jj_eq,qN_l1_eq m];rfl)
theorem qN_eq m a0:e34 jn m [] [] ⟨[(.dat 9 (.str a0))],[],0⟩=qN (m+1) a0:=
 tq (g:=fun J=>(jj J 0 2 0 (s34_2 a0 0) (e34 J m [1,0,1] []))) (by simp only[jj_eq,qN_j0_eq m];rfl)
def w51_0:List Nat:=[1,1,0,1,0]
def w51_3:List Nat:=[1,1,0,1,0,0,1]
def w51_1:List Nat:=w51_3++[1]
def w51_2:List Nat:=w51_3++[0,0,1]
noncomputable def e51 (J:Nat→Nat→Nat→St→Option Bool→Option Bool) (m:Nat) (p ms:List Nat) (σ:St):=evAt Tryz.prog env (ct m) J (m+1) 28 39 Tryz.f28 d14 p ms σ
noncomputable def l51 (J:Nat→Nat→Nat→St→Option Bool→Option Bool) (m:Nat) (p ms:List Nat) (M:Nat) (σ:St):=loopAt Tryz.prog env (ct m) J (m+1) 28 39 Tryz.f28 d14 p ms M σ
noncomputable def s51_6 (x0:ByteArray) (x1:Int):St:=⟨tsOf [(0,(.dat 9 (.str x0))),(3,(.dat 3 (.int x1)))],[],0⟩
noncomputable def s51_5 (x0:ByteArray) (x1:Int) (x2:Bool):St:=⟨tsOf [(0,(.dat 9 (.str x0))),(3,(.dat 3 (.int x1))),(38,(.dat 4 (.bool x2)))],[],0⟩
noncomputable def s51_7:St:=⟨tsOf [],[],0⟩
noncomputable def s51_1 (x0:ByteArray):St:=⟨tsOf [(0,(.dat 9 (.str x0)))],[],0⟩
noncomputable def s51_0 (x0:ByteArray) (x1:Bool):St:=⟨tsOf [(0,(.dat 9 (.str x0))),(16,(.dat 4 (.bool x1)))],[],0⟩
abbrev H51_3 (m M3:Nat) (rec3:ByteArray→Int→Option Bool):Prop:=∀x0 x1,l51 jn m w51_0 [] M3 (s51_6 x0 x1)=rec3 x0 x1
theorem qR_j6_eq m M3 rec3 (h3:H51_3 m M3 rec3) x0 x1:e51 jn m w51_1 [M3] (s51_6 x0 x1)=qR_j6 m rec3 x0 x1:=
 tq (g:=fun J=>(jj J 1 4 M3 (s51_6 x0 (IntKind.wrap .i64 (x1+1))) (l51 J m w51_0 [] M3))) (by simp only[jj_eq,h3];rfl)
theorem qR_j5_eq m M3 rec3 (h3:H51_3 m M3 rec3) x0 x1 x2:e51 jn m w51_2 [M3] (s51_5 x0 x1 x2)=qR_j5 m rec3 x0 x1 x2:=
 tq (g:=fun J=>(bif x2 then
  some false
   else
  (jj J 0 5 0 (s51_6 x0 x1) (e51 J m w51_1 [M3])))) (by simp only[jj_eq,qR_j6_eq m M3 rec3 h3];rfl)
theorem qR_j4_eq m M3 rec3 (h3:H51_3 m M3 rec3) x0 x1:e51 jn m w51_3 [M3] (s51_6 x0 x1)=qR_j4 m rec3 x0 x1:=
 tq (g:=fun J=>((idxS x0 x1).bind fun v0=>
  (bif (decide (v0<33)) then
  (jj J 0 7 0 (s51_5 x0 x1 true) (e51 J m w51_2 [M3]))
  else
  ((idxS x0 x1).bind fun v1=>
  (bif (decide (126<v1)) then
  (jj J 0 7 0 (s51_5 x0 x1 true) (e51 J m w51_2 [M3]))
  else
  ((idxS x0 x1).bind fun v2=>
  (jj J 0 7 0 (s51_5 x0 x1 (v2==46)) (e51 J m w51_2 [M3])))))))) (by simp only[jj_eq,qR_j5_eq m M3 rec3 h3];rfl)
theorem qR_j7_eq m:e51 jn m [1,1,1] [] s51_7=qR_j7 m:=
 tq (g:=fun J=>some true) (by rfl)
theorem qR_l3_eq m:∀M3 x0 x1,l51 jn m w51_0 [] M3 (s51_6 x0 x1)=qR_l3 m M3 x0 x1
 |0,_,_=>rfl
 | M3+1,x0,x1=>
   tl (g:=fun J=>(bif (decide (x1<(ByteArray.size x0:Int))) then
  (jj J 0 6 0 (s51_6 x0 x1) (e51 J m w51_3 [M3]))
   else
  (jj J 0 8 0 s51_7 (e51 J m [1,1,1] [])))) (by simp only[jj_eq,qR_j4_eq m M3 (qR_l3 m M3) (qR_l3_eq m M3),qR_j7_eq m];rfl)
theorem qR_j2_eq m x0 x1:e51 jn m [1,1,0,1] [] (s51_6 x0 x1)=qR_j2 m x0 x1:=
 tq (g:=fun J=>(jj J 1 4 (Nat.succ m) (s51_6 x0 x1) (l51 J m w51_0 [] (Nat.succ m)))) (by simp only[jj_eq,qR_l3_eq m];rfl)
theorem qR_j1_eq m x0:e51 jn m [1,1] [] (s51_1 x0)=qR_j1 m x0:=
 tq (g:=fun J=>(jj J 0 4 0 (s51_6 x0 0) (e51 J m [1,1,0,1] []))) (by simp only[jj_eq,qR_j2_eq m];rfl)
theorem qR_j0_eq m x0 x1:e51 jn m [1,0,1] [] (s51_0 x0 x1)=qR_j0 m x0 x1:=
 tq (g:=fun J=>(bif x1 then
  some false
   else
  (jj J 0 3 0 (s51_1 x0) (e51 J m [1,1] [])))) (by simp only[jj_eq,qR_j1_eq m];rfl)
theorem qR_eq m a0:e51 jn m [] [] ⟨[(.dat 9 (.str a0))],[],0⟩=qR (m+1) a0:=
 tq (g:=fun J=>(bif (decide ((ByteArray.size a0:Int)<1)) then
  (jj J 0 2 0 (s51_0 a0 true) (e51 J m [1,0,1] []))
   else
  (bif (decide (32<(ByteArray.size a0:Int))) then
  (jj J 0 2 0 (s51_0 a0 true) (e51 J m [1,0,1] []))
  else
  ((idxS a0 0).bind fun v3=>
  (jj J 0 2 0 (s51_0 a0 (v3==36)) (e51 J m [1,0,1] [])))))) (by simp only[jj_eq,qR_j0_eq m];rfl)
def w52_0:List Nat:=[1,1,0,1,0]
def w52_3:List Nat:=[1,1,0,1,0,0,1]
def w52_1:List Nat:=w52_3++[1]
def w52_2:List Nat:=w52_3++[0,0,1]
noncomputable def e52 (J:Nat→Nat→Nat→St→Option Bool→Option Bool) (m:Nat) (p ms:List Nat) (σ:St):=evAt Tryz.prog env (ct m) J (m+1) 74 28 Tryz.f74 d14 p ms σ
noncomputable def l52 (J:Nat→Nat→Nat→St→Option Bool→Option Bool) (m:Nat) (p ms:List Nat) (M:Nat) (σ:St):=loopAt Tryz.prog env (ct m) J (m+1) 74 28 Tryz.f74 d14 p ms M σ
noncomputable def s52_6 (x0:ByteArray) (x1:Int):St:=⟨tsOf [(0,(.dat 9 (.str x0))),(3,(.dat 3 (.int x1)))],[],0⟩
noncomputable def s52_5 (x0:ByteArray) (x1:Int) (x2:Bool):St:=⟨tsOf [(0,(.dat 9 (.str x0))),(3,(.dat 3 (.int x1))),(27,(.dat 4 (.bool x2)))],[],0⟩
noncomputable def s52_7:St:=⟨tsOf [],[],0⟩
noncomputable def s52_1 (x0:ByteArray):St:=⟨tsOf [(0,(.dat 9 (.str x0)))],[],0⟩
noncomputable def s52_0 (x0:ByteArray) (x1:Bool):St:=⟨tsOf [(0,(.dat 9 (.str x0))),(11,(.dat 4 (.bool x1)))],[],0⟩
abbrev H52_3 (m M3:Nat) (rec3:ByteArray→Int→Option Bool):Prop:=∀x0 x1,l52 jn m w52_0 [] M3 (s52_6 x0 x1)=rec3 x0 x1
theorem qS_j6_eq m M3 rec3 (h3:H52_3 m M3 rec3) x0 x1:e52 jn m w52_1 [M3] (s52_6 x0 x1)=qS_j6 m rec3 x0 x1:=
 tq (g:=fun J=>(jj J 1 4 M3 (s52_6 x0 (IntKind.wrap .i64 (x1+1))) (l52 J m w52_0 [] M3))) (by simp only[jj_eq,h3];rfl)
theorem qS_j5_eq m M3 rec3 (h3:H52_3 m M3 rec3) x0 x1 x2:e52 jn m w52_2 [M3] (s52_5 x0 x1 x2)=qS_j5 m rec3 x0 x1 x2:=
 tq (g:=fun J=>(bif x2 then
  some false
   else
  (jj J 0 5 0 (s52_6 x0 x1) (e52 J m w52_1 [M3])))) (by simp only[jj_eq,qS_j6_eq m M3 rec3 h3];rfl)
theorem qS_j4_eq m M3 rec3 (h3:H52_3 m M3 rec3) x0 x1:e52 jn m w52_3 [M3] (s52_6 x0 x1)=qS_j4 m rec3 x0 x1:=
 tq (g:=fun J=>((idxS x0 x1).bind fun v0=>
  (bif (decide (v0<32)) then
  (jj J 0 7 0 (s52_5 x0 x1 true) (e52 J m w52_2 [M3]))
  else
  ((idxS x0 x1).bind fun v1=>
  (jj J 0 7 0 (s52_5 x0 x1 (decide (126<v1))) (e52 J m w52_2 [M3])))))) (by simp only[jj_eq,qS_j5_eq m M3 rec3 h3];rfl)
theorem qS_j7_eq m:e52 jn m [1,1,1] [] s52_7=qS_j7 m:=
 tq (g:=fun J=>some true) (by rfl)
theorem qS_l3_eq m:∀M3 x0 x1,l52 jn m w52_0 [] M3 (s52_6 x0 x1)=qS_l3 m M3 x0 x1
 |0,_,_=>rfl
 | M3+1,x0,x1=>
   tl (g:=fun J=>(bif (decide (x1<(ByteArray.size x0:Int))) then
  (jj J 0 6 0 (s52_6 x0 x1) (e52 J m w52_3 [M3]))
   else
  (jj J 0 8 0 s52_7 (e52 J m [1,1,1] [])))) (by simp only[jj_eq,qS_j4_eq m M3 (qS_l3 m M3) (qS_l3_eq m M3),qS_j7_eq m];rfl)
theorem qS_j2_eq m x0 x1:e52 jn m [1,1,0,1] [] (s52_6 x0 x1)=qS_j2 m x0 x1:=
 tq (g:=fun J=>(jj J 1 4 (Nat.succ m) (s52_6 x0 x1) (l52 J m w52_0 [] (Nat.succ m)))) (by simp only[jj_eq,qS_l3_eq m];rfl)
theorem qS_j1_eq m x0:e52 jn m [1,1] [] (s52_1 x0)=qS_j1 m x0:=
 tq (g:=fun J=>(jj J 0 4 0 (s52_6 x0 0) (e52 J m [1,1,0,1] []))) (by simp only[jj_eq,qS_j2_eq m];rfl)
theorem qS_j0_eq m x0 x1:e52 jn m [1,0,1] [] (s52_0 x0 x1)=qS_j0 m x0 x1:=
 tq (g:=fun J=>(bif x1 then
  some false
   else
  (jj J 0 3 0 (s52_1 x0) (e52 J m [1,1] [])))) (by simp only[jj_eq,qS_j1_eq m];rfl)
theorem qS_eq m a0:e52 jn m [] [] ⟨[(.dat 9 (.str a0))],[],0⟩=qS (m+1) a0:=
 tq (g:=fun J=>(bif (decide ((ByteArray.size a0:Int)<1)) then
  (jj J 0 2 0 (s52_0 a0 true) (e52 J m [1,0,1] []))
   else
  (jj J 0 2 0 (s52_0 a0 (decide (128<(ByteArray.size a0:Int)))) (e52 J m [1,0,1] [])))) (by simp only[jj_eq,qS_j0_eq m];rfl)
def w17_6:List Nat:=[1,1,1,1,1]
def w17_5:List Nat:=[1,1,1,1,1,1]
def w17_7:List Nat:=[1,1,1,1,0,1]
def w17_3:List Nat:=w17_5++[1]
def w17_4:List Nat:=w17_5++[0,1]
def w17_0:List Nat:=w17_4++[0]
def w17_2:List Nat:=w17_0++[0,1]
def w17_1:List Nat:=w17_2++[1]
noncomputable def e17 (J:Nat→Nat→Nat→St→Option Bool→Option Bool) (m:Nat) (p ms:List Nat) (σ:St):=evAt Tryz.prog env (ct m) J (m+1) 27 138 Tryz.f27 d14 p ms σ
noncomputable def l17 (J:Nat→Nat→Nat→St→Option Bool→Option Bool) (m:Nat) (p ms:List Nat) (M:Nat) (σ:St):=loopAt Tryz.prog env (ct m) J (m+1) 27 138 Tryz.f27 d14 p ms M σ
noncomputable def s17_10 (x0:Bool) (x1:Int) (x2:Dt):St:=⟨tsOf [(1,(.dat 4 (.bool x0))),(2,(.ptr 0 [] 0)),(7,(.dat 3 (.int x1)))],[(.box 36 (.dat 36 x2))],0⟩
noncomputable def s17_11 (x0:Bool) (x1:Dt):St:=⟨tsOf [(1,(.dat 4 (.bool x0))),(2,(.ptr 0 [] 0))],[(.box 36 (.dat 36 x1))],0⟩
noncomputable def s17_4 (x0 x1:Bool) (x2:Dt):St:=⟨tsOf [(1,(.dat 4 (.bool x0))),(2,(.ptr 0 [] 0)),(79,(.dat 4 (.bool x1)))],[(.box 36 (.dat 36 x2))],0⟩
noncomputable def s17_3 (x0 x1 x2:Bool) (x3:Dt):St:=⟨tsOf [(1,(.dat 4 (.bool x0))),(2,(.ptr 0 [] 0)),(5,(.dat 4 (.bool x1))),(6,(.dat 4 (.bool x2)))],[(.box 36 (.dat 36 x3))],0⟩
noncomputable def s17_2 (x0 x1:Bool) (x2:Dt):St:=⟨tsOf [(1,(.dat 4 (.bool x0))),(2,(.ptr 0 [] 0)),(5,(.dat 4 (.bool x1)))],[(.box 36 (.dat 36 x2))],0⟩
noncomputable def s17_0 (x0 x1:Bool) (x2:Dt):St:=⟨tsOf [(1,(.dat 4 (.bool x0))),(2,(.ptr 0 [] 0)),(27,(.dat 4 (.bool x1)))],[(.box 36 (.dat 36 x2))],0⟩
abbrev H17_8 (m M8:Nat) (rec8:Bool→Int→Dt→Option Bool):Prop:=∀x0 x1 x2,l17 jn m w17_0 [] M8 (s17_10 x0 x1 x2)=rec8 x0 x1 x2
theorem qD_j10_eq m M8 rec8 (h8:H17_8 m M8 rec8) x0 x1 x2:e17 jn m w17_1 [M8] (s17_10 x0 x1 x2)=qD_j10 m (qD m) (qF m) rec8 x0 x1 x2:=
 tq (g:=fun J=>(jj J 1 19 M8 (s17_10 x0 (IntKind.wrap .i64 (x1+1)) x2) (l17 J m w17_0 [] M8))) (by simp only[jj_eq,h8];rfl)
theorem qD_j9_eq m M8 rec8 (h8:H17_8 m M8 rec8) x0 x1 x2:e17 jn m w17_2 [M8] (s17_10 x0 x1 x2)=qD_j9 m (qD m) (qF m) rec8 x0 x1 x2:=
 tq (g:=fun J=>((idx (Dt.L x2 3) x1).bind fun v1=>
  ((qD m v1 x0).bind fun r2=>
  (bif (Bool.not r2) then
  some false
  else
  (jj J 0 20 0 (s17_10 x0 x1 x2) (e17 J m w17_1 [M8])))))) (by simp only[jj_eq,qD_j10_eq m M8 rec8 h8];rfl)
theorem qD_j11_eq m x0 x1:e17 jn m w17_3 [] (s17_11 x0 x1)=qD_j11 m (qD m) (qF m) x0 x1:=
 tq (g:=fun J=>((qF m x1 x0).bind fun r3=>
  some r3)) (by rfl)
theorem qD_l8_eq m:∀M8 x0 x1 x2,l17 jn m w17_0 [] M8 (s17_10 x0 x1 x2)=qD_l8 m (qD m) (qF m) M8 x0 x1 x2
 |0,_,_,_=>rfl
 | M8+1,x0,x1,x2=>
   tl (g:=fun J=>(bif (decide (x1<(List.length (Dt.L x2 3):Int))) then
  (jj J 0 21 0 (s17_10 x0 x1 x2) (e17 J m w17_2 [M8]))
   else
  (jj J 0 23 0 (s17_11 x0 x2) (e17 J m w17_3 [])))) (by simp only[jj_eq,qD_j9_eq m M8 (qD_l8 m (qD m) (qF m) M8) (qD_l8_eq m M8),qD_j11_eq m];rfl)
theorem qD_j7_eq m x0 x1 x2:e17 jn m w17_4 [] (s17_10 x0 x1 x2)=qD_j7 m (qD m) (qF m) x0 x1 x2:=
 tq (g:=fun J=>(jj J 1 19 (Nat.succ m) (s17_10 x0 x1 x2) (l17 J m w17_0 [] (Nat.succ m)))) (by simp only[jj_eq,qD_l8_eq m];rfl)
theorem qD_j6_eq m x0 x1:e17 jn m w17_5 [] (s17_11 x0 x1)=qD_j6 m (qD m) (qF m) x0 x1:=
 tq (g:=fun J=>(jj J 0 19 0 (s17_10 x0 0 x1) (e17 J m w17_4 []))) (by simp only[jj_eq,qD_j7_eq m];rfl)
theorem qD_j5_eq m x0 x1:e17 jn m w17_6 [] (s17_11 x0 x1)=qD_j5 m (qD m) (qF m) x0 x1:=
 tq (g:=fun J=>(bif ((Dt.I x1 0)==9) then
  (bif ((Dt.I x1 1)==0) then
  some true
  else
  some ((Dt.I x1 1)==1))
   else
  (bif ((Dt.I x1 0)==10) then
  some (decide (0≤(Dt.I x1 1)))
  else
  (bif ((Dt.I x1 0)==4) then
  (bif (decide ((ByteArray.size (Dt.S x1 2):Int)≤4096)) then
  ((qN m (Dt.S x1 2)).bind fun r0=>
  some r0)
  else
  some false)
  else
  (bif ((Dt.I x1 0)==7) then
  some (decide ((ByteArray.size (Dt.S x1 2):Int)≤4096))
  else
  (bif ((Dt.I x1 0)==8) then
  some ((ByteArray.size (Dt.S x1 2):Int)==12)
  else
  (jj J 0 18 0 (s17_11 x0 x1) (e17 J m w17_5 [])))))))) (by simp only[jj_eq,qD_j6_eq m];rfl)
theorem qD_j4_eq m x0 x1 x2:e17 jn m w17_7 [] (s17_4 x0 x1 x2)=qD_j4 m (qD m) (qF m) x0 x1 x2:=
 tq (g:=fun J=>(bif x1 then
  some false
   else
  (jj J 0 7 0 (s17_11 x0 x2) (e17 J m w17_6 [])))) (by simp only[jj_eq,qD_j5_eq m];rfl)
theorem qD_j3_eq m x0 x1 x2 x3:e17 jn m [1,1,1,1] [] (s17_3 x0 x1 x2 x3)=qD_j3 m (qD m) (qF m) x0 x1 x2 x3:=
 tq (g:=fun J=>(bif (Bool.not x1) then
  (bif (Bool.not ((ByteArray.toList (Dt.S x3 2))==[])) then
  (jj J 0 6 0 (s17_4 x0 true x3) (e17 J m w17_7 []))
  else
  (bif (Bool.not x2) then
  (bif ((Dt.I x3 1) !=0) then
  (jj J 0 6 0 (s17_4 x0 true x3) (e17 J m w17_7 []))
  else
  (bif (decide ((Dt.I x3 0)<1)) then
  (jj J 0 6 0 (s17_4 x0 true x3) (e17 J m w17_7 []))
  else
  (jj J 0 6 0 (s17_4 x0 (decide (11<(Dt.I x3 0))) x3) (e17 J m w17_7 []))))
  else
  (bif (decide ((Dt.I x3 0)<1)) then
  (jj J 0 6 0 (s17_4 x0 true x3) (e17 J m w17_7 []))
  else
  (jj J 0 6 0 (s17_4 x0 (decide (11<(Dt.I x3 0))) x3) (e17 J m w17_7 [])))))
   else
  (bif (Bool.not x2) then
  (bif ((Dt.I x3 1) !=0) then
  (jj J 0 6 0 (s17_4 x0 true x3) (e17 J m w17_7 []))
  else
  (bif (decide ((Dt.I x3 0)<1)) then
  (jj J 0 6 0 (s17_4 x0 true x3) (e17 J m w17_7 []))
  else
  (jj J 0 6 0 (s17_4 x0 (decide (11<(Dt.I x3 0))) x3) (e17 J m w17_7 []))))
  else
  (bif (decide ((Dt.I x3 0)<1)) then
  (jj J 0 6 0 (s17_4 x0 true x3) (e17 J m w17_7 []))
  else
  (jj J 0 6 0 (s17_4 x0 (decide (11<(Dt.I x3 0))) x3) (e17 J m w17_7 [])))))) (by simp only[jj_eq,qD_j4_eq m];rfl)
theorem qD_j2_eq m x0 x1 x2:e17 jn m [1,1,1] [] (s17_2 x0 x1 x2)=qD_j2 m (qD m) (qF m) x0 x1 x2:=
 tq (g:=fun J=>(bif ((Dt.I x2 0)==3) then
  (jj J 0 5 0 (s17_3 x0 x1 true x2) (e17 J m [1,1,1,1] []))
   else
  (bif ((Dt.I x2 0)==9) then
  (jj J 0 5 0 (s17_3 x0 x1 true x2) (e17 J m [1,1,1,1] []))
  else
  (jj J 0 5 0 (s17_3 x0 x1 ((Dt.I x2 0)==10) x2) (e17 J m [1,1,1,1] []))))) (by simp only[jj_eq,qD_j3_eq m];rfl)
theorem qD_j1_eq m x0 x1:e17 jn m [1,1] [] (s17_11 x0 x1)=qD_j1 m (qD m) (qF m) x0 x1:=
 tq (g:=fun J=>(bif ((Dt.I x1 0)==4) then
  (jj J 0 4 0 (s17_2 x0 true x1) (e17 J m [1,1,1] []))
   else
  (bif ((Dt.I x1 0)==7) then
  (jj J 0 4 0 (s17_2 x0 true x1) (e17 J m [1,1,1] []))
  else
  (jj J 0 4 0 (s17_2 x0 ((Dt.I x1 0)==8) x1) (e17 J m [1,1,1] []))))) (by simp only[jj_eq,qD_j2_eq m];rfl)
theorem qD_j0_eq m x0 x1 x2:e17 jn m [1,0,1] [] (s17_0 x0 x1 x2)=qD_j0 m (qD m) (qF m) x0 x1 x2:=
 tq (g:=fun J=>(bif x1 then
  some false
   else
  (jj J 0 3 0 (s17_11 x0 x2) (e17 J m [1,1] [])))) (by simp only[jj_eq,qD_j1_eq m];rfl)
theorem qD_eq m a0 a1:e17 jn m [] [] ⟨[(.dat 36 a0),(.dat 4 (.bool a1))],[],0⟩=qD (m+1) a0 a1:=
 tq (g:=fun J=>(bif ((Dt.I a0 0) !=6) then
  (bif (decide (0<(List.length (Dt.L a0 3):Int))) then
  (jj J 0 2 0 (s17_0 a1 true a0) (e17 J m [1,0,1] []))
  else
  (bif ((Dt.I a0 0) !=5) then
  (jj J 0 2 0 (s17_0 a1 (decide (0<(List.length (Dt.L a0 4):Int))) a0) (e17 J m [1,0,1] []))
  else
  (jj J 0 2 0 (s17_0 a1 false a0) (e17 J m [1,0,1] []))))
   else
  (bif ((Dt.I a0 0) !=5) then
  (jj J 0 2 0 (s17_0 a1 (decide (0<(List.length (Dt.L a0 4):Int))) a0) (e17 J m [1,0,1] []))
  else
  (jj J 0 2 0 (s17_0 a1 false a0) (e17 J m [1,0,1] []))))) (by simp only[jj_eq,qD_j0_eq m];rfl)
def w35_7:List Nat:=[1,0,1,0,0,1]
def w35_3:List Nat:=w35_7++[1]
def w35_5:List Nat:=w35_7++[0,0,1,1]
def w35_4:List Nat:=w35_5++[1]
def w35_6:List Nat:=w35_7++[0,0,1,0,1]
def w35_0:List Nat:=w35_4++[0]
def w35_2:List Nat:=w35_0++[0,1]
def w35_1:List Nat:=w35_2++[1]
noncomputable def e35 (J:Nat→Nat→Nat→St→Option Bool→Option Bool) (m:Nat) (p ms:List Nat) (σ:St):=evAt Tryz.prog env (ct m) J (m+1) 45 58 Tryz.f45 d14 p ms σ
noncomputable def l35 (J:Nat→Nat→Nat→St→Option Bool→Option Bool) (m:Nat) (p ms:List Nat) (M:Nat) (σ:St):=loopAt Tryz.prog env (ct m) J (m+1) 45 58 Tryz.f45 d14 p ms M σ
noncomputable def s35_8 (x0:Bool) (x1 x2:Int) (x3 x4:Dt):St:=⟨tsOf [(1,(.dat 4 (.bool x0))),(2,(.ptr 0 [] 0)),(5,(.dat 3 (.int x1))),(6,(.ptr 1 [] 0)),(7,(.dat 3 (.int x2)))],[(.box 36 (.dat 36 x3)),(.box 71 (.dat 71 x4))],0⟩
noncomputable def s35_9 (x0:Bool) (x1:Int) (x2:Dt):St:=⟨tsOf [(1,(.dat 4 (.bool x0))),(2,(.ptr 0 [] 0)),(5,(.dat 3 (.int x1)))],[(.box 36 (.dat 36 x2))],0⟩
noncomputable def s35_4 (x0:Bool) (x1:Int) (x2 x3:Dt):St:=⟨tsOf [(1,(.dat 4 (.bool x0))),(2,(.ptr 0 [] 0)),(5,(.dat 3 (.int x1))),(6,(.ptr 1 [] 0))],[(.box 36 (.dat 36 x2)),(.box 71 (.dat 71 x3))],0⟩
noncomputable def s35_3 (x0:Bool) (x1:Int) (x2:Bool) (x3 x4:Dt):St:=⟨tsOf [(1,(.dat 4 (.bool x0))),(2,(.ptr 0 [] 0)),(5,(.dat 3 (.int x1))),(6,(.ptr 1 [] 0)),(43,(.dat 4 (.bool x2)))],[(.box 36 (.dat 36 x3)),(.box 71 (.dat 71 x4))],0⟩
noncomputable def s35_10:St:=⟨tsOf [],[],0⟩
abbrev H35_1 (m M1:Nat) (rec1:Bool→Int→Dt→Option Bool):Prop:=∀x0 x1 x2,l35 jn m [1,0,1,0] [] M1 (s35_9 x0 x1 x2)=rec1 x0 x1 x2
abbrev H35_6 (m M1 M6:Nat) (rec6:Bool→Int→Int→Dt→Dt→Option Bool):Prop:=∀x0 x1 x2 x3 x4,l35 jn m w35_0 [M1] M6 (s35_8 x0 x1 x2 x3 x4)=rec6 x0 x1 x2 x3 x4
theorem qF_j8_eq m M1 rec1 (h1:H35_1 m M1 rec1) M6 rec6 (h6:H35_6 m M1 M6 rec6) x0 x1 x2 x3 x4:e35 jn m w35_1 [M1,M6] (s35_8 x0 x1 x2 x3 x4)=qF_j8 m (qD m) rec1 rec6 x0 x1 x2 x3 x4:=
 tq (g:=fun J=>(jj J 1 8 M6 (s35_8 x0 x1 (IntKind.wrap .i64 (x2+1)) x3 x4) (l35 J m w35_0 [M1] M6))) (by simp only[jj_eq,h6];rfl)
theorem qF_j7_eq m M1 rec1 (h1:H35_1 m M1 rec1) M6 rec6 (h6:H35_6 m M1 M6 rec6) x0 x1 x2 x3 x4:e35 jn m w35_2 [M1,M6] (s35_8 x0 x1 x2 x3 x4)=qF_j7 m (qD m) rec1 rec6 x0 x1 x2 x3 x4:=
 tq (g:=fun J=>((idx (Dt.L x3 4) x2).bind fun v2=>
  (bif ((ByteArray.toList (Dt.S v2 0))==(ByteArray.toList (Dt.S x4 0))) then
  some false
  else
  (jj J 0 9 0 (s35_8 x0 x1 x2 x3 x4) (e35 J m w35_1 [M1,M6]))))) (by simp only[jj_eq,qF_j8_eq m M1 rec1 h1 M6 rec6 h6];rfl)
theorem qF_j9_eq m M1 rec1 (h1:H35_1 m M1 rec1) x0 x1 x2:e35 jn m w35_3 [M1] (s35_9 x0 x1 x2)=qF_j9 m (qD m) rec1 x0 x1 x2:=
 tq (g:=fun J=>(jj J 1 2 M1 (s35_9 x0 (IntKind.wrap .i64 (x1+1)) x2) (l35 J m [1,0,1,0] [] M1))) (by simp only[jj_eq,h1];rfl)
theorem qF_l6_eq m M1 rec1 (h1:H35_1 m M1 rec1):∀M6 x0 x1 x2 x3 x4,l35 jn m w35_0 [M1] M6 (s35_8 x0 x1 x2 x3 x4)=qF_l6 m (qD m) rec1 M6 x0 x1 x2 x3 x4
 |0,_,_,_,_,_=>rfl
 | M6+1,x0,x1,x2,x3,x4=>
   tl (g:=fun J=>(bif (decide (x2<x1)) then
  (jj J 0 10 0 (s35_8 x0 x1 x2 x3 x4) (e35 J m w35_2 [M1,M6]))
   else
  (jj J 0 3 0 (s35_9 x0 x1 x3) (e35 J m w35_3 [M1])))) (by simp only[jj_eq,qF_j7_eq m M1 rec1 h1 M6 (qF_l6 m (qD m) rec1 M6) (qF_l6_eq m M1 rec1 h1 M6),qF_j9_eq m M1 rec1 h1];rfl)
theorem qF_j5_eq m M1 rec1 (h1:H35_1 m M1 rec1) x0 x1 x2 x3 x4:e35 jn m w35_4 [M1] (s35_8 x0 x1 x2 x3 x4)=qF_j5 m (qD m) rec1 x0 x1 x2 x3 x4:=
 tq (g:=fun J=>(jj J 1 8 (Nat.succ m) (s35_8 x0 x1 x2 x3 x4) (l35 J m w35_0 [M1] (Nat.succ m)))) (by simp only[jj_eq,qF_l6_eq m M1 rec1 h1];rfl)
theorem qF_j4_eq m M1 rec1 (h1:H35_1 m M1 rec1) x0 x1 x2 x3:e35 jn m w35_5 [M1] (s35_4 x0 x1 x2 x3)=qF_j4 m (qD m) rec1 x0 x1 x2 x3:=
 tq (g:=fun J=>(jj J 0 8 0 (s35_8 x0 x1 0 x2 x3) (e35 J m w35_4 [M1]))) (by simp only[jj_eq,qF_j5_eq m M1 rec1 h1];rfl)
theorem qF_j3_eq m M1 rec1 (h1:H35_1 m M1 rec1) x0 x1 x2 x3 x4:e35 jn m w35_6 [M1] (s35_3 x0 x1 x2 x3 x4)=qF_j3 m (qD m) rec1 x0 x1 x2 x3 x4:=
 tq (g:=fun J=>(bif x2 then
  some false
   else
  (jj J 0 7 0 (s35_4 x0 x1 x3 x4) (e35 J m w35_5 [M1])))) (by simp only[jj_eq,qF_j4_eq m M1 rec1 h1];rfl)
theorem qF_j2_eq m M1 rec1 (h1:H35_1 m M1 rec1) x0 x1 x2:e35 jn m w35_7 [M1] (s35_9 x0 x1 x2)=qF_j2 m (qD m) rec1 x0 x1 x2:=
 tq (g:=fun J=>((idx (Dt.L x2 4) x1).bind fun v0=>
  (bif x0 then
  ((qR m (Dt.S v0 0)).bind fun r1=>
  (bif (Bool.not r1) then
  (jj J 0 6 0 (s35_3 x0 x1 true x2 v0) (e35 J m w35_6 [M1]))
  else
  (bif (Bool.not x0) then
  ((qS m (Dt.S v0 0)).bind fun r3=>
  (bif (Bool.not r3) then
  (jj J 0 6 0 (s35_3 x0 x1 true x2 v0) (e35 J m w35_6 [M1]))
  else
  ((qD m (Dt.fld v0 1) x0).bind fun r4=>
  (jj J 0 6 0 (s35_3 x0 x1 (Bool.not r4) x2 v0) (e35 J m w35_6 [M1])))))
  else
  ((qD m (Dt.fld v0 1) x0).bind fun r5=>
  (jj J 0 6 0 (s35_3 x0 x1 (Bool.not r5) x2 v0) (e35 J m w35_6 [M1]))))))
  else
  (bif (Bool.not x0) then
  ((qS m (Dt.S v0 0)).bind fun r6=>
  (bif (Bool.not r6) then
  (jj J 0 6 0 (s35_3 x0 x1 true x2 v0) (e35 J m w35_6 [M1]))
  else
  ((qD m (Dt.fld v0 1) x0).bind fun r7=>
  (jj J 0 6 0 (s35_3 x0 x1 (Bool.not r7) x2 v0) (e35 J m w35_6 [M1])))))
  else
  ((qD m (Dt.fld v0 1) x0).bind fun r8=>
  (jj J 0 6 0 (s35_3 x0 x1 (Bool.not r8) x2 v0) (e35 J m w35_6 [M1]))))))) (by simp only[jj_eq,qF_j3_eq m M1 rec1 h1];rfl)
theorem qF_j10_eq m:e35 jn m [1,1] [] s35_10=qF_j10 m (qD m):=
 tq (g:=fun J=>some true) (by rfl)
theorem qF_l1_eq m:∀M1 x0 x1 x2,l35 jn m [1,0,1,0] [] M1 (s35_9 x0 x1 x2)=qF_l1 m (qD m) M1 x0 x1 x2
 |0,_,_,_=>rfl
 | M1+1,x0,x1,x2=>
   tl (g:=fun J=>(bif (decide (x1<(List.length (Dt.L x2 4):Int))) then
  (jj J 0 4 0 (s35_9 x0 x1 x2) (e35 J m w35_7 [M1]))
   else
  (jj J 0 12 0 s35_10 (e35 J m [1,1] [])))) (by simp only[jj_eq,qF_j2_eq m M1 (qF_l1 m (qD m) M1) (qF_l1_eq m M1),qF_j10_eq m];rfl)
theorem qF_j0_eq m x0 x1 x2:e35 jn m [1,0,1] [] (s35_9 x0 x1 x2)=qF_j0 m (qD m) x0 x1 x2:=
 tq (g:=fun J=>(jj J 1 2 (Nat.succ m) (s35_9 x0 x1 x2) (l35 J m [1,0,1,0] [] (Nat.succ m)))) (by simp only[jj_eq,qF_l1_eq m];rfl)
theorem qF_eq m a0 a1:e35 jn m [] [] ⟨[(.dat 36 a0),(.dat 4 (.bool a1))],[],0⟩=qF (m+1) a0 a1:=
 tq (g:=fun J=>(jj J 0 2 0 (s35_9 a1 0 a0) (e35 J m [1,0,1] []))) (by simp only[jj_eq,qF_j0_eq m];rfl)
noncomputable def e7 (J:Nat→Nat→Nat→St→Option Bool→Option Bool) (m:Nat) (p ms:List Nat) (σ:St):=evAt Tryz.prog env (ct m) J (m+1) 13 15 Tryz.f13 d14 p ms σ
theorem zW_eq m a0:e7 jn m [] [] ⟨[(.dat 36 a0)],[],0⟩=zW (m+1) a0:=
 tq (g:=fun J=>((zQ m a0).bind fun r0=>
  (bif (decide (r0≤16)) then
  ((zT m a0).bind fun r1=>
  (bif (decide (r1≤1024)) then
  ((qD m a0 true).bind fun r2=>
  some r2)
  else
  some false))
  else
  some false))) (by rfl)
def w1_0:List Nat:=[1,1,0,1,0]
def w1_3:List Nat:=[1,1,0,1,0,0,1]
def w1_1:List Nat:=w1_3++[1]
def w1_2:List Nat:=w1_3++[0,0,1]
noncomputable def e1 (J:Nat→Nat→Nat→St→Option Bool→Option Bool) (m:Nat) (p ms:List Nat) (σ:St):=evAt Tryz.prog env (ct m) J (m+1) 5 27 Tryz.f5 d14 p ms σ
noncomputable def l1 (J:Nat→Nat→Nat→St→Option Bool→Option Bool) (m:Nat) (p ms:List Nat) (M:Nat) (σ:St):=loopAt Tryz.prog env (ct m) J (m+1) 5 27 Tryz.f5 d14 p ms M σ
noncomputable def s1_5 (x0:List Dt) (x1:Int):St:=⟨tsOf [(0,(.dat 23 (.lst x0))),(3,(.dat 3 (.int x1)))],[],0⟩
noncomputable def s1_4 (x0:List Dt) (x1:Int) (x2:Bool):St:=⟨tsOf [(0,(.dat 23 (.lst x0))),(3,(.dat 3 (.int x1))),(26,(.dat 4 (.bool x2)))],[],0⟩
noncomputable def s1_6:St:=⟨tsOf [],[],0⟩
noncomputable def s1_0 (x0:List Dt):St:=⟨tsOf [(0,(.dat 23 (.lst x0)))],[],0⟩
abbrev H1_2 (m M2:Nat) (rec2:List Dt→Int→Option Bool):Prop:=∀x0 x1,l1 jn m w1_0 [] M2 (s1_5 x0 x1)=rec2 x0 x1
theorem zD_j5_eq m M2 rec2 (h2:H1_2 m M2 rec2) x0 x1:e1 jn m w1_1 [M2] (s1_5 x0 x1)=zD_j5 m rec2 x0 x1:=
 tq (g:=fun J=>(jj J 1 4 M2 (s1_5 x0 (IntKind.wrap .i64 (x1+1))) (l1 J m w1_0 [] M2))) (by simp only[jj_eq,h2];rfl)
theorem zD_j4_eq m M2 rec2 (h2:H1_2 m M2 rec2) x0 x1 x2:e1 jn m w1_2 [M2] (s1_4 x0 x1 x2)=zD_j4 m rec2 x0 x1 x2:=
 tq (g:=fun J=>(bif x2 then
  some false
   else
  (jj J 0 5 0 (s1_5 x0 x1) (e1 J m w1_1 [M2])))) (by simp only[jj_eq,zD_j5_eq m M2 rec2 h2];rfl)
theorem zD_j3_eq m M2 rec2 (h2:H1_2 m M2 rec2) x0 x1:e1 jn m w1_3 [M2] (s1_5 x0 x1)=zD_j3 m rec2 x0 x1:=
 tq (g:=fun J=>((idx x0 x1).bind fun v0=>
  (bif ((Dt.I v0 0) !=5) then
  (jj J 0 7 0 (s1_4 x0 x1 true) (e1 J m w1_2 [M2]))
  else
  ((idx x0 x1).bind fun v1=>
  ((zW m v1).bind fun r2=>
  (jj J 0 7 0 (s1_4 x0 x1 (Bool.not r2)) (e1 J m w1_2 [M2]))))))) (by simp only[jj_eq,zD_j4_eq m M2 rec2 h2];rfl)
theorem zD_j6_eq m:e1 jn m [1,1,1] [] s1_6=zD_j6 m:=
 tq (g:=fun J=>some true) (by rfl)
theorem zD_l2_eq m:∀M2 x0 x1,l1 jn m w1_0 [] M2 (s1_5 x0 x1)=zD_l2 m M2 x0 x1
 |0,_,_=>rfl
 | M2+1,x0,x1=>
   tl (g:=fun J=>(bif (decide (x1<(List.length x0:Int))) then
  (jj J 0 6 0 (s1_5 x0 x1) (e1 J m w1_3 [M2]))
   else
  (jj J 0 8 0 s1_6 (e1 J m [1,1,1] [])))) (by simp only[jj_eq,zD_j3_eq m M2 (zD_l2 m M2) (zD_l2_eq m M2),zD_j6_eq m];rfl)
theorem zD_j1_eq m x0 x1:e1 jn m [1,1,0,1] [] (s1_5 x0 x1)=zD_j1 m x0 x1:=
 tq (g:=fun J=>(jj J 1 4 (Nat.succ m) (s1_5 x0 x1) (l1 J m w1_0 [] (Nat.succ m)))) (by simp only[jj_eq,zD_l2_eq m];rfl)
theorem zD_j0_eq m x0:e1 jn m [1,1] [] (s1_0 x0)=zD_j0 m x0:=
 tq (g:=fun J=>(jj J 0 4 0 (s1_5 x0 0) (e1 J m [1,1,0,1] []))) (by simp only[jj_eq,zD_j1_eq m];rfl)
theorem zD_eq m a0:e1 jn m [] [] ⟨[(.dat 23 (.lst a0))],[],0⟩=zD (m+1) a0:=
 tq (g:=fun J=>(bif (decide (60<(List.length a0:Int))) then
  some false
   else
  (jj J 0 3 0 (s1_0 a0) (e1 J m [1,1] [])))) (by simp only[jj_eq,zD_j0_eq m];rfl)
noncomputable def e59 (J:Nat→Nat→Nat→St→Option Int→Option Int) (m:Nat) (p ms:List Nat) (σ:St):=evAt Tryz.prog env (ct m) J (m+1) 94 14 Tryz.f94 d32 p ms σ
noncomputable def s59_0 (x0:Dt) (x1 x2:Int):St:=⟨tsOf [(2,(.ptr 0 [] 0)),(3,(.ptr 1 [] 0)),(5,(.ptr 2 [] 0))],[(.box 36 (.dat 36 x0)),(.box 3 (.dat 3 (.int x1))),(.box 3 (.dat 3 (.int x2)))],0⟩
theorem zL_j0_eq m x0 x1 x2:e59 jn m [1,1,1] [] (s59_0 x0 x1 x2)=zL_j0 m (i67 m) x0 x1 x2:=
 tq (g:=fun J=>((i67 m x0 x2 x1).bind fun r0=>
  some r0.1)) (by rfl)
theorem zL_eq m a0 a1:e59 jn m [] [] ⟨[(.dat 36 a0),(.dat 3 (.int a1))],[],0⟩=zL (m+1) a0 a1:=
 tq (g:=fun J=>(bif (1==a1) then
  some 1
   else
  (jj J 0 4 0 (s59_0 a0 a1 1) (e59 J m [1,1,1] [])))) (by simp only[jj_eq,zL_j0_eq m];rfl)
def w67_3:List Nat:=[1,1,0,1,0,1]
def w67_0:List Nat:=w67_3++[0]
def w67_7:List Nat:=[1,1,0,1,1,1,0,1]
def w67_4:List Nat:=w67_7++[0]
def w67_2:List Nat:=w67_0++[0,1,1]
def w67_1:List Nat:=w67_2++[1]
def w67_6:List Nat:=w67_4++[0,1,1]
def w67_5:List Nat:=w67_6++[1]
noncomputable def e67 (J:Nat→Nat→Nat→St→Option (Int×Int)→Option (Int×Int)) (m:Nat) (p ms:List Nat) (σ:St):=evAt Tryz.prog env (ct m) J (m+1) 110 39 Tryz.f110 d67 p ms σ
noncomputable def l67 (J:Nat→Nat→Nat→St→Option (Int×Int)→Option (Int×Int)) (m:Nat) (p ms:List Nat) (M:Nat) (σ:St):=loopAt Tryz.prog env (ct m) J (m+1) 110 39 Tryz.f110 d67 p ms M σ
noncomputable def s67_3 (x0:List Dt) (x1 x2 x3 x4:Int):St:=⟨tsOf [(1,(.fn 111 [(.ptr 0 [] 0),(.ptr 1 [] 0)])),(13,(.dat 23 (.lst x0))),(14,(.dat 3 (.int x1))),(15,(.dat 3 (.int x2)))],[(.box 3 (.dat 3 (.int x3))),(.box 3 (.dat 3 (.int x4)))],2⟩
noncomputable def s67_7 (x0:List Dt) (x1 x2 x3 x4:Int):St:=⟨tsOf [(1,(.fn 111 [(.ptr 0 [] 0),(.ptr 1 [] 0)])),(27,(.dat 34 (.lst x0))),(28,(.dat 3 (.int x1))),(29,(.dat 3 (.int x2)))],[(.box 3 (.dat 3 (.int x3))),(.box 3 (.dat 3 (.int x4)))],2⟩
abbrev H67_1 (m M1:Nat) (rec1:List Dt→Int→Int→Int→Int→Option (Int×Int)):Prop:=∀x0 x1 x2 x3 x4,l67 jn m w67_0 [] M1 (s67_3 x0 x1 x2 x3 x4)=rec1 x0 x1 x2 x3 x4
theorem i67_j3_eq m M1 rec1 (h1:H67_1 m M1 rec1) x0 x1 x2 x3 x4:e67 jn m w67_1 [M1] (s67_3 x0 x1 x2 x3 x4)=i67_j3 m (i68 m) rec1 x0 x1 x2 x3 x4:=
 tq (g:=fun J=>(jj J 1 4 M1 (s67_3 x0 x1 (IntKind.wrap .i64 (x2+1)) x3 x4) (l67 J m w67_0 [] M1))) (by simp only[jj_eq,h1];rfl)
theorem i67_j2_eq m M1 rec1 (h1:H67_1 m M1 rec1) x0 x1 x2 x3 x4:e67 jn m w67_2 [M1] (s67_3 x0 x1 x2 x3 x4)=i67_j2 m (i68 m) rec1 x0 x1 x2 x3 x4:=
 tq (g:=fun J=>((idx x0 x2).bind fun v0=>
  ((i68 m v0 x3 x4).bind fun r1=>
  (bif (Bool.not r1.1) then
  some (r1.2.1,r1.2.2)
  else
  (jj J 0 7 0 (s67_3 x0 x1 x2 r1.2.1 r1.2.2) (e67 J m w67_1 [M1])))))) (by simp only[jj_eq,i67_j3_eq m M1 rec1 h1];rfl)
theorem i67_l1_eq m:∀M1 x0 x1 x2 x3 x4,l67 jn m w67_0 [] M1 (s67_3 x0 x1 x2 x3 x4)=i67_l1 m (i68 m) M1 x0 x1 x2 x3 x4
 |0,_,_,_,_,_=>rfl
 | M1+1,x0,x1,x2,x3,x4=>
   tl (g:=fun J=>(bif (decide (x2<x1)) then
  (jj J 0 5 0 (s67_3 x0 x1 x2 x3 x4) (e67 J m w67_2 [M1]))
   else
  some (x3,x4))) (by simp only[jj_eq,i67_j2_eq m M1 (i67_l1 m (i68 m) M1) (i67_l1_eq m M1)];rfl)
theorem i67_j0_eq m x0 x1 x2 x3 x4:e67 jn m w67_3 [] (s67_3 x0 x1 x2 x3 x4)=i67_j0 m (i68 m) x0 x1 x2 x3 x4:=
 tq (g:=fun J=>(jj J 1 4 (Nat.succ m) (s67_3 x0 x1 x2 x3 x4) (l67 J m w67_0 [] (Nat.succ m)))) (by simp only[jj_eq,i67_l1_eq m];rfl)
abbrev H67_5 (m M5:Nat) (rec5:List Dt→Int→Int→Int→Int→Option (Int×Int)):Prop:=∀x0 x1 x2 x3 x4,l67 jn m w67_4 [] M5 (s67_7 x0 x1 x2 x3 x4)=rec5 x0 x1 x2 x3 x4
theorem i67_j7_eq m M5 rec5 (h5:H67_5 m M5 rec5) x0 x1 x2 x3 x4:e67 jn m w67_5 [M5] (s67_7 x0 x1 x2 x3 x4)=i67_j7 m (i68 m) rec5 x0 x1 x2 x3 x4:=
 tq (g:=fun J=>(jj J 1 10 M5 (s67_7 x0 x1 (IntKind.wrap .i64 (x2+1)) x3 x4) (l67 J m w67_4 [] M5))) (by simp only[jj_eq,h5];rfl)
theorem i67_j6_eq m M5 rec5 (h5:H67_5 m M5 rec5) x0 x1 x2 x3 x4:e67 jn m w67_6 [M5] (s67_7 x0 x1 x2 x3 x4)=i67_j6 m (i68 m) rec5 x0 x1 x2 x3 x4:=
 tq (g:=fun J=>((idx x0 x2).bind fun v2=>
  ((i68 m (Dt.fld v2 1) x3 x4).bind fun r3=>
  (bif (Bool.not r3.1) then
  some (r3.2.1,r3.2.2)
  else
  (jj J 0 13 0 (s67_7 x0 x1 x2 r3.2.1 r3.2.2) (e67 J m w67_5 [M5])))))) (by simp only[jj_eq,i67_j7_eq m M5 rec5 h5];rfl)
theorem i67_l5_eq m:∀M5 x0 x1 x2 x3 x4,l67 jn m w67_4 [] M5 (s67_7 x0 x1 x2 x3 x4)=i67_l5 m (i68 m) M5 x0 x1 x2 x3 x4
 |0,_,_,_,_,_=>rfl
 | M5+1,x0,x1,x2,x3,x4=>
   tl (g:=fun J=>(bif (decide (x2<x1)) then
  (jj J 0 11 0 (s67_7 x0 x1 x2 x3 x4) (e67 J m w67_6 [M5]))
   else
  some (x3,x4))) (by simp only[jj_eq,i67_j6_eq m M5 (i67_l5 m (i68 m) M5) (i67_l5_eq m M5)];rfl)
theorem i67_j4_eq m x0 x1 x2 x3 x4:e67 jn m w67_7 [] (s67_7 x0 x1 x2 x3 x4)=i67_j4 m (i68 m) x0 x1 x2 x3 x4:=
 tq (g:=fun J=>(jj J 1 10 (Nat.succ m) (s67_7 x0 x1 x2 x3 x4) (l67 J m w67_4 [] (Nat.succ m)))) (by simp only[jj_eq,i67_l5_eq m];rfl)
theorem i67_eq m a0 a1 a2:e67 jn m [] [] ⟨[(.dat 36 a0),(.fn 111 [(.ptr 0 [] 0),(.ptr 1 [] 0)])],[(.box 3 (.dat 3 (.int a1))),(.box 3 (.dat 3 (.int a2)))],2⟩=i67 (m+1) a0 a1 a2:=
 tq (g:=fun J=>(bif ((Dt.I a0 0)==6) then
  (jj J 0 4 0 (s67_3 (Dt.L a0 3) (List.length (Dt.L a0 3):Int) 0 a1 a2) (e67 J m w67_3 []))
   else
  (bif ((Dt.I a0 0)==5) then
  (jj J 0 10 0 (s67_7 (Dt.L a0 4) (List.length (Dt.L a0 4):Int) 0 a1 a2) (e67 J m w67_7 []))
  else
  some (a1,a2)))) (by simp only[jj_eq,i67_j0_eq m,i67_j4_eq m];rfl)
noncomputable def e68 (J:Nat→Nat→Nat→St→Option (Bool×Int×Int)→Option (Bool×Int×Int)) (m:Nat) (p ms:List Nat) (σ:St):=evAt Tryz.prog env (ct m) J (m+1) 111 15 Tryz.f111 d68 p ms σ
theorem i68_eq m a0 a1 a2:e68 jn m [] [] ⟨[(.dat 36 a0),(.ptr 0 [] 0),(.ptr 1 [] 0)],[(.box 3 (.dat 3 (.int a1))),(.box 3 (.dat 3 (.int a2)))],2⟩=i68 (m+1) a0 a1 a2:=
 tq (g:=fun J=>((zL m a0 (IntKind.wrap .i64 (a2-a1))).bind fun r0=>
  some ((decide ((IntKind.wrap .i64 (a1+r0))<a2)),(IntKind.wrap .i64 (a1+r0)),a2))) (by rfl)
noncomputable def e53 (J:Nat→Nat→Nat→St→Option Int→Option Int) (m:Nat) (p ms:List Nat) (σ:St):=evAt Tryz.prog env (ct m) J (m+1) 75 5 Tryz.f75 d32 p ms σ
theorem zR_eq m a0:e53 jn m [] [] ⟨[(.dat 36 a0)],[],0⟩=zR (m+1) a0:=
 tq (g:=fun J=>((zL m a0 1025).bind fun r0=>
  some r0)) (by rfl)
noncomputable def e60 (J:Nat→Nat→Nat→St→Option Int→Option Int) (m:Nat) (p ms:List Nat) (σ:St):=evAt Tryz.prog env (ct m) J (m+1) 95 13 Tryz.f95 d32 p ms σ
noncomputable def s60_0 (x0:Dt) (x1:Int):St:=⟨tsOf [(2,(.ptr 0 [] 0)),(3,(.ptr 1 [] 0))],[(.box 36 (.dat 36 x0)),(.box 3 (.dat 3 (.int x1)))],0⟩
theorem zK_j0_eq m x0 x1:e60 jn m [1,1] [] (s60_0 x0 x1)=zK_j0 m (i69 m) x0 x1:=
 tq (g:=fun J=>((i69 m x0 0 x1).bind fun r0=>
  some (IntKind.wrap .i64 (1+r0.1)))) (by rfl)
theorem zK_eq m a0 a1:e60 jn m [] [] ⟨[(.dat 36 a0),(.dat 3 (.int a1))],[],0⟩=zK (m+1) a0 a1:=
 tq (g:=fun J=>(bif (a1==1) then
  some 1
   else
  (jj J 0 3 0 (s60_0 a0 a1) (e60 J m [1,1] [])))) (by simp only[jj_eq,zK_j0_eq m];rfl)
def w69_3:List Nat:=[1,1,0,1,0,1]
def w69_0:List Nat:=w69_3++[0]
def w69_7:List Nat:=[1,1,0,1,1,1,0,1]
def w69_4:List Nat:=w69_7++[0]
def w69_2:List Nat:=w69_0++[0,1,1]
def w69_1:List Nat:=w69_2++[1]
def w69_6:List Nat:=w69_4++[0,1,1]
def w69_5:List Nat:=w69_6++[1]
noncomputable def e69 (J:Nat→Nat→Nat→St→Option (Int×Int)→Option (Int×Int)) (m:Nat) (p ms:List Nat) (σ:St):=evAt Tryz.prog env (ct m) J (m+1) 110 39 Tryz.f110 d67 p ms σ
noncomputable def l69 (J:Nat→Nat→Nat→St→Option (Int×Int)→Option (Int×Int)) (m:Nat) (p ms:List Nat) (M:Nat) (σ:St):=loopAt Tryz.prog env (ct m) J (m+1) 110 39 Tryz.f110 d67 p ms M σ
noncomputable def s69_3 (x0:List Dt) (x1 x2 x3 x4:Int):St:=⟨tsOf [(1,(.fn 112 [(.ptr 0 [] 0),(.ptr 1 [] 0)])),(13,(.dat 23 (.lst x0))),(14,(.dat 3 (.int x1))),(15,(.dat 3 (.int x2)))],[(.box 3 (.dat 3 (.int x3))),(.box 3 (.dat 3 (.int x4)))],2⟩
noncomputable def s69_7 (x0:List Dt) (x1 x2 x3 x4:Int):St:=⟨tsOf [(1,(.fn 112 [(.ptr 0 [] 0),(.ptr 1 [] 0)])),(27,(.dat 34 (.lst x0))),(28,(.dat 3 (.int x1))),(29,(.dat 3 (.int x2)))],[(.box 3 (.dat 3 (.int x3))),(.box 3 (.dat 3 (.int x4)))],2⟩
abbrev H69_1 (m M1:Nat) (rec1:List Dt→Int→Int→Int→Int→Option (Int×Int)):Prop:=∀x0 x1 x2 x3 x4,l69 jn m w69_0 [] M1 (s69_3 x0 x1 x2 x3 x4)=rec1 x0 x1 x2 x3 x4
theorem i69_j3_eq m M1 rec1 (h1:H69_1 m M1 rec1) x0 x1 x2 x3 x4:e69 jn m w69_1 [M1] (s69_3 x0 x1 x2 x3 x4)=i69_j3 m (i70 m) rec1 x0 x1 x2 x3 x4:=
 tq (g:=fun J=>(jj J 1 4 M1 (s69_3 x0 x1 (IntKind.wrap .i64 (x2+1)) x3 x4) (l69 J m w69_0 [] M1))) (by simp only[jj_eq,h1];rfl)
theorem i69_j2_eq m M1 rec1 (h1:H69_1 m M1 rec1) x0 x1 x2 x3 x4:e69 jn m w69_2 [M1] (s69_3 x0 x1 x2 x3 x4)=i69_j2 m (i70 m) rec1 x0 x1 x2 x3 x4:=
 tq (g:=fun J=>((idx x0 x2).bind fun v0=>
  ((i70 m v0 x3 x4).bind fun r1=>
  (bif (Bool.not r1.1) then
  some (r1.2.1,r1.2.2)
  else
  (jj J 0 7 0 (s69_3 x0 x1 x2 r1.2.1 r1.2.2) (e69 J m w69_1 [M1])))))) (by simp only[jj_eq,i69_j3_eq m M1 rec1 h1];rfl)
theorem i69_l1_eq m:∀M1 x0 x1 x2 x3 x4,l69 jn m w69_0 [] M1 (s69_3 x0 x1 x2 x3 x4)=i69_l1 m (i70 m) M1 x0 x1 x2 x3 x4
 |0,_,_,_,_,_=>rfl
 | M1+1,x0,x1,x2,x3,x4=>
   tl (g:=fun J=>(bif (decide (x2<x1)) then
  (jj J 0 5 0 (s69_3 x0 x1 x2 x3 x4) (e69 J m w69_2 [M1]))
   else
  some (x3,x4))) (by simp only[jj_eq,i69_j2_eq m M1 (i69_l1 m (i70 m) M1) (i69_l1_eq m M1)];rfl)
theorem i69_j0_eq m x0 x1 x2 x3 x4:e69 jn m w69_3 [] (s69_3 x0 x1 x2 x3 x4)=i69_j0 m (i70 m) x0 x1 x2 x3 x4:=
 tq (g:=fun J=>(jj J 1 4 (Nat.succ m) (s69_3 x0 x1 x2 x3 x4) (l69 J m w69_0 [] (Nat.succ m)))) (by simp only[jj_eq,i69_l1_eq m];rfl)
abbrev H69_5 (m M5:Nat) (rec5:List Dt→Int→Int→Int→Int→Option (Int×Int)):Prop:=∀x0 x1 x2 x3 x4,l69 jn m w69_4 [] M5 (s69_7 x0 x1 x2 x3 x4)=rec5 x0 x1 x2 x3 x4
theorem i69_j7_eq m M5 rec5 (h5:H69_5 m M5 rec5) x0 x1 x2 x3 x4:e69 jn m w69_5 [M5] (s69_7 x0 x1 x2 x3 x4)=i69_j7 m (i70 m) rec5 x0 x1 x2 x3 x4:=
 tq (g:=fun J=>(jj J 1 10 M5 (s69_7 x0 x1 (IntKind.wrap .i64 (x2+1)) x3 x4) (l69 J m w69_4 [] M5))) (by simp only[jj_eq,h5];rfl)
theorem i69_j6_eq m M5 rec5 (h5:H69_5 m M5 rec5) x0 x1 x2 x3 x4:e69 jn m w69_6 [M5] (s69_7 x0 x1 x2 x3 x4)=i69_j6 m (i70 m) rec5 x0 x1 x2 x3 x4:=
 tq (g:=fun J=>((idx x0 x2).bind fun v2=>
  ((i70 m (Dt.fld v2 1) x3 x4).bind fun r3=>
  (bif (Bool.not r3.1) then
  some (r3.2.1,r3.2.2)
  else
  (jj J 0 13 0 (s69_7 x0 x1 x2 r3.2.1 r3.2.2) (e69 J m w69_5 [M5])))))) (by simp only[jj_eq,i69_j7_eq m M5 rec5 h5];rfl)
theorem i69_l5_eq m:∀M5 x0 x1 x2 x3 x4,l69 jn m w69_4 [] M5 (s69_7 x0 x1 x2 x3 x4)=i69_l5 m (i70 m) M5 x0 x1 x2 x3 x4
 |0,_,_,_,_,_=>rfl
 | M5+1,x0,x1,x2,x3,x4=>
   tl (g:=fun J=>(bif (decide (x2<x1)) then
  (jj J 0 11 0 (s69_7 x0 x1 x2 x3 x4) (e69 J m w69_6 [M5]))
   else
  some (x3,x4))) (by simp only[jj_eq,i69_j6_eq m M5 (i69_l5 m (i70 m) M5) (i69_l5_eq m M5)];rfl)
theorem i69_j4_eq m x0 x1 x2 x3 x4:e69 jn m w69_7 [] (s69_7 x0 x1 x2 x3 x4)=i69_j4 m (i70 m) x0 x1 x2 x3 x4:=
 tq (g:=fun J=>(jj J 1 10 (Nat.succ m) (s69_7 x0 x1 x2 x3 x4) (l69 J m w69_4 [] (Nat.succ m)))) (by simp only[jj_eq,i69_l5_eq m];rfl)
theorem i69_eq m a0 a1 a2:e69 jn m [] [] ⟨[(.dat 36 a0),(.fn 112 [(.ptr 0 [] 0),(.ptr 1 [] 0)])],[(.box 3 (.dat 3 (.int a1))),(.box 3 (.dat 3 (.int a2)))],2⟩=i69 (m+1) a0 a1 a2:=
 tq (g:=fun J=>(bif ((Dt.I a0 0)==6) then
  (jj J 0 4 0 (s69_3 (Dt.L a0 3) (List.length (Dt.L a0 3):Int) 0 a1 a2) (e69 J m w69_3 []))
   else
  (bif ((Dt.I a0 0)==5) then
  (jj J 0 10 0 (s69_7 (Dt.L a0 4) (List.length (Dt.L a0 4):Int) 0 a1 a2) (e69 J m w69_7 []))
  else
  some (a1,a2)))) (by simp only[jj_eq,i69_j0_eq m,i69_j4_eq m];rfl)
noncomputable def e70 (J:Nat→Nat→Nat→St→Option (Bool×Int×Int)→Option (Bool×Int×Int)) (m:Nat) (p ms:List Nat) (σ:St):=evAt Tryz.prog env (ct m) J (m+1) 112 15 Tryz.f112 d68 p ms σ
theorem i70_eq m a0 a1 a2:e70 jn m [] [] ⟨[(.dat 36 a0),(.ptr 0 [] 0),(.ptr 1 [] 0)],[(.box 3 (.dat 3 (.int a1))),(.box 3 (.dat 3 (.int a2)))],2⟩=i70 (m+1) a0 a1 a2:=
 tq (g:=fun J=>((zK m a0 (IntKind.wrap .i64 (a2-1))).bind fun r0=>
  some ((decide ((bif (decide (a1<r0)) then r0 else a1)<(IntKind.wrap .i64 (a2-1)))),(bif (decide (a1<r0)) then r0 else a1),a2))) (by rfl)
noncomputable def e54 (J:Nat→Nat→Nat→St→Option Int→Option Int) (m:Nat) (p ms:List Nat) (σ:St):=evAt Tryz.prog env (ct m) J (m+1) 76 5 Tryz.f76 d32 p ms σ
theorem zS_eq m a0:e54 jn m [] [] ⟨[(.dat 36 a0)],[],0⟩=zS (m+1) a0:=
 tq (g:=fun J=>((zK m a0 17).bind fun r0=>
  some r0)) (by rfl)
noncomputable def e63 (J:Nat→Nat→Nat→St→Option Int→Option Int) (m:Nat) (p ms:List Nat) (σ:St):=evAt Tryz.prog env (ct m) J (m+1) 98 10 Tryz.f98 d63 p ms σ
theorem zP_eq m a0:e63 jn m [] [] ⟨[(.dat 3 (.int a0))],[],0⟩=zP (m+1) a0:=
 tq (g:=fun J=>some (xorI IntKind.u64 (shlI IntKind.u64 (IntKind.wrap IntKind.u64 a0) 1) (IntKind.wrap IntKind.u64 (shrI IntKind.i64 a0 63)))) (by rfl)
def w56_0:List Nat:=[1,1,0,1,0]
def w56_2:List Nat:=[1,1,0,1,0,0,1]
def w56_1:List Nat:=w56_2++[1]
noncomputable def e56 (J:Nat→Nat→Nat→St→Option Int→Option Int) (m:Nat) (p ms:List Nat) (σ:St):=evAt Tryz.prog env (ct m) J (m+1) 78 14 Tryz.f78 d32 p ms σ
noncomputable def l56 (J:Nat→Nat→Nat→St→Option Int→Option Int) (m:Nat) (p ms:List Nat) (M:Nat) (σ:St):=loopAt Tryz.prog env (ct m) J (m+1) 78 14 Tryz.f78 d32 p ms M σ
noncomputable def s56_3 (x0 x1:Int):St:=⟨tsOf [(3,(.dat 3 (.int x0))),(4,(.dat 144 (.int x1)))],[],0⟩
noncomputable def s56_4 (x0:Int):St:=⟨tsOf [(3,(.dat 3 (.int x0)))],[],0⟩
abbrev H56_1 (m M1:Nat) (rec1:Int→Int→Option Int):Prop:=∀x0 x1,l56 jn m w56_0 [] M1 (s56_3 x0 x1)=rec1 x0 x1
theorem qU_j3_eq m M1 rec1 (h1:H56_1 m M1 rec1) x0 x1:e56 jn m w56_1 [M1] (s56_3 x0 x1)=qU_j3 m rec1 x0 x1:=
 tq (g:=fun J=>(jj J 1 3 M1 (s56_3 x0 (shrI IntKind.u64 x1 7)) (l56 J m w56_0 [] M1))) (by simp only[jj_eq,h1];rfl)
theorem qU_j2_eq m M1 rec1 (h1:H56_1 m M1 rec1) x0 x1:e56 jn m w56_2 [M1] (s56_3 x0 x1)=qU_j2 m rec1 x0 x1:=
 tq (g:=fun J=>(jj J 0 4 0 (s56_3 (IntKind.wrap .i64 (x0+1)) x1) (e56 J m w56_1 [M1]))) (by simp only[jj_eq,qU_j3_eq m M1 rec1 h1];rfl)
theorem qU_j4_eq m x0:e56 jn m [1,1,1] [] (s56_4 x0)=qU_j4 m x0:=
 tq (g:=fun J=>some x0) (by rfl)
theorem qU_l1_eq m:∀M1 x0 x1,l56 jn m w56_0 [] M1 (s56_3 x0 x1)=qU_l1 m M1 x0 x1
 |0,_,_=>rfl
 | M1+1,x0,x1=>
   tl (g:=fun J=>(bif (decide (128≤x1)) then
  (jj J 0 5 0 (s56_3 x0 x1) (e56 J m w56_2 [M1]))
   else
  (jj J 0 6 0 (s56_4 x0) (e56 J m [1,1,1] [])))) (by simp only[jj_eq,qU_j2_eq m M1 (qU_l1 m M1) (qU_l1_eq m M1),qU_j4_eq m];rfl)
theorem qU_j0_eq m x0 x1:e56 jn m [1,1,0,1] [] (s56_3 x0 x1)=qU_j0 m x0 x1:=
 tq (g:=fun J=>(jj J 1 3 (Nat.succ m) (s56_3 x0 x1) (l56 J m w56_0 [] (Nat.succ m)))) (by simp only[jj_eq,qU_l1_eq m];rfl)
theorem qU_eq m a0:e56 jn m [] [] ⟨[(.dat 3 (.int a0))],[],0⟩=qU (m+1) a0:=
 tq (g:=fun J=>((zP m a0).bind fun r0=>
  (jj J 0 3 0 (s56_3 1 r0) (e56 J m [1,1,0,1] [])))) (by simp only[jj_eq,qU_j0_eq m];rfl)
def w37_9:List Nat:=[1,1,0,1,0,1]
def w37_8:List Nat:=w37_9++[1,1,1,1]
def w37_3:List Nat:=w37_8++[1,1,1,1,0,1,1]
def w37_0:List Nat:=w37_3++[0]
def w37_7:List Nat:=w37_8++[1,1,1,1,1,1,0,1,1]
def w37_4:List Nat:=w37_7++[0]
def w37_2:List Nat:=w37_0++[0,1,1]
def w37_1:List Nat:=w37_2++[1]
def w37_6:List Nat:=w37_4++[0,1,1]
def w37_5:List Nat:=w37_6++[1]
noncomputable def e37 (J:Nat→Nat→Nat→St→Option Int→Option Int) (m:Nat) (p ms:List Nat) (σ:St):=evAt Tryz.prog env (ct m) J (m+1) 47 93 Tryz.f47 d32 p ms σ
noncomputable def l37 (J:Nat→Nat→Nat→St→Option Int→Option Int) (m:Nat) (p ms:List Nat) (M:Nat) (σ:St):=loopAt Tryz.prog env (ct m) J (m+1) 47 93 Tryz.f47 d32 p ms M σ
noncomputable def s37_1 (x0:Int):St:=⟨tsOf [(3,(.dat 3 (.int x0)))],[],0⟩
noncomputable def s37_6 (x0:Int) (x1:List Dt) (x2 x3:Int):St:=⟨tsOf [(3,(.dat 3 (.int x0))),(51,(.dat 23 (.lst x1))),(52,(.dat 3 (.int x2))),(53,(.dat 3 (.int x3)))],[],0⟩
noncomputable def s37_10 (x0:Int) (x1:List Dt) (x2 x3:Int):St:=⟨tsOf [(3,(.dat 3 (.int x0))),(71,(.dat 34 (.lst x1))),(72,(.dat 3 (.int x2))),(73,(.dat 3 (.int x3)))],[],0⟩
noncomputable def s37_2 (x0 x1:Int) (x2:Bool) (x3:Dt):St:=⟨tsOf [(1,(.ptr 0 [] 0)),(3,(.dat 3 (.int x0))),(9,(.dat 3 (.int x1))),(22,(.dat 4 (.bool x2)))],[(.box 36 (.dat 36 x3))],0⟩
noncomputable def s37_0 (x0 x1:Int) (x2:Bool) (x3:Dt):St:=⟨tsOf [(1,(.ptr 0 [] 0)),(3,(.dat 3 (.int x0))),(9,(.dat 3 (.int x1))),(10,(.dat 4 (.bool x2)))],[(.box 36 (.dat 36 x3))],0⟩
theorem qE_j1_eq m x0:e37 jn m [1,1,1] [] (s37_1 x0)=qE_j1 m (qE m) x0:=
 tq (g:=fun J=>some x0) (by rfl)
abbrev H37_4 (m M4:Nat) (rec4:Int→List Dt→Int→Int→Option Int):Prop:=∀x0 x1 x2 x3,l37 jn m w37_0 [] M4 (s37_6 x0 x1 x2 x3)=rec4 x0 x1 x2 x3
theorem qE_j6_eq m M4 rec4 (h4:H37_4 m M4 rec4) x0 x1 x2 x3:e37 jn m w37_1 [M4] (s37_6 x0 x1 x2 x3)=qE_j6 m (qE m) rec4 x0 x1 x2 x3:=
 tq (g:=fun J=>(jj J 1 16 M4 (s37_6 x0 x1 x2 (IntKind.wrap .i64 (x3+1))) (l37 J m w37_0 [] M4))) (by simp only[jj_eq,h4];rfl)
theorem qE_j5_eq m M4 rec4 (h4:H37_4 m M4 rec4) x0 x1 x2 x3:e37 jn m w37_2 [M4] (s37_6 x0 x1 x2 x3)=qE_j5 m (qE m) rec4 x0 x1 x2 x3:=
 tq (g:=fun J=>((idx x1 x3).bind fun v3=>
  ((qE m v3).bind fun r4=>
  (jj J 0 19 0 (s37_6 (IntKind.wrap .i64 (x0+r4)) x1 x2 x3) (e37 J m w37_1 [M4]))))) (by simp only[jj_eq,qE_j6_eq m M4 rec4 h4];rfl)
theorem qE_l4_eq m:∀M4 x0 x1 x2 x3,l37 jn m w37_0 [] M4 (s37_6 x0 x1 x2 x3)=qE_l4 m (qE m) M4 x0 x1 x2 x3
 |0,_,_,_,_=>rfl
 | M4+1,x0,x1,x2,x3=>
   tl (g:=fun J=>(bif (decide (x3<x2)) then
  (jj J 0 17 0 (s37_6 x0 x1 x2 x3) (e37 J m w37_2 [M4]))
   else
  (jj J 0 27 0 (s37_1 x0) (e37 J m [1,1,1] [])))) (by simp only[jj_eq,qE_j5_eq m M4 (qE_l4 m (qE m) M4) (qE_l4_eq m M4),qE_j1_eq m];rfl)
theorem qE_j3_eq m x0 x1 x2 x3:e37 jn m w37_3 [] (s37_6 x0 x1 x2 x3)=qE_j3 m (qE m) x0 x1 x2 x3:=
 tq (g:=fun J=>(jj J 1 16 (Nat.succ m) (s37_6 x0 x1 x2 x3) (l37 J m w37_0 [] (Nat.succ m)))) (by simp only[jj_eq,qE_l4_eq m];rfl)
abbrev H37_8 (m M8:Nat) (rec8:Int→List Dt→Int→Int→Option Int):Prop:=∀x0 x1 x2 x3,l37 jn m w37_4 [] M8 (s37_10 x0 x1 x2 x3)=rec8 x0 x1 x2 x3
theorem qE_j10_eq m M8 rec8 (h8:H37_8 m M8 rec8) x0 x1 x2 x3:e37 jn m w37_5 [M8] (s37_10 x0 x1 x2 x3)=qE_j10 m (qE m) rec8 x0 x1 x2 x3:=
 tq (g:=fun J=>(jj J 1 23 M8 (s37_10 x0 x1 x2 (IntKind.wrap .i64 (x3+1))) (l37 J m w37_4 [] M8))) (by simp only[jj_eq,h8];rfl)
theorem qE_j9_eq m M8 rec8 (h8:H37_8 m M8 rec8) x0 x1 x2 x3:e37 jn m w37_6 [M8] (s37_10 x0 x1 x2 x3)=qE_j9 m (qE m) rec8 x0 x1 x2 x3:=
 tq (g:=fun J=>((idx x1 x3).bind fun v6=>
  ((qU m (ByteArray.size (Dt.S v6 0):Int)).bind fun r7=>
  ((qE m (Dt.fld v6 1)).bind fun r8=>
  (jj J 0 26 0 (s37_10 (IntKind.wrap .i64 (x0+(IntKind.wrap .i64 ((IntKind.wrap .i64 (r7+(ByteArray.size (Dt.S v6 0):Int)))+r8)))) x1 x2 x3) (e37 J m w37_5 [M8])))))) (by simp only[jj_eq,qE_j10_eq m M8 rec8 h8];rfl)
theorem qE_l8_eq m:∀M8 x0 x1 x2 x3,l37 jn m w37_4 [] M8 (s37_10 x0 x1 x2 x3)=qE_l8 m (qE m) M8 x0 x1 x2 x3
 |0,_,_,_,_=>rfl
 | M8+1,x0,x1,x2,x3=>
   tl (g:=fun J=>(bif (decide (x3<x2)) then
  (jj J 0 24 0 (s37_10 x0 x1 x2 x3) (e37 J m w37_6 [M8]))
   else
  (jj J 0 27 0 (s37_1 x0) (e37 J m [1,1,1] [])))) (by simp only[jj_eq,qE_j9_eq m M8 (qE_l8 m (qE m) M8) (qE_l8_eq m M8),qE_j1_eq m];rfl)
theorem qE_j7_eq m x0 x1 x2 x3:e37 jn m w37_7 [] (s37_10 x0 x1 x2 x3)=qE_j7 m (qE m) x0 x1 x2 x3:=
 tq (g:=fun J=>(jj J 1 23 (Nat.succ m) (s37_10 x0 x1 x2 x3) (l37 J m w37_4 [] (Nat.succ m)))) (by simp only[jj_eq,qE_l8_eq m];rfl)
theorem qE_j2_eq m x0 x1 x2 x3:e37 jn m w37_8 [] (s37_2 x0 x1 x2 x3)=qE_j2 m (qE m) x0 x1 x2 x3:=
 tq (g:=fun J=>(bif x2 then
  ((qU m (ByteArray.size (Dt.S x3 2):Int)).bind fun r1=>
  (jj J 0 27 0 (s37_1 (IntKind.wrap .i64 (x0+(IntKind.wrap .i64 (r1+(ByteArray.size (Dt.S x3 2):Int)))))) (e37 J m [1,1,1] [])))
   else
  (bif (x1==8) then
  (jj J 0 27 0 (s37_1 (IntKind.wrap .i64 (x0+(ByteArray.size (Dt.S x3 2):Int)))) (e37 J m [1,1,1] []))
  else
  (bif (x1==6) then
  ((qU m (List.length (Dt.L x3 3):Int)).bind fun r2=>
  (jj J 0 16 0 (s37_6 (IntKind.wrap .i64 (x0+r2)) (Dt.L x3 3) (List.length (Dt.L x3 3):Int) 0) (e37 J m w37_3 [])))
  else
  (bif (x1==5) then
  ((qU m (List.length (Dt.L x3 4):Int)).bind fun r5=>
  (jj J 0 23 0 (s37_10 (IntKind.wrap .i64 (x0+r5)) (Dt.L x3 4) (List.length (Dt.L x3 4):Int) 0) (e37 J m w37_7 [])))
  else
  (jj J 0 27 0 (s37_1 x0) (e37 J m [1,1,1] []))))))) (by simp only[jj_eq,qE_j1_eq m,qE_j3_eq m,qE_j7_eq m];rfl)
theorem qE_j0_eq m x0 x1 x2 x3:e37 jn m w37_9 [] (s37_0 x0 x1 x2 x3)=qE_j0 m (qE m) x0 x1 x2 x3:=
 tq (g:=fun J=>(bif x2 then
  ((qU m (Dt.I x3 1)).bind fun r0=>
  (jj J 0 27 0 (s37_1 (IntKind.wrap .i64 (x0+r0))) (e37 J m [1,1,1] [])))
   else
  (bif (x1==9) then
  (jj J 0 27 0 (s37_1 (IntKind.wrap .i64 (x0+1))) (e37 J m [1,1,1] []))
  else
  (bif (x1==4) then
  (jj J 0 10 0 (s37_2 x0 x1 (x1==4) x3) (e37 J m w37_8 []))
  else
  (jj J 0 10 0 (s37_2 x0 x1 (x1==7) x3) (e37 J m w37_8 [])))))) (by simp only[jj_eq,qE_j1_eq m,qE_j2_eq m];rfl)
theorem qE_eq m a0:e37 jn m [] [] ⟨[(.dat 36 a0)],[],0⟩=qE (m+1) a0:=
 tq (g:=fun J=>(bif ((Dt.I a0 0)==3) then
  (jj J 0 5 0 (s37_0 1 (Dt.I a0 0) ((Dt.I a0 0)==3) a0) (e37 J m w37_9 []))
   else
  (jj J 0 5 0 (s37_0 1 (Dt.I a0 0) ((Dt.I a0 0)==10) a0) (e37 J m w37_9 [])))) (by simp only[jj_eq,qE_j0_eq m];rfl)
def w71_0:List Nat:=[1,1,0,1,0]
def w71_3:List Nat:=[1,1,0,1,0,0,1,1]
def w71_1:List Nat:=w71_3++[1]
def w71_2:List Nat:=w71_3++[0,0,1,1]
noncomputable def e71 (J:Nat→Nat→Nat→St→Option Bool→Option Bool) (m:Nat) (p ms:List Nat) (σ:St):=evAt Tryz.prog env (ct m) J (m+1) 114 39 Tryz.f114 d14 p ms σ
noncomputable def l71 (J:Nat→Nat→Nat→St→Option Bool→Option Bool) (m:Nat) (p ms:List Nat) (M:Nat) (σ:St):=loopAt Tryz.prog env (ct m) J (m+1) 114 39 Tryz.f114 d14 p ms M σ
noncomputable def s71_6 (x0:ByteArray) (x1 x2:Int):St:=⟨tsOf [(0,(.dat 9 (.str x0))),(18,(.dat 3 (.int x1))),(19,(.dat 3 (.int x2)))],[],0⟩
noncomputable def s71_5 (x0:ByteArray) (x1 x2:Int) (x3:Bool):St:=⟨tsOf [(0,(.dat 9 (.str x0))),(18,(.dat 3 (.int x1))),(19,(.dat 3 (.int x2))),(37,(.dat 4 (.bool x3)))],[],0⟩
noncomputable def s71_7:St:=⟨tsOf [],[],0⟩
noncomputable def s71_1 (x0:ByteArray):St:=⟨tsOf [(0,(.dat 9 (.str x0)))],[],0⟩
noncomputable def s71_0 (x0:ByteArray) (x1:Bool):St:=⟨tsOf [(0,(.dat 9 (.str x0))),(16,(.dat 4 (.bool x1)))],[],0⟩
abbrev H71_3 (m M3:Nat) (rec3:ByteArray→Int→Int→Option Bool):Prop:=∀x0 x1 x2,l71 jn m w71_0 [] M3 (s71_6 x0 x1 x2)=rec3 x0 x1 x2
theorem qL_j6_eq m M3 rec3 (h3:H71_3 m M3 rec3) x0 x1 x2:e71 jn m w71_1 [M3] (s71_6 x0 x1 x2)=qL_j6 m rec3 x0 x1 x2:=
 tq (g:=fun J=>(jj J 1 4 M3 (s71_6 x0 x1 (IntKind.wrap .i64 (x2+1))) (l71 J m w71_0 [] M3))) (by simp only[jj_eq,h3];rfl)
theorem qL_j5_eq m M3 rec3 (h3:H71_3 m M3 rec3) x0 x1 x2 x3:e71 jn m w71_2 [M3] (s71_5 x0 x1 x2 x3)=qL_j5 m rec3 x0 x1 x2 x3:=
 tq (g:=fun J=>(bif x3 then
  some false
   else
  (jj J 0 8 0 (s71_6 x0 x1 x2) (e71 J m w71_1 [M3])))) (by simp only[jj_eq,qL_j6_eq m M3 rec3 h3];rfl)
theorem qL_j4_eq m M3 rec3 (h3:H71_3 m M3 rec3) x0 x1 x2:e71 jn m w71_3 [M3] (s71_6 x0 x1 x2)=qL_j4 m rec3 x0 x1 x2:=
 tq (g:=fun J=>((idxS x0 x2).bind fun v0=>
  (bif (decide (v0<33)) then
  (jj J 0 7 0 (s71_5 x0 x1 x2 true) (e71 J m w71_2 [M3]))
  else
  ((idxS x0 x2).bind fun v1=>
  (bif (decide (126<v1)) then
  (jj J 0 7 0 (s71_5 x0 x1 x2 true) (e71 J m w71_2 [M3]))
  else
  ((idxS x0 x2).bind fun v2=>
  (jj J 0 7 0 (s71_5 x0 x1 x2 (v2==46)) (e71 J m w71_2 [M3])))))))) (by simp only[jj_eq,qL_j5_eq m M3 rec3 h3];rfl)
theorem qL_j7_eq m:e71 jn m [1,1,1] [] s71_7=qL_j7 m:=
 tq (g:=fun J=>some true) (by rfl)
theorem qL_l3_eq m:∀M3 x0 x1 x2,l71 jn m w71_0 [] M3 (s71_6 x0 x1 x2)=qL_l3 m M3 x0 x1 x2
 |0,_,_,_=>rfl
 | M3+1,x0,x1,x2=>
   tl (g:=fun J=>(bif (decide (x2<x1)) then
  (jj J 0 5 0 (s71_6 x0 x1 x2) (e71 J m w71_3 [M3]))
   else
  (jj J 0 9 0 s71_7 (e71 J m [1,1,1] [])))) (by simp only[jj_eq,qL_j4_eq m M3 (qL_l3 m M3) (qL_l3_eq m M3),qL_j7_eq m];rfl)
theorem qL_j2_eq m x0 x1 x2:e71 jn m [1,1,0,1] [] (s71_6 x0 x1 x2)=qL_j2 m x0 x1 x2:=
 tq (g:=fun J=>(jj J 1 4 (Nat.succ m) (s71_6 x0 x1 x2) (l71 J m w71_0 [] (Nat.succ m)))) (by simp only[jj_eq,qL_l3_eq m];rfl)
theorem qL_j1_eq m x0:e71 jn m [1,1] [] (s71_1 x0)=qL_j1 m x0:=
 tq (g:=fun J=>(jj J 0 4 0 (s71_6 x0 (ByteArray.size x0:Int) 0) (e71 J m [1,1,0,1] []))) (by simp only[jj_eq,qL_j2_eq m];rfl)
theorem qL_j0_eq m x0 x1:e71 jn m [1,0,1] [] (s71_0 x0 x1)=qL_j0 m x0 x1:=
 tq (g:=fun J=>(bif x1 then
  some false
   else
  (jj J 0 3 0 (s71_1 x0) (e71 J m [1,1] [])))) (by simp only[jj_eq,qL_j1_eq m];rfl)
theorem qL_eq m a0:e71 jn m [] [] ⟨[(.dat 9 (.str a0))],[],0⟩=qL (m+1) a0:=
 tq (g:=fun J=>(bif (decide ((ByteArray.size a0:Int)<1)) then
  (jj J 0 2 0 (s71_0 a0 true) (e71 J m [1,0,1] []))
   else
  (bif (decide (32<(ByteArray.size a0:Int))) then
  (jj J 0 2 0 (s71_0 a0 true) (e71 J m [1,0,1] []))
  else
  ((idxS a0 0).bind fun v3=>
  (jj J 0 2 0 (s71_0 a0 (v3==36)) (e71 J m [1,0,1] [])))))) (by simp only[jj_eq,qL_j0_eq m];rfl)
def w55_7:List Nat:=[1,1,1,1,1]
def w55_9:List Nat:=[1,1,1,0,1]
def w55_5:List Nat:=[1,1,1,1,1,1]
def w55_8:List Nat:=[1,1,1,1,0,1]
def w55_6:List Nat:=[1,1,1,1,1,0,1,0,1]
def w55_3:List Nat:=w55_6++[1,1,1,1,1,1,1,1,1,1,1,1,0,1]
def w55_4:List Nat:=w55_6++[1,1,1,1,1,1,1,1,1,1,1,1,0,0,1]
def w55_0:List Nat:=w55_4++[0]
def w55_2:List Nat:=w55_0++[0,1,1]
def w55_1:List Nat:=w55_2++[1]
noncomputable def e55 (J:Nat→Nat→Nat→St→Option Bool→Option Bool) (m:Nat) (p ms:List Nat) (σ:St):=evAt Tryz.prog env (ct m) J (m+1) 77 132 Tryz.f77 d14 p ms σ
noncomputable def l55 (J:Nat→Nat→Nat→St→Option Bool→Option Bool) (m:Nat) (p ms:List Nat) (M:Nat) (σ:St):=loopAt Tryz.prog env (ct m) J (m+1) 77 132 Tryz.f77 d14 p ms M σ
noncomputable def s55_10 (x0:List Dt) (x1 x2:Int):St:=⟨tsOf [(117,(.dat 23 (.lst x0))),(118,(.dat 3 (.int x1))),(119,(.dat 3 (.int x2)))],[],0⟩
noncomputable def s55_11:St:=⟨tsOf [],[],0⟩
noncomputable def s55_6 (x0:Int) (x1:Bool) (x2:Dt):St:=⟨tsOf [(1,(.ptr 0 [] 0)),(70,(.dat 3 (.int x0))),(71,(.dat 4 (.bool x1)))],[(.box 36 (.dat 36 x2))],0⟩
noncomputable def s55_5 (x0:Dt):St:=⟨tsOf [(1,(.ptr 0 [] 0))],[(.box 36 (.dat 36 x0))],0⟩
noncomputable def s55_4 (x0:Bool) (x1:Dt):St:=⟨tsOf [(1,(.ptr 0 [] 0)),(68,(.dat 4 (.bool x0)))],[(.box 36 (.dat 36 x1))],0⟩
noncomputable def s55_2 (x0:Bool) (x1:Dt):St:=⟨tsOf [(1,(.ptr 0 [] 0)),(48,(.dat 4 (.bool x0)))],[(.box 36 (.dat 36 x1))],0⟩
noncomputable def s55_1 (x0 x1:Bool) (x2:Dt):St:=⟨tsOf [(1,(.ptr 0 [] 0)),(3,(.dat 4 (.bool x0))),(4,(.dat 4 (.bool x1)))],[(.box 36 (.dat 36 x2))],0⟩
noncomputable def s55_0 (x0:Bool) (x1:Dt):St:=⟨tsOf [(1,(.ptr 0 [] 0)),(3,(.dat 4 (.bool x0)))],[(.box 36 (.dat 36 x1))],0⟩
abbrev H55_8 (m M8:Nat) (rec8:List Dt→Int→Int→Option Bool):Prop:=∀x0 x1 x2,l55 jn m w55_0 [] M8 (s55_10 x0 x1 x2)=rec8 x0 x1 x2
theorem qB_j10_eq m M8 rec8 (h8:H55_8 m M8 rec8) x0 x1 x2:e55 jn m w55_1 [M8] (s55_10 x0 x1 x2)=qB_j10 m (qB m) (qH m) rec8 x0 x1 x2:=
 tq (g:=fun J=>(jj J 1 25 M8 (s55_10 x0 x1 (IntKind.wrap .i64 (x2+1))) (l55 J m w55_0 [] M8))) (by simp only[jj_eq,h8];rfl)
theorem qB_j9_eq m M8 rec8 (h8:H55_8 m M8 rec8) x0 x1 x2:e55 jn m w55_2 [M8] (s55_10 x0 x1 x2)=qB_j9 m (qB m) (qH m) rec8 x0 x1 x2:=
 tq (g:=fun J=>((idx x0 x2).bind fun v1=>
  ((qB m v1).bind fun r2=>
  (bif (Bool.not r2) then
  some false
  else
  (jj J 0 29 0 (s55_10 x0 x1 x2) (e55 J m w55_1 [M8])))))) (by simp only[jj_eq,qB_j10_eq m M8 rec8 h8];rfl)
theorem qB_j11_eq m:e55 jn m w55_3 [] s55_11=qB_j11 m (qB m) (qH m):=
 tq (g:=fun J=>some true) (by rfl)
theorem qB_l8_eq m:∀M8 x0 x1 x2,l55 jn m w55_0 [] M8 (s55_10 x0 x1 x2)=qB_l8 m (qB m) (qH m) M8 x0 x1 x2
 |0,_,_,_=>rfl
 | M8+1,x0,x1,x2=>
   tl (g:=fun J=>(bif (decide (x2<x1)) then
  (jj J 0 26 0 (s55_10 x0 x1 x2) (e55 J m w55_2 [M8]))
   else
  (jj J 0 30 0 s55_11 (e55 J m w55_3 [])))) (by simp only[jj_eq,qB_j9_eq m M8 (qB_l8 m (qB m) (qH m) M8) (qB_l8_eq m M8),qB_j11_eq m];rfl)
theorem qB_j7_eq m x0 x1 x2:e55 jn m w55_4 [] (s55_10 x0 x1 x2)=qB_j7 m (qB m) (qH m) x0 x1 x2:=
 tq (g:=fun J=>(jj J 1 25 (Nat.succ m) (s55_10 x0 x1 x2) (l55 J m w55_0 [] (Nat.succ m)))) (by simp only[jj_eq,qB_l8_eq m];rfl)
theorem qB_j12_eq m:e55 jn m w55_5 [] s55_11=qB_j12 m (qB m) (qH m):=
 tq (g:=fun J=>some false) (by rfl)
theorem qB_j6_eq m x0 x1 x2:e55 jn m w55_6 [] (s55_6 x0 x1 x2)=qB_j6 m (qB m) (qH m) x0 x1 x2:=
 tq (g:=fun J=>(bif x1 then
  some true
   else
  (bif (x0==9) then
  (bif ((Dt.I x2 1)==0) then
  some true
  else
  some ((Dt.I x2 1)==1))
  else
  (bif (x0==10) then
  some (decide (0≤(Dt.I x2 1)))
  else
  (bif (x0==4) then
  (bif (decide ((ByteArray.size (Dt.S x2 2):Int)≤4096)) then
  ((utf8_ValidString (Dt.S x2 2)).bind fun r0=>
  some r0)
  else
  some false)
  else
  (bif (x0==7) then
  some (decide ((ByteArray.size (Dt.S x2 2):Int)≤4096))
  else
  (bif (x0==8) then
  some ((ByteArray.size (Dt.S x2 2):Int)==12)
  else
  (bif (x0==6) then
  (jj J 0 25 0 (s55_10 (Dt.L x2 3) (List.length (Dt.L x2 3):Int) 0) (e55 J m w55_4 []))
  else
  (bif (x0==5) then
  ((qH m (Dt.L x2 4)).bind fun r3=>
  some r3)
  else
  (jj J 0 33 0 s55_11 (e55 J m w55_5 []))))))))))) (by simp only[jj_eq,qB_j7_eq m,qB_j12_eq m];rfl)
theorem qB_j5_eq m x0:e55 jn m w55_7 [] (s55_5 x0)=qB_j5 m (qB m) (qH m) x0:=
 tq (g:=fun J=>(bif ((Dt.I x0 0)==1) then
  (jj J 0 12 0 (s55_6 (Dt.I x0 0) ((Dt.I x0 0)==1) x0) (e55 J m w55_6 []))
   else
  (bif ((Dt.I x0 0)==2) then
  (jj J 0 12 0 (s55_6 (Dt.I x0 0) ((Dt.I x0 0)==2) x0) (e55 J m w55_6 []))
  else
  (bif ((Dt.I x0 0)==11) then
  (jj J 0 12 0 (s55_6 (Dt.I x0 0) ((Dt.I x0 0)==11) x0) (e55 J m w55_6 []))
  else
  (jj J 0 12 0 (s55_6 (Dt.I x0 0) ((Dt.I x0 0)==3) x0) (e55 J m w55_6 [])))))) (by simp only[jj_eq,qB_j6_eq m];rfl)
theorem qB_j4_eq m x0 x1:e55 jn m w55_8 [] (s55_4 x0 x1)=qB_j4 m (qB m) (qH m) x0 x1:=
 tq (g:=fun J=>(bif x0 then
  some false
   else
  (jj J 0 7 0 (s55_5 x1) (e55 J m w55_7 [])))) (by simp only[jj_eq,qB_j5_eq m];rfl)
theorem qB_j3_eq m x0:e55 jn m [1,1,1,1] [] (s55_5 x0)=qB_j3 m (qB m) (qH m) x0:=
 tq (g:=fun J=>(bif ((Dt.I x0 0) !=6) then
  (bif (decide (0<(List.length (Dt.L x0 3):Int))) then
  (jj J 0 6 0 (s55_4 true x0) (e55 J m w55_8 []))
  else
  (bif ((Dt.I x0 0) !=5) then
  (jj J 0 6 0 (s55_4 (decide (0<(List.length (Dt.L x0 4):Int))) x0) (e55 J m w55_8 []))
  else
  (jj J 0 6 0 (s55_4 false x0) (e55 J m w55_8 []))))
   else
  (bif ((Dt.I x0 0) !=5) then
  (jj J 0 6 0 (s55_4 (decide (0<(List.length (Dt.L x0 4):Int))) x0) (e55 J m w55_8 []))
  else
  (jj J 0 6 0 (s55_4 false x0) (e55 J m w55_8 []))))) (by simp only[jj_eq,qB_j4_eq m];rfl)
theorem qB_j2_eq m x0 x1:e55 jn m w55_9 [] (s55_2 x0 x1)=qB_j2 m (qB m) (qH m) x0 x1:=
 tq (g:=fun J=>(bif x0 then
  some false
   else
  (jj J 0 5 0 (s55_5 x1) (e55 J m [1,1,1,1] [])))) (by simp only[jj_eq,qB_j3_eq m];rfl)
theorem qB_j1_eq m x0 x1 x2:e55 jn m [1,1,1] [] (s55_1 x0 x1 x2)=qB_j1 m (qB m) (qH m) x0 x1 x2:=
 tq (g:=fun J=>(bif (Bool.not x0) then
  (bif ((Dt.I x2 1) !=0) then
  (jj J 0 4 0 (s55_2 true x2) (e55 J m w55_9 []))
  else
  (bif (Bool.not x1) then
  (jj J 0 4 0 (s55_2 (Bool.not ((ByteArray.toList (Dt.S x2 2))==[])) x2) (e55 J m w55_9 []))
  else
  (jj J 0 4 0 (s55_2 false x2) (e55 J m w55_9 []))))
   else
  (bif (Bool.not x1) then
  (jj J 0 4 0 (s55_2 (Bool.not ((ByteArray.toList (Dt.S x2 2))==[])) x2) (e55 J m w55_9 []))
  else
  (jj J 0 4 0 (s55_2 false x2) (e55 J m w55_9 []))))) (by simp only[jj_eq,qB_j2_eq m];rfl)
theorem qB_j0_eq m x0 x1:e55 jn m [1,1] [] (s55_0 x0 x1)=qB_j0 m (qB m) (qH m) x0 x1:=
 tq (g:=fun J=>(bif ((Dt.I x1 0)==4) then
  (jj J 0 3 0 (s55_1 x0 true x1) (e55 J m [1,1,1] []))
   else
  (bif ((Dt.I x1 0)==7) then
  (jj J 0 3 0 (s55_1 x0 true x1) (e55 J m [1,1,1] []))
  else
  (jj J 0 3 0 (s55_1 x0 ((Dt.I x1 0)==8) x1) (e55 J m [1,1,1] []))))) (by simp only[jj_eq,qB_j1_eq m];rfl)
theorem qB_eq m a0:e55 jn m [] [] ⟨[(.dat 36 a0)],[],0⟩=qB (m+1) a0:=
 tq (g:=fun J=>(bif ((Dt.I a0 0)==3) then
  (jj J 0 2 0 (s55_0 true a0) (e55 J m [1,1] []))
   else
  (bif ((Dt.I a0 0)==9) then
  (jj J 0 2 0 (s55_0 true a0) (e55 J m [1,1] []))
  else
  (jj J 0 2 0 (s55_0 ((Dt.I a0 0)==10) a0) (e55 J m [1,1] []))))) (by simp only[jj_eq,qB_j0_eq m];rfl)
def w62_0:List Nat:=[1,1,0,1,0]
def w62_4:List Nat:=[1,1,0,1,0,0,1,1]
def w62_1:List Nat:=w62_4++[1]
def w62_2:List Nat:=w62_4++[0,0,1,1]
def w62_3:List Nat:=w62_4++[0,0,1,0,1]
noncomputable def e62 (J:Nat→Nat→Nat→St→Option Bool→Option Bool) (m:Nat) (p ms:List Nat) (σ:St):=evAt Tryz.prog env (ct m) J (m+1) 97 33 Tryz.f97 d14 p ms σ
noncomputable def l62 (J:Nat→Nat→Nat→St→Option Bool→Option Bool) (m:Nat) (p ms:List Nat) (M:Nat) (σ:St):=loopAt Tryz.prog env (ct m) J (m+1) 97 33 Tryz.f97 d14 p ms M σ
noncomputable def s62_5 (x0:List Dt) (x1 x2:Int) (x3:List Dt):St:=⟨tsOf [(3,(.row 0)),(7,(.dat 34 (.lst x0))),(8,(.dat 3 (.int x1))),(9,(.dat 3 (.int x2)))],[(.map 160 x3)],0⟩
noncomputable def s62_4 (x0:List Dt) (x1 x2:Int) (x3:List Dt) (x4:Dt):St:=⟨tsOf [(3,(.row 0)),(5,(.ptr 1 [] 0)),(7,(.dat 34 (.lst x0))),(8,(.dat 3 (.int x1))),(9,(.dat 3 (.int x2)))],[(.map 160 x3),(.box 71 (.dat 71 x4))],0⟩
noncomputable def s62_3 (x0:List Dt) (x1 x2:Int) (x3:Bool) (x4:List Dt) (x5:Dt):St:=⟨tsOf [(3,(.row 0)),(5,(.ptr 1 [] 0)),(7,(.dat 34 (.lst x0))),(8,(.dat 3 (.int x1))),(9,(.dat 3 (.int x2))),(28,(.dat 4 (.bool x3)))],[(.map 160 x4),(.box 71 (.dat 71 x5))],0⟩
noncomputable def s62_6:St:=⟨tsOf [],[],0⟩
abbrev H62_1 (m M1:Nat) (rec1:List Dt→Int→Int→List Dt→Option Bool):Prop:=∀x0 x1 x2 x3,l62 jn m w62_0 [] M1 (s62_5 x0 x1 x2 x3)=rec1 x0 x1 x2 x3
theorem qH_j5_eq m M1 rec1 (h1:H62_1 m M1 rec1) x0 x1 x2 x3:e62 jn m w62_1 [M1] (s62_5 x0 x1 x2 x3)=qH_j5 m (qB m) rec1 x0 x1 x2 x3:=
 tq (g:=fun J=>(jj J 1 3 M1 (s62_5 x0 x1 (IntKind.wrap .i64 (x2+1)) x3) (l62 J m w62_0 [] M1))) (by simp only[jj_eq,h1];rfl)
theorem qH_j4_eq m M1 rec1 (h1:H62_1 m M1 rec1) x0 x1 x2 x3 x4:e62 jn m w62_2 [M1] (s62_4 x0 x1 x2 x3 x4)=qH_j4 m (qB m) rec1 x0 x1 x2 x3 x4:=
 tq (g:=fun J=>(jj J 0 8 0 (s62_5 x0 x1 x2 (mput x3 (Dt.S x4 0) (Dt.bool true))) (e62 J m w62_1 [M1]))) (by simp only[jj_eq,qH_j5_eq m M1 rec1 h1];rfl)
theorem qH_j3_eq m M1 rec1 (h1:H62_1 m M1 rec1) x0 x1 x2 x3 x4 x5:e62 jn m w62_3 [M1] (s62_3 x0 x1 x2 x3 x4 x5)=qH_j3 m (qB m) rec1 x0 x1 x2 x3 x4 x5:=
 tq (g:=fun J=>(bif x3 then
  some false
   else
  (jj J 0 7 0 (s62_4 x0 x1 x2 x4 x5) (e62 J m w62_2 [M1])))) (by simp only[jj_eq,qH_j4_eq m M1 rec1 h1];rfl)
theorem qH_j2_eq m M1 rec1 (h1:H62_1 m M1 rec1) x0 x1 x2 x3:e62 jn m w62_4 [M1] (s62_5 x0 x1 x2 x3)=qH_j2 m (qB m) rec1 x0 x1 x2 x3:=
 tq (g:=fun J=>((idx x0 x2).bind fun v0=>
  ((qL m (Dt.S v0 0)).bind fun r1=>
  (bif (Bool.not r1) then
  (jj J 0 6 0 (s62_3 x0 x1 x2 true x3 v0) (e62 J m w62_3 [M1]))
  else
  (bif (Dt.toBool (mgetD x3 (Dt.S v0 0) (Dt.bool false))) then
  (jj J 0 6 0 (s62_3 x0 x1 x2 true x3 v0) (e62 J m w62_3 [M1]))
  else
  ((qB m (Dt.fld v0 1)).bind fun r2=>
  (jj J 0 6 0 (s62_3 x0 x1 x2 (Bool.not r2) x3 v0) (e62 J m w62_3 [M1])))))))) (by simp only[jj_eq,qH_j3_eq m M1 rec1 h1];rfl)
theorem qH_j6_eq m:e62 jn m [1,1,1] [] s62_6=qH_j6 m (qB m):=
 tq (g:=fun J=>some true) (by rfl)
theorem qH_l1_eq m:∀M1 x0 x1 x2 x3,l62 jn m w62_0 [] M1 (s62_5 x0 x1 x2 x3)=qH_l1 m (qB m) M1 x0 x1 x2 x3
 |0,_,_,_,_=>rfl
 | M1+1,x0,x1,x2,x3=>
   tl (g:=fun J=>(bif (decide (x2<x1)) then
  (jj J 0 4 0 (s62_5 x0 x1 x2 x3) (e62 J m w62_4 [M1]))
   else
  (jj J 0 9 0 s62_6 (e62 J m [1,1,1] [])))) (by simp only[jj_eq,qH_j2_eq m M1 (qH_l1 m (qB m) M1) (qH_l1_eq m M1),qH_j6_eq m];rfl)
theorem qH_j0_eq m x0 x1 x2 x3:e62 jn m [1,1,0,1] [] (s62_5 x0 x1 x2 x3)=qH_j0 m (qB m) x0 x1 x2 x3:=
 tq (g:=fun J=>(jj J 1 3 (Nat.succ m) (s62_5 x0 x1 x2 x3) (l62 J m w62_0 [] (Nat.succ m)))) (by simp only[jj_eq,qH_l1_eq m];rfl)
theorem qH_eq m a0:e62 jn m [] [] ⟨[(.dat 34 (.lst a0))],[],0⟩=qH (m+1) a0:=
 tq (g:=fun J=>(jj J 0 3 0 (s62_5 a0 (List.length a0:Int) 0 []) (e62 J m [1,1,0,1] []))) (by simp only[jj_eq,qH_j0_eq m];rfl)
noncomputable def e36 (J:Nat→Nat→Nat→St→Option Bool→Option Bool) (m:Nat) (p ms:List Nat) (σ:St):=evAt Tryz.prog env (ct m) J (m+1) 46 15 Tryz.f46 d14 p ms σ
theorem zV_eq m a0:e36 jn m [] [] ⟨[(.dat 36 a0)],[],0⟩=zV (m+1) a0:=
 tq (g:=fun J=>((zR m a0).bind fun r0=>
  (bif (decide (r0≤1024)) then
  ((zS m a0).bind fun r1=>
  (bif (decide (r1≤16)) then
  ((qB m a0).bind fun r2=>
  some r2)
  else
  some false))
  else
  some false))) (by rfl)
noncomputable def e18 (J:Nat→Nat→Nat→St→Option (Int×Int)→Option (Int×Int)) (m:Nat) (p ms:List Nat) (σ:St):=evAt Tryz.prog env (ct m) J (m+1) 29 9 Tryz.f29 d18 p ms σ
noncomputable def s18_0 (x0:Dt):St:=⟨tsOf [(1,(.ptr 0 [] 0))],[(.box 36 (.dat 36 x0))],0⟩
theorem zJ_j0_eq m x0:e18 jn m [1,1] [] (s18_0 x0)=zJ_j0 m x0:=
 tq (g:=fun J=>((qE m x0).bind fun r1=>
  some (r1,0))) (by rfl)
theorem zJ_eq m a0:e18 jn m [] [] ⟨[(.dat 36 a0)],[],0⟩=zJ (m+1) a0:=
 tq (g:=fun J=>((zV m a0).bind fun r0=>
  (bif (Bool.not r0) then
  some (0,8)
  else
  (jj J 0 3 0 (s18_0 a0) (e18 J m [1,1] []))))) (by simp only[jj_eq,zJ_j0_eq m];rfl)
def w8_8:List Nat:=[1,1,1,1,1]
def w8_6:List Nat:=[1,1,1,1,1,1]
def w8_9:List Nat:=[1,1,1,1,0,1]
def w8_0:List Nat:=w8_9++[0]
def w8_5:List Nat:=w8_6++[1]
def w8_7:List Nat:=[1,1,1,1,1,0,1]
def w8_4:List Nat:=w8_0++[0,1,1]
def w8_1:List Nat:=w8_4++[1]
def w8_2:List Nat:=w8_4++[0,0,1,1,1]
def w8_3:List Nat:=w8_4++[0,0,1,1,0,1]
noncomputable def e8 (J:Nat→Nat→Nat→St→Option (List Dt×Int)→Option (List Dt×Int)) (m:Nat) (p ms:List Nat) (σ:St):=evAt Tryz.prog env (ct m) J (m+1) 16 67 Tryz.f16 d8 p ms σ
noncomputable def l8 (J:Nat→Nat→Nat→St→Option (List Dt×Int)→Option (List Dt×Int)) (m:Nat) (p ms:List Nat) (M:Nat) (σ:St):=loopAt Tryz.prog env (ct m) J (m+1) 16 67 Tryz.f16 d8 p ms M σ
noncomputable def s8_6 (x0:List Dt) (x1:Int) (x2:Bool) (x3 x4:Int) (x5:List Dt) (x6 x7:Int) (x8:List Dt):St:=⟨tsOf [(0,(.dat 23 (.lst x0))),(1,(.dat 3 (.int x1))),(2,(.dat 4 (.bool x2))),(8,(.row 0)),(9,(.dat 3 (.int x3))),(10,(.dat 3 (.int x4))),(17,(.dat 23 (.lst x5))),(18,(.dat 3 (.int x6))),(19,(.dat 3 (.int x7)))],[(.row 52 x8)],0⟩
noncomputable def s8_5 (x0:List Dt) (x1:Int) (x2:Bool) (x3 x4 x5:Int) (x6:List Dt) (x7 x8:Int) (x9:List Dt):St:=⟨tsOf [(0,(.dat 23 (.lst x0))),(1,(.dat 3 (.int x1))),(2,(.dat 4 (.bool x2))),(8,(.row 0)),(9,(.dat 3 (.int x3))),(10,(.dat 3 (.int x4))),(13,(.dat 3 (.int x5))),(17,(.dat 23 (.lst x6))),(18,(.dat 3 (.int x7))),(19,(.dat 3 (.int x8)))],[(.row 52 x9)],0⟩
noncomputable def s8_4 (x0:List Dt) (x1:Int) (x2:Bool) (x3 x4 x5 x6:Int) (x7:List Dt) (x8 x9:Int) (x10:Bool) (x11:List Dt):St:=⟨tsOf [(0,(.dat 23 (.lst x0))),(1,(.dat 3 (.int x1))),(2,(.dat 4 (.bool x2))),(8,(.row 0)),(9,(.dat 3 (.int x3))),(10,(.dat 3 (.int x4))),(11,(.dat 3 (.int x5))),(13,(.dat 3 (.int x6))),(17,(.dat 23 (.lst x7))),(18,(.dat 3 (.int x8))),(19,(.dat 3 (.int x9))),(38,(.dat 4 (.bool x10)))],[(.row 52 x11)],0⟩
noncomputable def s8_10 (x0:List Dt) (x1:Int) (x2:List Dt):St:=⟨tsOf [(0,(.dat 23 (.lst x0))),(8,(.row 0)),(9,(.dat 3 (.int x1)))],[(.row 52 x2)],0⟩
noncomputable def s8_9 (x0:List Dt) (x1:Bool) (x2:Int) (x3:List Dt):St:=⟨tsOf [(0,(.dat 23 (.lst x0))),(2,(.dat 4 (.bool x1))),(8,(.row 0)),(9,(.dat 3 (.int x2)))],[(.row 52 x3)],0⟩
noncomputable def s8_8 (x0:List Dt) (x1:Bool) (x2:Int) (x3:Bool) (x4:List Dt):St:=⟨tsOf [(0,(.dat 23 (.lst x0))),(2,(.dat 4 (.bool x1))),(8,(.row 0)),(9,(.dat 3 (.int x2))),(58,(.dat 4 (.bool x3)))],[(.row 52 x4)],0⟩
noncomputable def s8_7 (x0:List Dt) (x1:Int) (x2:Bool) (x3 x4:Int) (x5:List Dt):St:=⟨tsOf [(0,(.dat 23 (.lst x0))),(1,(.dat 3 (.int x1))),(2,(.dat 4 (.bool x2))),(8,(.row 0)),(9,(.dat 3 (.int x3))),(10,(.dat 3 (.int x4)))],[(.row 52 x5)],0⟩
noncomputable def s8_0 (x0:List Dt) (x1:Int) (x2:Bool):St:=⟨tsOf [(0,(.dat 23 (.lst x0))),(1,(.dat 3 (.int x1))),(2,(.dat 4 (.bool x2)))],[],0⟩
abbrev H8_2 (m M2:Nat) (rec2:List Dt→Int→Bool→Int→Int→List Dt→Int→Int→List Dt→Option (List Dt×Int)):Prop:=∀x0 x1 x2 x3 x4 x5 x6 x7 x8,l8 jn m w8_0 [] M2 (s8_6 x0 x1 x2 x3 x4 x5 x6 x7 x8)=rec2 x0 x1 x2 x3 x4 x5 x6 x7 x8
theorem qO_j6_eq m M2 rec2 (h2:H8_2 m M2 rec2) x0 x1 x2 x3 x4 x5 x6 x7 x8:e8 jn m w8_1 [M2] (s8_6 x0 x1 x2 x3 x4 x5 x6 x7 x8)=qO_j6 m rec2 x0 x1 x2 x3 x4 x5 x6 x7 x8:=
 tq (g:=fun J=>(jj J 1 6 M2 (s8_6 x0 x1 x2 x3 x4 x5 x6 (IntKind.wrap .i64 (x7+1)) x8) (l8 J m w8_0 [] M2))) (by simp only[jj_eq,h2];rfl)
theorem qO_j5_eq m M2 rec2 (h2:H8_2 m M2 rec2) x0 x1 x2 x3 x4 x5 x6 x7 x8 x9:e8 jn m w8_2 [M2] (s8_5 x0 x1 x2 x3 x4 x5 x6 x7 x8 x9)=qO_j5 m rec2 x0 x1 x2 x3 x4 x5 x6 x7 x8 x9:=
 tq (g:=fun J=>(jj J 0 13 0 (s8_6 x0 x1 x2 x3 (IntKind.wrap .i64 (x4+x5)) x6 x7 x8 x9) (e8 J m w8_1 [M2]))) (by simp only[jj_eq,qO_j6_eq m M2 rec2 h2];rfl)
theorem qO_j4_eq m M2 rec2 (h2:H8_2 m M2 rec2) x0 x1 x2 x3 x4 x5 x6 x7 x8 x9 x10 x11:e8 jn m w8_3 [M2] (s8_4 x0 x1 x2 x3 x4 x5 x6 x7 x8 x9 x10 x11)=qO_j4 m rec2 x0 x1 x2 x3 x4 x5 x6 x7 x8 x9 x10 x11:=
 tq (g:=fun J=>(bif x10 then
  ((cutL x0 x3 x5).bind fun v2=>
  ((app x11 [(Dt.lst v2)]).bind fun v3=>
  (jj J 0 12 0 (s8_5 x0 x1 x2 x5 0 x6 x7 x8 x9 v3) (e8 J m w8_2 [M2]))))
   else
  (jj J 0 12 0 (s8_5 x0 x1 x2 x3 x4 x6 x7 x8 x9 x11) (e8 J m w8_2 [M2])))) (by simp only[jj_eq,qO_j5_eq m M2 rec2 h2];rfl)
theorem qO_j3_eq m M2 rec2 (h2:H8_2 m M2 rec2) x0 x1 x2 x3 x4 x5 x6 x7 x8:e8 jn m w8_4 [M2] (s8_6 x0 x1 x2 x3 x4 x5 x6 x7 x8)=qO_j3 m rec2 x0 x1 x2 x3 x4 x5 x6 x7 x8:=
 tq (g:=fun J=>((idx x5 x7).bind fun v0=>
  ((zJ m v0).bind fun r1=>
  (bif (decide (x3<x7)) then
  (jj J 0 10 0 (s8_4 x0 x1 x2 x3 x4 x7 r1.1 x5 x6 x7 (decide ((IntKind.wrap .i64 (x1-x4))<r1.1)) x8) (e8 J m w8_3 [M2]))
  else
  (jj J 0 10 0 (s8_4 x0 x1 x2 x3 x4 x7 r1.1 x5 x6 x7 false x8) (e8 J m w8_3 [M2])))))) (by simp only[jj_eq,qO_j4_eq m M2 rec2 h2];rfl)
theorem qO_j10_eq m x0 x1 x2:e8 jn m w8_5 [] (s8_10 x0 x1 x2)=qO_j10 m x0 x1 x2:=
 tq (g:=fun J=>((cutL x0 x1 (List.length x0:Int)).bind fun v4=>
  ((app x2 [(Dt.lst v4)]).bind fun v5=>
  some (v5,0)))) (by rfl)
theorem qO_j9_eq m x0 x1 x2 x3:e8 jn m w8_6 [] (s8_9 x0 x1 x2 x3)=qO_j9 m x0 x1 x2 x3:=
 tq (g:=fun J=>(bif (Bool.not x1) then
  some ([],22)
   else
  (jj J 0 18 0 (s8_10 x0 x2 x3) (e8 J m w8_5 [])))) (by simp only[jj_eq,qO_j10_eq m];rfl)
theorem qO_j8_eq m x0 x1 x2 x3 x4:e8 jn m w8_7 [] (s8_8 x0 x1 x2 x3 x4)=qO_j8 m x0 x1 x2 x3 x4:=
 tq (g:=fun J=>(bif x3 then
  some ([],0)
   else
  (jj J 0 16 0 (s8_9 x0 x1 x2 x4) (e8 J m w8_6 [])))) (by simp only[jj_eq,qO_j9_eq m];rfl)
theorem qO_j7_eq m x0 x1 x2 x3 x4 x5:e8 jn m w8_8 [] (s8_7 x0 x1 x2 x3 x4 x5)=qO_j7 m x0 x1 x2 x3 x4 x5:=
 tq (g:=fun J=>(bif ((List.length x5:Int)==0) then
  (jj J 0 15 0 (s8_8 x0 x2 x3 (decide (x4≤x1)) x5) (e8 J m w8_7 []))
   else
  (jj J 0 15 0 (s8_8 x0 x2 x3 false x5) (e8 J m w8_7 [])))) (by simp only[jj_eq,qO_j8_eq m];rfl)
theorem qO_l2_eq m:∀M2 x0 x1 x2 x3 x4 x5 x6 x7 x8,l8 jn m w8_0 [] M2 (s8_6 x0 x1 x2 x3 x4 x5 x6 x7 x8)=qO_l2 m M2 x0 x1 x2 x3 x4 x5 x6 x7 x8
 |0,_,_,_,_,_,_,_,_,_=>rfl
 | M2+1,x0,x1,x2,x3,x4,x5,x6,x7,x8=>
   tl (g:=fun J=>(bif (decide (x7<x6)) then
  (jj J 0 7 0 (s8_6 x0 x1 x2 x3 x4 x5 x6 x7 x8) (e8 J m w8_4 [M2]))
   else
  (jj J 0 14 0 (s8_7 x0 x1 x2 x3 x4 x8) (e8 J m w8_8 [])))) (by simp only[jj_eq,qO_j3_eq m M2 (qO_l2 m M2) (qO_l2_eq m M2),qO_j7_eq m];rfl)
theorem qO_j1_eq m x0 x1 x2 x3 x4 x5 x6 x7 x8:e8 jn m w8_9 [] (s8_6 x0 x1 x2 x3 x4 x5 x6 x7 x8)=qO_j1 m x0 x1 x2 x3 x4 x5 x6 x7 x8:=
 tq (g:=fun J=>(jj J 1 6 (Nat.succ m) (s8_6 x0 x1 x2 x3 x4 x5 x6 x7 x8) (l8 J m w8_0 [] (Nat.succ m)))) (by simp only[jj_eq,qO_l2_eq m];rfl)
theorem qO_j0_eq m x0 x1 x2:e8 jn m [1,1] [] (s8_0 x0 x1 x2)=qO_j0 m x0 x1 x2:=
 tq (g:=fun J=>(jj J 0 6 0 (s8_6 x0 x1 x2 0 0 x0 (List.length x0:Int) 0 []) (e8 J m w8_9 []))) (by simp only[jj_eq,qO_j1_eq m];rfl)
theorem qO_eq m a0 a1 a2:e8 jn m [] [] ⟨[(.dat 23 (.lst a0)),(.dat 3 (.int a1)),(.dat 4 (.bool a2))],[],0⟩=qO (m+1) a0 a1 a2:=
 tq (g:=fun J=>(bif (decide (a1<1)) then
  some ([],1)
   else
  (jj J 0 3 0 (s8_0 a0 a1 a2) (e8 J m [1,1] [])))) (by simp only[jj_eq,qO_j0_eq m];rfl)
end Go.Proofs.YtpifchdngodgjaaGreatDoor
