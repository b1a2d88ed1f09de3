/- Generated: each function's run in the abstract machine is its shallow function. -/
import Derived.Test.YtpifchdngodgjaaGreatDoorCt
import Derived.Test.YtpifchdngodgjaaGreatDoorAmEnv
import Derived.KernelRfl
set_option linter.unusedVariables false
set_option linter.unusedSimpArgs false
namespace Go.Proofs.YtpifchdngodgjaaGreatDoor
open Go.Am
set_option maxRecDepth 100000
def w13_0:List Nat:=[1,1,0,1,0]
def w13_7:List Nat:=[1,1,1,0,1]
def w13_3:List Nat:=[1,1,1,0,1,0]
def w13_2:List Nat:=[1,1,0,1,0,0,1]
def w13_1:List Nat:=w13_2++[1]
def w13_6:List Nat:=w13_3++[0,1]
def w13_4:List Nat:=w13_6++[1]
def w13_5:List Nat:=w13_6++[0,0,1]
noncomputable def e13 (J:Nat→Nat→Nat→St→Option Bool→Option Bool) (m:Nat) (p ms:List Nat) (σ:St):=evAt Tryz.prog env (ct m) J (m+1) 21 99 Tryz.f21 d13 p ms σ
noncomputable def l13 (J:Nat→Nat→Nat→St→Option Bool→Option Bool) (m:Nat) (p ms:List Nat) (M:Nat) (σ:St):=loopAt Tryz.prog env (ct m) J (m+1) 21 99 Tryz.f21 d13 p ms M σ
noncomputable def s13_5 (x0:Int) (x1 x2:Dt):St:=⟨tsOf [(2,(.ptr 0 [] 0)),(3,(.ptr 1 [] 0)),(5,(.dat 3 (.int x0)))],[(.box 36 (.dat 36 x1)),(.box 36 (.dat 36 x2))],0⟩
noncomputable def s13_11 (x0:Int) (x1 x2:Dt):St:=⟨tsOf [(2,(.ptr 0 [] 0)),(3,(.ptr 1 [] 0)),(6,(.dat 3 (.int x0)))],[(.box 36 (.dat 36 x1)),(.box 36 (.dat 36 x2))],0⟩
noncomputable def s13_10 (x0:Int) (x1:Bool) (x2 x3:Dt):St:=⟨tsOf [(2,(.ptr 0 [] 0)),(3,(.ptr 1 [] 0)),(6,(.dat 3 (.int x0))),(98,(.dat 4 (.bool x1)))],[(.box 36 (.dat 36 x2)),(.box 36 (.dat 36 x3))],0⟩
noncomputable def s13_12:St:=⟨tsOf [],[],0⟩
noncomputable def s13_6 (x0 x1:Dt):St:=⟨tsOf [(2,(.ptr 0 [] 0)),(3,(.ptr 1 [] 0))],[(.box 36 (.dat 36 x0)),(.box 36 (.dat 36 x1))],0⟩
noncomputable def s13_0 (x0:Bool) (x1 x2:Dt):St:=⟨tsOf [(2,(.ptr 0 [] 0)),(3,(.ptr 1 [] 0)),(43,(.dat 4 (.bool x0)))],[(.box 36 (.dat 36 x1)),(.box 36 (.dat 36 x2))],0⟩
abbrev H13_3 (m M3:Nat) (rec3:Int→Dt→Dt→Option Bool):Prop:=∀x0 x1 x2,l13 jn m w13_0 [] M3 (s13_5 x0 x1 x2)=rec3 x0 x1 x2
theorem qJ_j5_eq m M3 rec3 (h3:H13_3 m M3 rec3) x0 x1 x2:e13 jn m w13_1 [M3] (s13_5 x0 x1 x2)=qJ_j5 m (qJ m) rec3 x0 x1 x2:=
 tq (g:=fun J=>(jj J 1 4 M3 (s13_5 (IntKind.wrap .i64 (x0+1)) x1 x2) (l13 J m w13_0 [] M3))) (by simp only[jj_eq,h3];rfl)
theorem qJ_j4_eq m M3 rec3 (h3:H13_3 m M3 rec3) x0 x1 x2:e13 jn m w13_2 [M3] (s13_5 x0 x1 x2)=qJ_j4 m (qJ m) rec3 x0 x1 x2:=
 tq (g:=fun J=>((idx (Dt.L x1 3) x0).bind fun v0=>
  ((idx (Dt.L x2 3) x0).bind fun v1=>
  ((qJ m v0 v1).bind fun r2=>
  (bif (Bool.not r2) then
  some false
  else
  (jj J 0 5 0 (s13_5 x0 x1 x2) (e13 J m w13_1 [M3]))))))) (by simp only[jj_eq,qJ_j5_eq m M3 rec3 h3];rfl)
abbrev H13_8 (m M8:Nat) (rec8:Int→Dt→Dt→Option Bool):Prop:=∀x0 x1 x2,l13 jn m w13_3 [] M8 (s13_11 x0 x1 x2)=rec8 x0 x1 x2
theorem qJ_j11_eq m M8 rec8 (h8:H13_8 m M8 rec8) x0 x1 x2:e13 jn m w13_4 [M8] (s13_11 x0 x1 x2)=qJ_j11 m (qJ m) rec8 x0 x1 x2:=
 tq (g:=fun J=>(jj J 1 9 M8 (s13_11 (IntKind.wrap .i64 (x0+1)) x1 x2) (l13 J m w13_3 [] M8))) (by simp only[jj_eq,h8];rfl)
theorem qJ_j10_eq m M8 rec8 (h8:H13_8 m M8 rec8) x0 x1 x2 x3:e13 jn m w13_5 [M8] (s13_10 x0 x1 x2 x3)=qJ_j10 m (qJ m) rec8 x0 x1 x2 x3:=
 tq (g:=fun J=>(bif x1 then
  some false
   else
  (jj J 0 10 0 (s13_11 x0 x2 x3) (e13 J m w13_4 [M8])))) (by simp only[jj_eq,qJ_j11_eq m M8 rec8 h8];rfl)
theorem qJ_j9_eq m M8 rec8 (h8:H13_8 m M8 rec8) x0 x1 x2:e13 jn m w13_6 [M8] (s13_11 x0 x1 x2)=qJ_j9 m (qJ m) rec8 x0 x1 x2:=
 tq (g:=fun J=>((idx (Dt.L x1 4) x0).bind fun v3=>
  ((idx (Dt.L x2 4) x0).bind fun v4=>
  (bif (Bool.not ((ByteArray.toList (Dt.S v3 0))==(ByteArray.toList (Dt.S v4 0)))) then
  (jj J 0 12 0 (s13_10 x0 true x1 x2) (e13 J m w13_5 [M8]))
  else
  ((idx (Dt.L x1 4) x0).bind fun v5=>
  ((idx (Dt.L x2 4) x0).bind fun v6=>
  ((qJ m (Dt.fld v5 1) (Dt.fld v6 1)).bind fun r7=>
  (jj J 0 12 0 (s13_10 x0 (Bool.not r7) x1 x2) (e13 J m w13_5 [M8]))))))))) (by simp only[jj_eq,qJ_j10_eq m M8 rec8 h8];rfl)
theorem qJ_j12_eq m:e13 jn m [1,1,1,1] [] s13_12=qJ_j12 m (qJ m):=
 tq (g:=fun J=>some true) (by rfl)
theorem qJ_l8_eq m:∀M8 x0 x1 x2,l13 jn m w13_3 [] M8 (s13_11 x0 x1 x2)=qJ_l8 m (qJ m) M8 x0 x1 x2
 |0,_,_,_=>rfl
 | M8+1,x0,x1,x2=>
   tl (g:=fun J=>(bif (decide (x0<(List.length (Dt.L x1 4):Int))) then
  (jj J 0 11 0 (s13_11 x0 x1 x2) (e13 J m w13_6 [M8]))
   else
  (jj J 0 13 0 s13_12 (e13 J m [1,1,1,1] [])))) (by simp only[jj_eq,qJ_j9_eq m M8 (qJ_l8 m (qJ m) M8) (qJ_l8_eq m M8),qJ_j12_eq m];rfl)
theorem qJ_j7_eq m x0 x1 x2:e13 jn m w13_7 [] (s13_11 x0 x1 x2)=qJ_j7 m (qJ m) x0 x1 x2:=
 tq (g:=fun J=>(jj J 1 9 (Nat.succ m) (s13_11 x0 x1 x2) (l13 J m w13_3 [] (Nat.succ m)))) (by simp only[jj_eq,qJ_l8_eq m];rfl)
theorem qJ_j6_eq m x0 x1:e13 jn m [1,1,1] [] (s13_6 x0 x1)=qJ_j6 m (qJ m) x0 x1:=
 tq (g:=fun J=>(jj J 0 9 0 (s13_11 0 x0 x1) (e13 J m w13_7 []))) (by simp only[jj_eq,qJ_j7_eq m];rfl)
theorem qJ_l3_eq m:∀M3 x0 x1 x2,l13 jn m w13_0 [] M3 (s13_5 x0 x1 x2)=qJ_l3 m (qJ m) M3 x0 x1 x2
 |0,_,_,_=>rfl
 | M3+1,x0,x1,x2=>
   tl (g:=fun J=>(bif (decide (x0<(List.length (Dt.L x1 3):Int))) then
  (jj J 0 6 0 (s13_5 x0 x1 x2) (e13 J m w13_2 [M3]))
   else
  (jj J 0 8 0 (s13_6 x1 x2) (e13 J m [1,1,1] [])))) (by simp only[jj_eq,qJ_j4_eq m M3 (qJ_l3 m (qJ m) M3) (qJ_l3_eq m M3),qJ_j6_eq m];rfl)
theorem qJ_j2_eq m x0 x1 x2:e13 jn m [1,1,0,1] [] (s13_5 x0 x1 x2)=qJ_j2 m (qJ m) x0 x1 x2:=
 tq (g:=fun J=>(jj J 1 4 (Nat.succ m) (s13_5 x0 x1 x2) (l13 J m w13_0 [] (Nat.succ m)))) (by simp only[jj_eq,qJ_l3_eq m];rfl)
theorem qJ_j1_eq m x0 x1:e13 jn m [1,1] [] (s13_6 x0 x1)=qJ_j1 m (qJ m) x0 x1:=
 tq (g:=fun J=>(jj J 0 4 0 (s13_5 0 x0 x1) (e13 J m [1,1,0,1] []))) (by simp only[jj_eq,qJ_j2_eq m];rfl)
theorem qJ_j0_eq m x0 x1 x2:e13 jn m [1,0,1] [] (s13_0 x0 x1 x2)=qJ_j0 m (qJ m) x0 x1 x2:=
 tq (g:=fun J=>(bif x0 then
  some false
   else
  (jj J 0 3 0 (s13_6 x1 x2) (e13 J m [1,1] [])))) (by simp only[jj_eq,qJ_j1_eq m];rfl)
theorem qJ_eq m a0 a1:e13 jn m [] [] ⟨[(.dat 36 a0),(.dat 36 a1)],[],0⟩=qJ (m+1) a0 a1:=
 tq (g:=fun J=>(bif ((Dt.I a0 0) !=(Dt.I a1 0)) then
  (jj J 0 2 0 (s13_0 true a0 a1) (e13 J m [1,0,1] []))
   else
  (bif ((Dt.I a0 1) !=(Dt.I a1 1)) then
  (jj J 0 2 0 (s13_0 true a0 a1) (e13 J m [1,0,1] []))
  else
  (bif (Bool.not ((ByteArray.toList (Dt.S a0 2))==(ByteArray.toList (Dt.S a1 2)))) then
  (jj J 0 2 0 (s13_0 true a0 a1) (e13 J m [1,0,1] []))
  else
  (bif ((List.length (Dt.L a0 3):Int) !=(List.length (Dt.L a1 3):Int)) then
  (jj J 0 2 0 (s13_0 true a0 a1) (e13 J m [1,0,1] []))
  else
  (jj J 0 2 0 (s13_0 ((List.length (Dt.L a0 4):Int) !=(List.length (Dt.L a1 4):Int)) a0 a1) (e13 J m [1,0,1] []))))))) (by simp only[jj_eq,qJ_j0_eq m];rfl)
noncomputable def e5 (J:Nat→Nat→Nat→St→Option Bool→Option Bool) (m:Nat) (p ms:List Nat) (σ:St):=evAt Tryz.prog env (ct m) J (m+1) 10 10 Tryz.f10 d13 p ms σ
theorem z7_eq m a0 a1:e5 jn m [] [] ⟨[(.dat 23 (.lst a0)),(.dat 23 (.lst a1))],[],0⟩=z7 (m+1) a0 a1:=
 tq (g:=fun J=>((qJ m (Dt.agg [(Dt.int 6),(Dt.int 0),(Dt.str (ByteArray.mk (List.toArray []))),(Dt.lst a0),(Dt.lst [])]) (Dt.agg [(Dt.int 6),(Dt.int 0),(Dt.str (ByteArray.mk (List.toArray []))),(Dt.lst a1),(Dt.lst [])])).bind fun r0=>
  some r0)) (by rfl)
def w15_0:List Nat:=[1,1,0,1,0]
def w15_2:List Nat:=[1,1,0,1,0,0,1]
def w15_1:List Nat:=w15_2++[1]
noncomputable def e15 (J:Nat→Nat→Nat→St→Option Bool→Option Bool) (m:Nat) (p ms:List Nat) (σ:St):=evAt Tryz.prog env (ct m) J (m+1) 15 26 Tryz.f15 d13 p ms σ
noncomputable def l15 (J:Nat→Nat→Nat→St→Option Bool→Option Bool) (m:Nat) (p ms:List Nat) (M:Nat) (σ:St):=loopAt Tryz.prog env (ct m) J (m+1) 15 26 Tryz.f15 d13 p ms M σ
noncomputable def s15_4 (x0 x1:List Dt) (x2:Int):St:=⟨tsOf [(0,(.dat 38 (.lst x0))),(1,(.dat 38 (.lst x1))),(5,(.dat 3 (.int x2)))],[],0⟩
noncomputable def s15_5:St:=⟨tsOf [],[],0⟩
noncomputable def s15_0 (x0 x1:List Dt):St:=⟨tsOf [(0,(.dat 38 (.lst x0))),(1,(.dat 38 (.lst x1)))],[],0⟩
abbrev H15_2 (m M2:Nat) (rec2:List Dt→List Dt→Int→Option Bool):Prop:=∀x0 x1 x2,l15 jn m w15_0 [] M2 (s15_4 x0 x1 x2)=rec2 x0 x1 x2
theorem zO_j4_eq m M2 rec2 (h2:H15_2 m M2 rec2) x0 x1 x2:e15 jn m w15_1 [M2] (s15_4 x0 x1 x2)=zO_j4 m rec2 x0 x1 x2:=
 tq (g:=fun J=>(jj J 1 4 M2 (s15_4 x0 x1 (IntKind.wrap .i64 (x2+1))) (l15 J m w15_0 [] M2))) (by simp only[jj_eq,h2];rfl)
theorem zO_j3_eq m M2 rec2 (h2:H15_2 m M2 rec2) x0 x1 x2:e15 jn m w15_2 [M2] (s15_4 x0 x1 x2)=zO_j3 m rec2 x0 x1 x2:=
 tq (g:=fun J=>((idx x0 x2).bind fun v0=>
  ((idx x1 x2).bind fun v1=>
  (bif (Bool.not ((ByteArray.toList (Dt.toStr v0))==(ByteArray.toList (Dt.toStr v1)))) then
  some false
  else
  (jj J 0 5 0 (s15_4 x0 x1 x2) (e15 J m w15_1 [M2])))))) (by simp only[jj_eq,zO_j4_eq m M2 rec2 h2];rfl)
theorem zO_j5_eq m:e15 jn m [1,1,1] [] s15_5=zO_j5 m:=
 tq (g:=fun J=>some true) (by rfl)
theorem zO_l2_eq m:∀M2 x0 x1 x2,l15 jn m w15_0 [] M2 (s15_4 x0 x1 x2)=zO_l2 m M2 x0 x1 x2
 |0,_,_,_=>rfl
 | M2+1,x0,x1,x2=>
   tl (g:=fun J=>(bif (decide (x2<(List.length x0:Int))) then
  (jj J 0 6 0 (s15_4 x0 x1 x2) (e15 J m w15_2 [M2]))
   else
  (jj J 0 8 0 s15_5 (e15 J m [1,1,1] [])))) (by simp only[jj_eq,zO_j3_eq m M2 (zO_l2 m M2) (zO_l2_eq m M2),zO_j5_eq m];rfl)
theorem zO_j1_eq m x0 x1 x2:e15 jn m [1,1,0,1] [] (s15_4 x0 x1 x2)=zO_j1 m x0 x1 x2:=
 tq (g:=fun J=>(jj J 1 4 (Nat.succ m) (s15_4 x0 x1 x2) (l15 J m w15_0 [] (Nat.succ m)))) (by simp only[jj_eq,zO_l2_eq m];rfl)
theorem zO_j0_eq m x0 x1:e15 jn m [1,1] [] (s15_0 x0 x1)=zO_j0 m x0 x1:=
 tq (g:=fun J=>(jj J 0 4 0 (s15_4 x0 x1 0) (e15 J m [1,1,0,1] []))) (by simp only[jj_eq,zO_j1_eq m];rfl)
theorem zO_eq m a0 a1:e15 jn m [] [] ⟨[(.dat 38 (.lst a0)),(.dat 38 (.lst a1))],[],0⟩=zO (m+1) a0 a1:=
 tq (g:=fun J=>(bif ((List.length a0:Int) !=(List.length a1:Int)) then
  some false
   else
  (jj J 0 3 0 (s15_0 a0 a1) (e15 J m [1,1] [])))) (by simp only[jj_eq,zO_j0_eq m];rfl)
def w24_0:List Nat:=[1,1,0,1,0]
def w24_3:List Nat:=[1,1,0,1,0,0,1]
def w24_1:List Nat:=w24_3++[1]
def w24_2:List Nat:=w24_3++[0,0,1]
noncomputable def e24 (J:Nat→Nat→Nat→St→Option Bool→Option Bool) (m:Nat) (p ms:List Nat) (σ:St):=evAt Tryz.prog env (ct m) J (m+1) 28 39 Tryz.f28 d13 p ms σ
noncomputable def l24 (J:Nat→Nat→Nat→St→Option Bool→Option Bool) (m:Nat) (p ms:List Nat) (M:Nat) (σ:St):=loopAt Tryz.prog env (ct m) J (m+1) 28 39 Tryz.f28 d13 p ms M σ
noncomputable def s24_6 (x0:ByteArray) (x1:Int):St:=⟨tsOf [(0,(.dat 9 (.str x0))),(3,(.dat 3 (.int x1)))],[],0⟩
noncomputable def s24_5 (x0:ByteArray) (x1:Int) (x2:Bool):St:=⟨tsOf [(0,(.dat 9 (.str x0))),(3,(.dat 3 (.int x1))),(38,(.dat 4 (.bool x2)))],[],0⟩
noncomputable def s24_7:St:=⟨tsOf [],[],0⟩
noncomputable def s24_1 (x0:ByteArray):St:=⟨tsOf [(0,(.dat 9 (.str x0)))],[],0⟩
noncomputable def s24_0 (x0:ByteArray) (x1:Bool):St:=⟨tsOf [(0,(.dat 9 (.str x0))),(16,(.dat 4 (.bool x1)))],[],0⟩
abbrev H24_3 (m M3:Nat) (rec3:ByteArray→Int→Option Bool):Prop:=∀x0 x1,l24 jn m w24_0 [] M3 (s24_6 x0 x1)=rec3 x0 x1
theorem qT_j6_eq m M3 rec3 (h3:H24_3 m M3 rec3) x0 x1:e24 jn m w24_1 [M3] (s24_6 x0 x1)=qT_j6 m rec3 x0 x1:=
 tq (g:=fun J=>(jj J 1 4 M3 (s24_6 x0 (IntKind.wrap .i64 (x1+1))) (l24 J m w24_0 [] M3))) (by simp only[jj_eq,h3];rfl)
theorem qT_j5_eq m M3 rec3 (h3:H24_3 m M3 rec3) x0 x1 x2:e24 jn m w24_2 [M3] (s24_5 x0 x1 x2)=qT_j5 m rec3 x0 x1 x2:=
 tq (g:=fun J=>(bif x2 then
  some false
   else
  (jj J 0 5 0 (s24_6 x0 x1) (e24 J m w24_1 [M3])))) (by simp only[jj_eq,qT_j6_eq m M3 rec3 h3];rfl)
theorem qT_j4_eq m M3 rec3 (h3:H24_3 m M3 rec3) x0 x1:e24 jn m w24_3 [M3] (s24_6 x0 x1)=qT_j4 m rec3 x0 x1:=
 tq (g:=fun J=>((idxS x0 x1).bind fun v0=>
  (bif (decide (v0<33)) then
  (jj J 0 7 0 (s24_5 x0 x1 true) (e24 J m w24_2 [M3]))
  else
  ((idxS x0 x1).bind fun v1=>
  (bif (decide (126<v1)) then
  (jj J 0 7 0 (s24_5 x0 x1 true) (e24 J m w24_2 [M3]))
  else
  ((idxS x0 x1).bind fun v2=>
  (jj J 0 7 0 (s24_5 x0 x1 (v2==46)) (e24 J m w24_2 [M3])))))))) (by simp only[jj_eq,qT_j5_eq m M3 rec3 h3];rfl)
theorem qT_j7_eq m:e24 jn m [1,1,1] [] s24_7=qT_j7 m:=
 tq (g:=fun J=>some true) (by rfl)
theorem qT_l3_eq m:∀M3 x0 x1,l24 jn m w24_0 [] M3 (s24_6 x0 x1)=qT_l3 m M3 x0 x1
 |0,_,_=>rfl
 | M3+1,x0,x1=>
   tl (g:=fun J=>(bif (decide (x1<(ByteArray.size x0:Int))) then
  (jj J 0 6 0 (s24_6 x0 x1) (e24 J m w24_3 [M3]))
   else
  (jj J 0 8 0 s24_7 (e24 J m [1,1,1] [])))) (by simp only[jj_eq,qT_j4_eq m M3 (qT_l3 m M3) (qT_l3_eq m M3),qT_j7_eq m];rfl)
theorem qT_j2_eq m x0 x1:e24 jn m [1,1,0,1] [] (s24_6 x0 x1)=qT_j2 m x0 x1:=
 tq (g:=fun J=>(jj J 1 4 (Nat.succ m) (s24_6 x0 x1) (l24 J m w24_0 [] (Nat.succ m)))) (by simp only[jj_eq,qT_l3_eq m];rfl)
theorem qT_j1_eq m x0:e24 jn m [1,1] [] (s24_1 x0)=qT_j1 m x0:=
 tq (g:=fun J=>(jj J 0 4 0 (s24_6 x0 0) (e24 J m [1,1,0,1] []))) (by simp only[jj_eq,qT_j2_eq m];rfl)
theorem qT_j0_eq m x0 x1:e24 jn m [1,0,1] [] (s24_0 x0 x1)=qT_j0 m x0 x1:=
 tq (g:=fun J=>(bif x1 then
  some false
   else
  (jj J 0 3 0 (s24_1 x0) (e24 J m [1,1] [])))) (by simp only[jj_eq,qT_j1_eq m];rfl)
theorem qT_eq m a0:e24 jn m [] [] ⟨[(.dat 9 (.str a0))],[],0⟩=qT (m+1) a0:=
 tq (g:=fun J=>(bif (decide ((ByteArray.size a0:Int)<1)) then
  (jj J 0 2 0 (s24_0 a0 true) (e24 J m [1,0,1] []))
   else
  (bif (decide (32<(ByteArray.size a0:Int))) then
  (jj J 0 2 0 (s24_0 a0 true) (e24 J m [1,0,1] []))
  else
  ((idxS a0 0).bind fun v3=>
  (jj J 0 2 0 (s24_0 a0 (v3==36)) (e24 J m [1,0,1] [])))))) (by simp only[jj_eq,qT_j0_eq m];rfl)
def w14_0:List Nat:=[1,1,0,1,0]
def w14_2:List Nat:=[1,1,0,1,0,0,1]
def w14_1:List Nat:=w14_2++[1]
noncomputable def e14 (J:Nat→Nat→Nat→St→Option Bool→Option Bool) (m:Nat) (p ms:List Nat) (σ:St):=evAt Tryz.prog env (ct m) J (m+1) 14 24 Tryz.f14 d13 p ms σ
noncomputable def l14 (J:Nat→Nat→Nat→St→Option Bool→Option Bool) (m:Nat) (p ms:List Nat) (M:Nat) (σ:St):=loopAt Tryz.prog env (ct m) J (m+1) 14 24 Tryz.f14 d13 p ms M σ
noncomputable def s14_5 (x0:List Dt) (x1:Int):St:=⟨tsOf [(0,(.dat 38 (.lst x0))),(3,(.dat 3 (.int x1)))],[],0⟩
noncomputable def s14_6:St:=⟨tsOf [],[],0⟩
noncomputable def s14_1 (x0:List Dt):St:=⟨tsOf [(0,(.dat 38 (.lst x0)))],[],0⟩
noncomputable def s14_0 (x0:List Dt) (x1:Bool):St:=⟨tsOf [(0,(.dat 38 (.lst x0))),(11,(.dat 4 (.bool x1)))],[],0⟩
abbrev H14_3 (m M3:Nat) (rec3:List Dt→Int→Option Bool):Prop:=∀x0 x1,l14 jn m w14_0 [] M3 (s14_5 x0 x1)=rec3 x0 x1
theorem zC_j5_eq m M3 rec3 (h3:H14_3 m M3 rec3) x0 x1:e14 jn m w14_1 [M3] (s14_5 x0 x1)=zC_j5 m rec3 x0 x1:=
 tq (g:=fun J=>(jj J 1 4 M3 (s14_5 x0 (IntKind.wrap .i64 (x1+1))) (l14 J m w14_0 [] M3))) (by simp only[jj_eq,h3];rfl)
theorem zC_j4_eq m M3 rec3 (h3:H14_3 m M3 rec3) x0 x1:e14 jn m w14_2 [M3] (s14_5 x0 x1)=zC_j4 m rec3 x0 x1:=
 tq (g:=fun J=>((idx x0 x1).bind fun v0=>
  ((qT m (Dt.toStr v0)).bind fun r1=>
  (bif (Bool.not r1) then
  some false
  else
  (jj J 0 5 0 (s14_5 x0 x1) (e14 J m w14_1 [M3])))))) (by simp only[jj_eq,zC_j5_eq m M3 rec3 h3];rfl)
theorem zC_j6_eq m:e14 jn m [1,1,1] [] s14_6=zC_j6 m:=
 tq (g:=fun J=>some true) (by rfl)
theorem zC_l3_eq m:∀M3 x0 x1,l14 jn m w14_0 [] M3 (s14_5 x0 x1)=zC_l3 m M3 x0 x1
 |0,_,_=>rfl
 | M3+1,x0,x1=>
   tl (g:=fun J=>(bif (decide (x1<(List.length x0:Int))) then
  (jj J 0 6 0 (s14_5 x0 x1) (e14 J m w14_2 [M3]))
   else
  (jj J 0 8 0 s14_6 (e14 J m [1,1,1] [])))) (by simp only[jj_eq,zC_j4_eq m M3 (zC_l3 m M3) (zC_l3_eq m M3),zC_j6_eq m];rfl)
theorem zC_j2_eq m x0 x1:e14 jn m [1,1,0,1] [] (s14_5 x0 x1)=zC_j2 m x0 x1:=
 tq (g:=fun J=>(jj J 1 4 (Nat.succ m) (s14_5 x0 x1) (l14 J m w14_0 [] (Nat.succ m)))) (by simp only[jj_eq,zC_l3_eq m];rfl)
theorem zC_j1_eq m x0:e14 jn m [1,1] [] (s14_1 x0)=zC_j1 m x0:=
 tq (g:=fun J=>(jj J 0 4 0 (s14_5 x0 0) (e14 J m [1,1,0,1] []))) (by simp only[jj_eq,zC_j2_eq m];rfl)
theorem zC_j0_eq m x0 x1:e14 jn m [1,0,1] [] (s14_0 x0 x1)=zC_j0 m x0 x1:=
 tq (g:=fun J=>(bif x1 then
  some false
   else
  (jj J 0 3 0 (s14_1 x0) (e14 J m [1,1] [])))) (by simp only[jj_eq,zC_j1_eq m];rfl)
theorem zC_eq m a0:e14 jn m [] [] ⟨[(.dat 38 (.lst a0))],[],0⟩=zC (m+1) a0:=
 tq (g:=fun J=>(bif (decide ((List.length a0:Int)<1)) then
  (jj J 0 2 0 (s14_0 a0 true) (e14 J m [1,0,1] []))
   else
  (jj J 0 2 0 (s14_0 a0 (decide (16<(List.length a0:Int)))) (e14 J m [1,0,1] [])))) (by simp only[jj_eq,zC_j0_eq m];rfl)
def w6_0:List Nat:=[1,1,0,1,0]
def w6_7:List Nat:=[1,1,0,1,0,0,1]
def w6_4:List Nat:=w6_7++[1]
def w6_6:List Nat:=w6_7++[0,0,1]
def w6_5:List Nat:=w6_6++[1]
def w6_1:List Nat:=w6_5++[0]
def w6_3:List Nat:=w6_1++[0,1]
def w6_2:List Nat:=w6_3++[1]
noncomputable def e6 (J:Nat→Nat→Nat→St→Option Int→Option Int) (m:Nat) (p ms:List Nat) (σ:St):=evAt Tryz.prog env (ct m) J (m+1) 6 37 Tryz.f6 d6 p ms σ
noncomputable def l6 (J:Nat→Nat→Nat→St→Option Int→Option Int) (m:Nat) (p ms:List Nat) (M:Nat) (σ:St):=loopAt Tryz.prog env (ct m) J (m+1) 6 37 Tryz.f6 d6 p ms M σ
noncomputable def s6_8 (x0:List Dt) (x1 x2:Int):St:=⟨tsOf [(0,(.dat 22 (.lst x0))),(3,(.dat 3 (.int x1))),(4,(.dat 3 (.int x2)))],[],0⟩
noncomputable def s6_9 (x0:List Dt) (x1:Int):St:=⟨tsOf [(0,(.dat 22 (.lst x0))),(3,(.dat 3 (.int x1)))],[],0⟩
noncomputable def s6_10:St:=⟨tsOf [],[],0⟩
noncomputable def s6_0 (x0:List Dt):St:=⟨tsOf [(0,(.dat 22 (.lst x0)))],[],0⟩
abbrev H6_2 (m M2:Nat) (rec2:List Dt→Int→Option Int):Prop:=∀x0 x1,l6 jn m w6_0 [] M2 (s6_9 x0 x1)=rec2 x0 x1
abbrev H6_6 (m M2 M6:Nat) (rec6:List Dt→Int→Int→Option Int):Prop:=∀x0 x1 x2,l6 jn m w6_1 [M2] M6 (s6_8 x0 x1 x2)=rec6 x0 x1 x2
theorem qS_j8_eq m M2 rec2 (h2:H6_2 m M2 rec2) M6 rec6 (h6:H6_6 m M2 M6 rec6) x0 x1 x2:e6 jn m w6_2 [M2,M6] (s6_8 x0 x1 x2)=qS_j8 m rec2 rec6 x0 x1 x2:=
 tq (g:=fun J=>(jj J 1 9 M6 (s6_8 x0 x1 (IntKind.wrap .i64 (x2+1))) (l6 J m w6_1 [M2] M6))) (by simp only[jj_eq,h6];rfl)
theorem qS_j7_eq m M2 rec2 (h2:H6_2 m M2 rec2) M6 rec6 (h6:H6_6 m M2 M6 rec6) x0 x1 x2:e6 jn m w6_3 [M2,M6] (s6_8 x0 x1 x2)=qS_j7 m rec2 rec6 x0 x1 x2:=
 tq (g:=fun J=>((idx x0 x1).bind fun v2=>
  ((idx x0 x2).bind fun v3=>
  ((zO m (Dt.L v2 0) (Dt.L v3 0)).bind fun r4=>
  (bif r4 then
  some 12
  else
  (jj J 0 10 0 (s6_8 x0 x1 x2) (e6 J m w6_2 [M2,M6]))))))) (by simp only[jj_eq,qS_j8_eq m M2 rec2 h2 M6 rec6 h6];rfl)
theorem qS_j9_eq m M2 rec2 (h2:H6_2 m M2 rec2) x0 x1:e6 jn m w6_4 [M2] (s6_9 x0 x1)=qS_j9 m rec2 x0 x1:=
 tq (g:=fun J=>(jj J 1 4 M2 (s6_9 x0 (IntKind.wrap .i64 (x1+1))) (l6 J m w6_0 [] M2))) (by simp only[jj_eq,h2];rfl)
theorem qS_l6_eq m M2 rec2 (h2:H6_2 m M2 rec2):∀M6 x0 x1 x2,l6 jn m w6_1 [M2] M6 (s6_8 x0 x1 x2)=qS_l6 m rec2 M6 x0 x1 x2
 |0,_,_,_=>rfl
 | M6+1,x0,x1,x2=>
   tl (g:=fun J=>(bif (decide (x2<x1)) then
  (jj J 0 11 0 (s6_8 x0 x1 x2) (e6 J m w6_3 [M2,M6]))
   else
  (jj J 0 5 0 (s6_9 x0 x1) (e6 J m w6_4 [M2])))) (by simp only[jj_eq,qS_j7_eq m M2 rec2 h2 M6 (qS_l6 m rec2 M6) (qS_l6_eq m M2 rec2 h2 M6),qS_j9_eq m M2 rec2 h2];rfl)
theorem qS_j5_eq m M2 rec2 (h2:H6_2 m M2 rec2) x0 x1 x2:e6 jn m w6_5 [M2] (s6_8 x0 x1 x2)=qS_j5 m rec2 x0 x1 x2:=
 tq (g:=fun J=>(jj J 1 9 (Nat.succ m) (s6_8 x0 x1 x2) (l6 J m w6_1 [M2] (Nat.succ m)))) (by simp only[jj_eq,qS_l6_eq m M2 rec2 h2];rfl)
theorem qS_j4_eq m M2 rec2 (h2:H6_2 m M2 rec2) x0 x1:e6 jn m w6_6 [M2] (s6_9 x0 x1)=qS_j4 m rec2 x0 x1:=
 tq (g:=fun J=>(jj J 0 9 0 (s6_8 x0 x1 0) (e6 J m w6_5 [M2]))) (by simp only[jj_eq,qS_j5_eq m M2 rec2 h2];rfl)
theorem qS_j3_eq m M2 rec2 (h2:H6_2 m M2 rec2) x0 x1:e6 jn m w6_7 [M2] (s6_9 x0 x1)=qS_j3 m rec2 x0 x1:=
 tq (g:=fun J=>((idx x0 x1).bind fun v0=>
  ((zC m (Dt.L v0 0)).bind fun r1=>
  (bif (Bool.not r1) then
  some 10
  else
  (jj J 0 8 0 (s6_9 x0 x1) (e6 J m w6_6 [M2])))))) (by simp only[jj_eq,qS_j4_eq m M2 rec2 h2];rfl)
theorem qS_j10_eq m:e6 jn m [1,1,1] [] s6_10=qS_j10 m:=
 tq (g:=fun J=>some 0) (by rfl)
theorem qS_l2_eq m:∀M2 x0 x1,l6 jn m w6_0 [] M2 (s6_9 x0 x1)=qS_l2 m M2 x0 x1
 |0,_,_=>rfl
 | M2+1,x0,x1=>
   tl (g:=fun J=>(bif (decide (x1<(List.length x0:Int))) then
  (jj J 0 6 0 (s6_9 x0 x1) (e6 J m w6_7 [M2]))
   else
  (jj J 0 13 0 s6_10 (e6 J m [1,1,1] [])))) (by simp only[jj_eq,qS_j3_eq m M2 (qS_l2 m M2) (qS_l2_eq m M2),qS_j10_eq m];rfl)
theorem qS_j1_eq m x0 x1:e6 jn m [1,1,0,1] [] (s6_9 x0 x1)=qS_j1 m x0 x1:=
 tq (g:=fun J=>(jj J 1 4 (Nat.succ m) (s6_9 x0 x1) (l6 J m w6_0 [] (Nat.succ m)))) (by simp only[jj_eq,qS_l2_eq m];rfl)
theorem qS_j0_eq m x0:e6 jn m [1,1] [] (s6_0 x0)=qS_j0 m x0:=
 tq (g:=fun J=>(jj J 0 4 0 (s6_9 x0 0) (e6 J m [1,1,0,1] []))) (by simp only[jj_eq,qS_j1_eq m];rfl)
theorem qS_eq m a0:e6 jn m [] [] ⟨[(.dat 22 (.lst a0))],[],0⟩=qS (m+1) a0:=
 tq (g:=fun J=>(bif (decide (8<(List.length a0:Int))) then
  some 2
   else
  (jj J 0 3 0 (s6_0 a0) (e6 J m [1,1] [])))) (by simp only[jj_eq,qS_j0_eq m];rfl)
def w39_0:List Nat:=[1,0,0,1,1]
noncomputable def e39 (J:Nat→Nat→Nat→St→Option (List Dt×List Dt)→Option (List Dt×List Dt)) (m:Nat) (p ms:List Nat) (σ:St):=evAt Tryz.prog env (ct m) J (m+1) 135 38 Tryz.f135 d39 p ms σ
noncomputable def l39 (J:Nat→Nat→Nat→St→Option (List Dt×List Dt)→Option (List Dt×List Dt)) (m:Nat) (p ms:List Nat) (M:Nat) (σ:St):=loopAt Tryz.prog env (ct m) J (m+1) 135 38 Tryz.f135 d39 p ms M σ
noncomputable def s39_3 (x0 x1 x2 x3:Int) (x4 x5:List Dt):St:=⟨tsOf [(0,(.row 0)),(1,(.dat 3 (.int x0))),(2,(.dat 3 (.int x1))),(3,(.dat 3 (.int x2))),(10,(.dat 3 (.int x3)))],[(.row 91 x4),(.box 22 (.dat 22 (.lst x5)))],2⟩
abbrev H39_1 (m M1:Nat) (rec1:Int→Int→Int→Int→List Dt→List Dt→Option (List Dt×List Dt)):Prop:=∀x0 x1 x2 x3 x4 x5,l39 jn m [1,0] [] M1 (s39_3 x0 x1 x2 x3 x4 x5)=rec1 x0 x1 x2 x3 x4 x5
theorem i39_j3_eq m M1 rec1 (h1:H39_1 m M1 rec1) x0 x1 x2 x3 x4 x5:e39 jn m w39_0 [M1] (s39_3 x0 x1 x2 x3 x4 x5)=i39_j3 m rec1 x0 x1 x2 x3 x4 x5:=
 tq (g:=fun J=>(jj J 1 1 M1 (s39_3 x0 x1 x2 (IntKind.wrap .i64 (x3+1)) x4 x5) (l39 J m [1,0] [] M1))) (by simp only[jj_eq,h1];rfl)
theorem i39_j2_eq m M1 rec1 (h1:H39_1 m M1 rec1) x0 x1 x2 x3 x4 x5:e39 jn m [1,0,0,1] [M1] (s39_3 x0 x1 x2 x3 x4 x5)=i39_j2 m rec1 x0 x1 x2 x3 x4 x5:=
 tq (g:=fun J=>((inL x4 (IntKind.wrap .i64 (x1+x3))).bind fun v0=>
  ((x4[(Int.toNat (IntKind.wrap .i64 (x1+x3)))]?).bind fun v1=>
  ((inL x4 (IntKind.wrap .i64 (x0+x3))).bind fun v2=>
  ((x4[(Int.toNat (IntKind.wrap .i64 (x0+x3)))]?).bind fun v3=>
  ((inL x4 (IntKind.wrap .i64 (x0+x3))).bind fun v4=>
  ((x4[(Int.toNat (IntKind.wrap .i64 (x0+x3)))]?).bind fun v5=>
  ((inL (List.set x4 (Int.toNat (IntKind.wrap .i64 (x0+x3))) v1) (IntKind.wrap .i64 (x1+x3))).bind fun v6=>
  (((List.set x4 (Int.toNat (IntKind.wrap .i64 (x0+x3))) v1)[(Int.toNat (IntKind.wrap .i64 (x1+x3)))]?).bind fun v7=>
  (jj J 0 2 0 (s39_3 x0 x1 x2 x3 (List.set (List.set x4 (Int.toNat (IntKind.wrap .i64 (x0+x3))) v1) (Int.toNat (IntKind.wrap .i64 (x1+x3))) v3) x5) (e39 J m w39_0 [M1]))))))))))) (by simp only[jj_eq,i39_j3_eq m M1 rec1 h1];rfl)
theorem i39_l1_eq m:∀M1 x0 x1 x2 x3 x4 x5,l39 jn m [1,0] [] M1 (s39_3 x0 x1 x2 x3 x4 x5)=i39_l1 m M1 x0 x1 x2 x3 x4 x5
 |0,_,_,_,_,_,_=>rfl
 | M1+1,x0,x1,x2,x3,x4,x5=>
   tl (g:=fun J=>(bif (decide (x3<x2)) then
  (jj J 0 3 0 (s39_3 x0 x1 x2 x3 x4 x5) (e39 J m [1,0,0,1] [M1]))
   else
  some (x4,x5))) (by simp only[jj_eq,i39_j2_eq m M1 (i39_l1 m M1) (i39_l1_eq m M1)];rfl)
theorem i39_j0_eq m x0 x1 x2 x3 x4 x5:e39 jn m [1] [] (s39_3 x0 x1 x2 x3 x4 x5)=i39_j0 m x0 x1 x2 x3 x4 x5:=
 tq (g:=fun J=>(jj J 1 1 (Nat.succ m) (s39_3 x0 x1 x2 x3 x4 x5) (l39 J m [1,0] [] (Nat.succ m)))) (by simp only[jj_eq,i39_l1_eq m];rfl)
theorem i39_eq m a0 a1 a2 a3 a4:e39 jn m [] [] ⟨[(.row 0),(.dat 3 (.int a0)),(.dat 3 (.int a1)),(.dat 3 (.int a2)),(.fn 50 [(.ptr 1 [] 0)])],[(.row 91 a3),(.box 22 (.dat 22 (.lst a4)))],2⟩=i39 (m+1) a0 a1 a2 a3 a4:=
 tq (g:=fun J=>(jj J 0 1 0 (s39_3 a0 a1 a2 0 a3 a4) (e39 J m [1] []))) (by simp only[jj_eq,i39_j0_eq m];rfl)
def w38_0:List Nat:=[1,1,0,0,0,1]
noncomputable def e38 (J:Nat→Nat→Nat→St→Option (List Dt×List Dt)→Option (List Dt×List Dt)) (m:Nat) (p ms:List Nat) (σ:St):=evAt Tryz.prog env (ct m) J (m+1) 117 58 Tryz.f117 d39 p ms σ
noncomputable def l38 (J:Nat→Nat→Nat→St→Option (List Dt×List Dt)→Option (List Dt×List Dt)) (m:Nat) (p ms:List Nat) (M:Nat) (σ:St):=loopAt Tryz.prog env (ct m) J (m+1) 117 58 Tryz.f117 d39 p ms M σ
noncomputable def s38_2 (x0 x1 x2:Int) (x3 x4:List Dt):St:=⟨tsOf [(0,(.row 0)),(2,(.dat 3 (.int x0))),(4,(.fn 50 [(.ptr 1 [] 0)])),(10,(.dat 3 (.int x1))),(11,(.dat 3 (.int x2)))],[(.row 91 x3),(.box 22 (.dat 22 (.lst x4)))],2⟩
noncomputable def s38_3 (x0 x1:Int) (x2 x3:List Dt):St:=⟨tsOf [(0,(.row 0)),(2,(.dat 3 (.int x0))),(4,(.fn 50 [(.ptr 1 [] 0)])),(10,(.dat 3 (.int x1)))],[(.row 91 x2),(.box 22 (.dat 22 (.lst x3)))],2⟩
abbrev H38_1 (m M1:Nat) (rec1:Int→Int→Int→List Dt→List Dt→Option (List Dt×List Dt)):Prop:=∀x0 x1 x2 x3 x4,l38 jn m [1,1,0,0] [] M1 (s38_2 x0 x1 x2 x3 x4)=rec1 x0 x1 x2 x3 x4
theorem i38_j2_eq m M1 rec1 (h1:H38_1 m M1 rec1) x0 x1 x2 x3 x4:e38 jn m w38_0 [M1] (s38_2 x0 x1 x2 x3 x4)=i38_j2 m rec1 x0 x1 x2 x3 x4:=
 tq (g:=fun J=>(bif (decide (x2<x1)) then
  ((i39 m (IntKind.wrap .i64 (x0-x1)) x0 x2 x3 x4).bind fun r0=>
  (jj J 1 2 M1 (s38_2 x0 (IntKind.wrap .i64 (x1-x2)) x2 r0.1 r0.2) (l38 J m [1,1,0,0] [] M1)))
   else
  ((i39 m (IntKind.wrap .i64 (x0-x1)) (IntKind.wrap .i64 ((IntKind.wrap .i64 (x0+x2))-x1)) x1 x3 x4).bind fun r1=>
  (jj J 1 2 M1 (s38_2 x0 x1 (IntKind.wrap .i64 (x2-x1)) r1.1 r1.2) (l38 J m [1,1,0,0] [] M1))))) (by simp only[jj_eq,h1];rfl)
theorem i38_j3_eq m x0 x1 x2 x3:e38 jn m [1,1,1] [] (s38_3 x0 x1 x2 x3)=i38_j3 m x0 x1 x2 x3:=
 tq (g:=fun J=>((i39 m (IntKind.wrap .i64 (x0-x1)) x0 x1 x2 x3).bind fun r2=>
  some (r2.1,r2.2))) (by rfl)
theorem i38_l1_eq m:∀M1 x0 x1 x2 x3 x4,l38 jn m [1,1,0,0] [] M1 (s38_2 x0 x1 x2 x3 x4)=i38_l1 m M1 x0 x1 x2 x3 x4
 |0,_,_,_,_,_=>rfl
 | M1+1,x0,x1,x2,x3,x4=>
   tl (g:=fun J=>(bif (x1 !=x2) then
  (jj J 0 3 0 (s38_2 x0 x1 x2 x3 x4) (e38 J m w38_0 [M1]))
   else
  (jj J 0 8 0 (s38_3 x0 x1 x3 x4) (e38 J m [1,1,1] [])))) (by simp only[jj_eq,i38_j2_eq m M1 (i38_l1 m M1) (i38_l1_eq m M1),i38_j3_eq m];rfl)
theorem i38_j0_eq m x0 x1 x2 x3 x4:e38 jn m [1,1] [] (s38_2 x0 x1 x2 x3 x4)=i38_j0 m x0 x1 x2 x3 x4:=
 tq (g:=fun J=>(jj J 1 2 (Nat.succ m) (s38_2 x0 x1 x2 x3 x4) (l38 J m [1,1,0,0] [] (Nat.succ m)))) (by simp only[jj_eq,i38_l1_eq m];rfl)
theorem i38_eq m a0 a1 a2 a3 a4:e38 jn m [] [] ⟨[(.row 0),(.dat 3 (.int a0)),(.dat 3 (.int a1)),(.dat 3 (.int a2)),(.fn 50 [(.ptr 1 [] 0)])],[(.row 91 a3),(.box 22 (.dat 22 (.lst a4)))],2⟩=i38 (m+1) a0 a1 a2 a3 a4:=
 tq (g:=fun J=>(jj J 0 2 0 (s38_2 a1 (IntKind.wrap .i64 (a1-a0)) (IntKind.wrap .i64 (a2-a1)) a3 a4) (e38 J m [1,1] []))) (by simp only[jj_eq,i38_j0_eq m];rfl)
def w40_7:List Nat:=[1,1,0,1,0,1,1]
def w40_0:List Nat:=w40_7++[0]
def w40_6:List Nat:=[1,1,1,0,1,0,1,1]
def w40_3:List Nat:=w40_6++[0]
def w40_2:List Nat:=w40_0++[0,1,1]
def w40_1:List Nat:=w40_2++[1]
def w40_5:List Nat:=w40_3++[0,1,1]
def w40_4:List Nat:=w40_5++[1]
noncomputable def e40 (J:Nat→Nat→Nat→St→Option Dt→Option Dt) (m:Nat) (p ms:List Nat) (σ:St):=evAt Tryz.prog env (ct m) J (m+1) 52 68 Tryz.f52 d40 p ms σ
noncomputable def l40 (J:Nat→Nat→Nat→St→Option Dt→Option Dt) (m:Nat) (p ms:List Nat) (M:Nat) (σ:St):=loopAt Tryz.prog env (ct m) J (m+1) 52 68 Tryz.f52 d40 p ms M σ
noncomputable def s40_3 (x0:List Dt) (x1 x2:Int) (x3 x4:Dt) (x5 x6:Int) (x7:ByteArray) (x8:List Dt):St:=⟨tsOf [(1,(.ptr 0 [] 0)),(2,(.ptr 1 [] 0)),(3,(.ptr 2 [] 0)),(25,(.dat 23 (.lst x0))),(26,(.dat 3 (.int x1))),(27,(.dat 3 (.int x2)))],[(.box 36 (.dat 36 x3)),(.box 36 (.dat 36 x4)),(.box 36 (.agg 36 [(.dat 3 (.int x5)),(.dat 3 (.int x6)),(.dat 9 (.str x7)),(.row 3),(.nils 34)])),(.row 23 x8)],0⟩
noncomputable def s40_8 (x0:List Dt) (x1 x2:Int) (x3:Dt) (x4 x5:Int) (x6:ByteArray) (x7 x8:List Dt):St:=⟨tsOf [(2,(.ptr 0 [] 0)),(3,(.ptr 1 [] 0)),(49,(.dat 34 (.lst x0))),(50,(.dat 3 (.int x1))),(51,(.dat 3 (.int x2)))],[(.box 36 (.dat 36 x3)),(.box 36 (.agg 36 [(.dat 3 (.int x4)),(.dat 3 (.int x5)),(.dat 9 (.str x6)),(.row 2),(.row 3)])),(.row 23 x7),(.row 34 x8)],0⟩
noncomputable def s40_9 (x0:Dt) (x1 x2:Int) (x3:ByteArray) (x4 x5:List Dt):St:=⟨tsOf [(2,(.ptr 0 [] 0)),(3,(.ptr 1 [] 0))],[(.box 36 (.dat 36 x0)),(.box 36 (.agg 36 [(.dat 3 (.int x1)),(.dat 3 (.int x2)),(.dat 9 (.str x3)),(.row 2),(.row 3)])),(.row 23 x4),(.row 34 x5)],0⟩
noncomputable def s40_10 (x0:Dt) (x1 x2:Int) (x3:ByteArray) (x4:List Dt):St:=⟨tsOf [(2,(.ptr 0 [] 0)),(3,(.ptr 1 [] 0))],[(.box 36 (.dat 36 x0)),(.box 36 (.agg 36 [(.dat 3 (.int x1)),(.dat 3 (.int x2)),(.dat 9 (.str x3)),(.row 2),(.nils 34)])),(.row 23 x4)],0⟩
noncomputable def s40_4 (x0 x1:Dt) (x2 x3:Int) (x4:ByteArray) (x5:List Dt):St:=⟨tsOf [(1,(.ptr 0 [] 0)),(2,(.ptr 1 [] 0)),(3,(.ptr 2 [] 0))],[(.box 36 (.dat 36 x0)),(.box 36 (.dat 36 x1)),(.box 36 (.agg 36 [(.dat 3 (.int x2)),(.dat 3 (.int x3)),(.dat 9 (.str x4)),(.row 3),(.nils 34)])),(.row 23 x5)],0⟩
noncomputable def s40_15 (x0:List Dt) (x1 x2:Int) (x3:Dt) (x4 x5:Int) (x6:ByteArray) (x7 x8:List Dt):St:=⟨tsOf [(2,(.ptr 0 [] 0)),(3,(.ptr 1 [] 0)),(49,(.dat 34 (.lst x0))),(50,(.dat 3 (.int x1))),(51,(.dat 3 (.int x2)))],[(.box 36 (.dat 36 x3)),(.box 36 (.agg 36 [(.dat 3 (.int x4)),(.dat 3 (.int x5)),(.dat 9 (.str x6)),(.dat 23 (.lst x7)),(.row 2)])),(.row 34 x8)],0⟩
noncomputable def s40_16 (x0:Dt) (x1 x2:Int) (x3:ByteArray) (x4 x5:List Dt):St:=⟨tsOf [(2,(.ptr 0 [] 0)),(3,(.ptr 1 [] 0))],[(.box 36 (.dat 36 x0)),(.box 36 (.agg 36 [(.dat 3 (.int x1)),(.dat 3 (.int x2)),(.dat 9 (.str x3)),(.dat 23 (.lst x4)),(.row 2)])),(.row 34 x5)],0⟩
noncomputable def s40_17 (x0 x1:Dt):St:=⟨tsOf [(2,(.ptr 0 [] 0)),(3,(.ptr 1 [] 0))],[(.box 36 (.dat 36 x0)),(.box 36 (.dat 36 x1))],0⟩
noncomputable def s40_11 (x0 x1 x2:Dt):St:=⟨tsOf [(1,(.ptr 0 [] 0)),(2,(.ptr 1 [] 0)),(3,(.ptr 2 [] 0))],[(.box 36 (.dat 36 x0)),(.box 36 (.dat 36 x1)),(.box 36 (.dat 36 x2))],0⟩
abbrev H40_1 (m M1:Nat) (rec1:List Dt→Int→Int→Dt→Dt→Int→Int→ByteArray→List Dt→Option Dt):Prop:=∀x0 x1 x2 x3 x4 x5 x6 x7 x8,l40 jn m w40_0 [] M1 (s40_3 x0 x1 x2 x3 x4 x5 x6 x7 x8)=rec1 x0 x1 x2 x3 x4 x5 x6 x7 x8
theorem qH_j3_eq m M1 rec1 (h1:H40_1 m M1 rec1) x0 x1 x2 x3 x4 x5 x6 x7 x8:e40 jn m w40_1 [M1] (s40_3 x0 x1 x2 x3 x4 x5 x6 x7 x8)=qH_j3 m (qH m) rec1 x0 x1 x2 x3 x4 x5 x6 x7 x8:=
 tq (g:=fun J=>(jj J 1 5 M1 (s40_3 x0 x1 (IntKind.wrap .i64 (x2+1)) x3 x4 x5 x6 x7 x8) (l40 J m w40_0 [] M1))) (by simp only[jj_eq,h1];rfl)
theorem qH_j2_eq m M1 rec1 (h1:H40_1 m M1 rec1) x0 x1 x2 x3 x4 x5 x6 x7 x8:e40 jn m w40_2 [M1] (s40_3 x0 x1 x2 x3 x4 x5 x6 x7 x8)=qH_j2 m (qH m) rec1 x0 x1 x2 x3 x4 x5 x6 x7 x8:=
 tq (g:=fun J=>((idx x0 x2).bind fun v1=>
  ((qH m v1).bind fun r2=>
  ((inL x8 x2).bind fun v3=>
  ((x8[(Int.toNat x2)]?).bind fun v4=>
  (jj J 0 8 0 (s40_3 x0 x1 x2 x3 x4 x5 x6 x7 (List.set x8 (Int.toNat x2) r2)) (e40 J m w40_1 [M1]))))))) (by simp only[jj_eq,qH_j3_eq m M1 rec1 h1];rfl)
abbrev H40_6 (m M6:Nat) (rec6:List Dt→Int→Int→Dt→Int→Int→ByteArray→List Dt→List Dt→Option Dt):Prop:=∀x0 x1 x2 x3 x4 x5 x6 x7 x8,l40 jn m w40_3 [] M6 (s40_8 x0 x1 x2 x3 x4 x5 x6 x7 x8)=rec6 x0 x1 x2 x3 x4 x5 x6 x7 x8
theorem qH_j8_eq m M6 rec6 (h6:H40_6 m M6 rec6) x0 x1 x2 x3 x4 x5 x6 x7 x8:e40 jn m w40_4 [M6] (s40_8 x0 x1 x2 x3 x4 x5 x6 x7 x8)=qH_j8 m (qH m) rec6 x0 x1 x2 x3 x4 x5 x6 x7 x8:=
 tq (g:=fun J=>(jj J 1 12 M6 (s40_8 x0 x1 (IntKind.wrap .i64 (x2+1)) x3 x4 x5 x6 x7 x8) (l40 J m w40_3 [] M6))) (by simp only[jj_eq,h6];rfl)
theorem qH_j7_eq m M6 rec6 (h6:H40_6 m M6 rec6) x0 x1 x2 x3 x4 x5 x6 x7 x8:e40 jn m w40_5 [M6] (s40_8 x0 x1 x2 x3 x4 x5 x6 x7 x8)=qH_j7 m (qH m) rec6 x0 x1 x2 x3 x4 x5 x6 x7 x8:=
 tq (g:=fun J=>((idx x0 x2).bind fun v6=>
  ((qH m (Dt.fld v6 1)).bind fun r7=>
  ((inL x8 x2).bind fun v8=>
  ((x8[(Int.toNat x2)]?).bind fun v9=>
  (jj J 0 15 0 (s40_8 x0 x1 x2 x3 x4 x5 x6 x7 (List.set x8 (Int.toNat x2) (Dt.agg [(Dt.str (Dt.S v6 0)),r7]))) (e40 J m w40_4 [M6]))))))) (by simp only[jj_eq,qH_j8_eq m M6 rec6 h6];rfl)
theorem qH_j9_eq m x0 x1 x2 x3 x4 x5:e40 jn m [1,1,1,1] [] (s40_9 x0 x1 x2 x3 x4 x5)=qH_j9 m (qH m) x0 x1 x2 x3 x4 x5:=
 tq (g:=fun J=>some (Dt.agg [(Dt.int x1),(Dt.int x2),(Dt.str x3),(Dt.lst x4),(Dt.lst x5)])) (by rfl)
theorem qH_l6_eq m:∀M6 x0 x1 x2 x3 x4 x5 x6 x7 x8,l40 jn m w40_3 [] M6 (s40_8 x0 x1 x2 x3 x4 x5 x6 x7 x8)=qH_l6 m (qH m) M6 x0 x1 x2 x3 x4 x5 x6 x7 x8
 |0,_,_,_,_,_,_,_,_,_=>rfl
 | M6+1,x0,x1,x2,x3,x4,x5,x6,x7,x8=>
   tl (g:=fun J=>(bif (decide (x2<x1)) then
  (jj J 0 13 0 (s40_8 x0 x1 x2 x3 x4 x5 x6 x7 x8) (e40 J m w40_5 [M6]))
   else
  (jj J 0 16 0 (s40_9 x3 x4 x5 x6 x7 x8) (e40 J m [1,1,1,1] [])))) (by simp only[jj_eq,qH_j7_eq m M6 (qH_l6 m (qH m) M6) (qH_l6_eq m M6),qH_j9_eq m];rfl)
theorem qH_j5_eq m x0 x1 x2 x3 x4 x5 x6 x7 x8:e40 jn m w40_6 [] (s40_8 x0 x1 x2 x3 x4 x5 x6 x7 x8)=qH_j5 m (qH m) x0 x1 x2 x3 x4 x5 x6 x7 x8:=
 tq (g:=fun J=>(jj J 1 12 (Nat.succ m) (s40_8 x0 x1 x2 x3 x4 x5 x6 x7 x8) (l40 J m w40_3 [] (Nat.succ m)))) (by simp only[jj_eq,qH_l6_eq m];rfl)
theorem qH_j10_eq m x0 x1 x2 x3 x4:e40 jn m [1,1,1,1] [] (s40_10 x0 x1 x2 x3 x4)=qH_j10 m (qH m) x0 x1 x2 x3 x4:=
 tq (g:=fun J=>some (Dt.agg [(Dt.int x1),(Dt.int x2),(Dt.str x3),(Dt.lst x4),(Dt.lst [])])) (by rfl)
theorem qH_j4_eq m x0 x1 x2 x3 x4 x5:e40 jn m [1,1,1] [] (s40_4 x0 x1 x2 x3 x4 x5)=qH_j4 m (qH m) x0 x1 x2 x3 x4 x5:=
 tq (g:=fun J=>(bif (decide (0<(List.length (Dt.L x0 4):Int))) then
  ((mkL (List.length (Dt.L x0 4):Int) (List.length (Dt.L x0 4):Int) kzcda49).bind fun v5=>
  (jj J 0 12 0 (s40_8 (Dt.L x0 4) (List.length (Dt.L x0 4):Int) 0 x1 x2 x3 x4 x5 v5) (e40 J m w40_6 [])))
   else
  (jj J 0 16 0 (s40_10 x1 x2 x3 x4 x5) (e40 J m [1,1,1,1] [])))) (by simp only[jj_eq,qH_j5_eq m,qH_j10_eq m];rfl)
theorem qH_l1_eq m:∀M1 x0 x1 x2 x3 x4 x5 x6 x7 x8,l40 jn m w40_0 [] M1 (s40_3 x0 x1 x2 x3 x4 x5 x6 x7 x8)=qH_l1 m (qH m) M1 x0 x1 x2 x3 x4 x5 x6 x7 x8
 |0,_,_,_,_,_,_,_,_,_=>rfl
 | M1+1,x0,x1,x2,x3,x4,x5,x6,x7,x8=>
   tl (g:=fun J=>(bif (decide (x2<x1)) then
  (jj J 0 6 0 (s40_3 x0 x1 x2 x3 x4 x5 x6 x7 x8) (e40 J m w40_2 [M1]))
   else
  (jj J 0 9 0 (s40_4 x3 x4 x5 x6 x7 x8) (e40 J m [1,1,1] [])))) (by simp only[jj_eq,qH_j2_eq m M1 (qH_l1 m (qH m) M1) (qH_l1_eq m M1),qH_j4_eq m];rfl)
theorem qH_j0_eq m x0 x1 x2 x3 x4 x5 x6 x7 x8:e40 jn m w40_7 [] (s40_3 x0 x1 x2 x3 x4 x5 x6 x7 x8)=qH_j0 m (qH m) x0 x1 x2 x3 x4 x5 x6 x7 x8:=
 tq (g:=fun J=>(jj J 1 5 (Nat.succ m) (s40_3 x0 x1 x2 x3 x4 x5 x6 x7 x8) (l40 J m w40_0 [] (Nat.succ m)))) (by simp only[jj_eq,qH_l1_eq m];rfl)
abbrev H40_13 (m M13:Nat) (rec13:List Dt→Int→Int→Dt→Int→Int→ByteArray→List Dt→List Dt→Option Dt):Prop:=∀x0 x1 x2 x3 x4 x5 x6 x7 x8,l40 jn m w40_3 [] M13 (s40_15 x0 x1 x2 x3 x4 x5 x6 x7 x8)=rec13 x0 x1 x2 x3 x4 x5 x6 x7 x8
theorem qH_j15_eq m M13 rec13 (h13:H40_13 m M13 rec13) x0 x1 x2 x3 x4 x5 x6 x7 x8:e40 jn m w40_4 [M13] (s40_15 x0 x1 x2 x3 x4 x5 x6 x7 x8)=qH_j15 m (qH m) rec13 x0 x1 x2 x3 x4 x5 x6 x7 x8:=
 tq (g:=fun J=>(jj J 1 12 M13 (s40_15 x0 x1 (IntKind.wrap .i64 (x2+1)) x3 x4 x5 x6 x7 x8) (l40 J m w40_3 [] M13))) (by simp only[jj_eq,h13];rfl)
theorem qH_j14_eq m M13 rec13 (h13:H40_13 m M13 rec13) x0 x1 x2 x3 x4 x5 x6 x7 x8:e40 jn m w40_5 [M13] (s40_15 x0 x1 x2 x3 x4 x5 x6 x7 x8)=qH_j14 m (qH m) rec13 x0 x1 x2 x3 x4 x5 x6 x7 x8:=
 tq (g:=fun J=>((idx x0 x2).bind fun v11=>
  ((qH m (Dt.fld v11 1)).bind fun r12=>
  ((inL x8 x2).bind fun v13=>
  ((x8[(Int.toNat x2)]?).bind fun v14=>
  (jj J 0 15 0 (s40_15 x0 x1 x2 x3 x4 x5 x6 x7 (List.set x8 (Int.toNat x2) (Dt.agg [(Dt.str (Dt.S v11 0)),r12]))) (e40 J m w40_4 [M13]))))))) (by simp only[jj_eq,qH_j15_eq m M13 rec13 h13];rfl)
theorem qH_j16_eq m x0 x1 x2 x3 x4 x5:e40 jn m [1,1,1,1] [] (s40_16 x0 x1 x2 x3 x4 x5)=qH_j16 m (qH m) x0 x1 x2 x3 x4 x5:=
 tq (g:=fun J=>some (Dt.agg [(Dt.int x1),(Dt.int x2),(Dt.str x3),(Dt.lst x4),(Dt.lst x5)])) (by rfl)
theorem qH_l13_eq m:∀M13 x0 x1 x2 x3 x4 x5 x6 x7 x8,l40 jn m w40_3 [] M13 (s40_15 x0 x1 x2 x3 x4 x5 x6 x7 x8)=qH_l13 m (qH m) M13 x0 x1 x2 x3 x4 x5 x6 x7 x8
 |0,_,_,_,_,_,_,_,_,_=>rfl
 | M13+1,x0,x1,x2,x3,x4,x5,x6,x7,x8=>
   tl (g:=fun J=>(bif (decide (x2<x1)) then
  (jj J 0 13 0 (s40_15 x0 x1 x2 x3 x4 x5 x6 x7 x8) (e40 J m w40_5 [M13]))
   else
  (jj J 0 16 0 (s40_16 x3 x4 x5 x6 x7 x8) (e40 J m [1,1,1,1] [])))) (by simp only[jj_eq,qH_j14_eq m M13 (qH_l13 m (qH m) M13) (qH_l13_eq m M13),qH_j16_eq m];rfl)
theorem qH_j12_eq m x0 x1 x2 x3 x4 x5 x6 x7 x8:e40 jn m w40_6 [] (s40_15 x0 x1 x2 x3 x4 x5 x6 x7 x8)=qH_j12 m (qH m) x0 x1 x2 x3 x4 x5 x6 x7 x8:=
 tq (g:=fun J=>(jj J 1 12 (Nat.succ m) (s40_15 x0 x1 x2 x3 x4 x5 x6 x7 x8) (l40 J m w40_3 [] (Nat.succ m)))) (by simp only[jj_eq,qH_l13_eq m];rfl)
theorem qH_j17_eq m x0 x1:e40 jn m [1,1,1,1] [] (s40_17 x0 x1)=qH_j17 m (qH m) x0 x1:=
 tq (g:=fun J=>some x1) (by rfl)
theorem qH_j11_eq m x0 x1 x2:e40 jn m [1,1,1] [] (s40_11 x0 x1 x2)=qH_j11 m (qH m) x0 x1 x2:=
 tq (g:=fun J=>(bif (decide (0<(List.length (Dt.L x0 4):Int))) then
  ((mkL (List.length (Dt.L x0 4):Int) (List.length (Dt.L x0 4):Int) kzcda49).bind fun v10=>
  (jj J 0 12 0 (s40_15 (Dt.L x0 4) (List.length (Dt.L x0 4):Int) 0 x1 (Dt.I x2 0) (Dt.I x2 1) (Dt.S x2 2) (Dt.L x2 3) v10) (e40 J m w40_6 [])))
   else
  (jj J 0 16 0 (s40_17 x1 x2) (e40 J m [1,1,1,1] [])))) (by simp only[jj_eq,qH_j12_eq m,qH_j17_eq m];rfl)
theorem qH_eq m a0:e40 jn m [] [] ⟨[(.dat 36 a0)],[],0⟩=qH (m+1) a0:=
 tq (g:=fun J=>(bif (decide (0<(List.length (Dt.L a0 3):Int))) then
  ((mkL (List.length (Dt.L a0 3):Int) (List.length (Dt.L a0 3):Int) kza2373).bind fun v0=>
  (jj J 0 5 0 (s40_3 (Dt.L a0 3) (List.length (Dt.L a0 3):Int) 0 a0 kza2373 (Dt.I a0 0) (Dt.I a0 1) (Dt.S a0 2) v0) (e40 J m w40_7 [])))
   else
  (jj J 0 9 0 (s40_11 a0 kza2373 (Dt.agg [(Dt.int (Dt.I a0 0)),(Dt.int (Dt.I a0 1)),(Dt.str (Dt.S a0 2)),(Dt.lst []),(Dt.lst [])])) (e40 J m [1,1,1] [])))) (by simp only[jj_eq,qH_j0_eq m,qH_j11_eq m];rfl)
def w44_7:List Nat:=[1,1,0,1,0,1]
def w44_0:List Nat:=w44_7++[0]
def w44_6:List Nat:=[1,1,1,0,1,0,1]
def w44_3:List Nat:=w44_6++[0]
def w44_2:List Nat:=w44_0++[0,1]
def w44_1:List Nat:=w44_2++[1]
def w44_5:List Nat:=w44_3++[0,1]
def w44_4:List Nat:=w44_5++[1]
noncomputable def e44 (J:Nat→Nat→Nat→St→Option (List Dt)→Option (List Dt)) (m:Nat) (p ms:List Nat) (σ:St):=evAt Tryz.prog env (ct m) J (m+1) 72 44 Tryz.f72 d44 p ms σ
noncomputable def l44 (J:Nat→Nat→Nat→St→Option (List Dt)→Option (List Dt)) (m:Nat) (p ms:List Nat) (M:Nat) (σ:St):=loopAt Tryz.prog env (ct m) J (m+1) 72 44 Tryz.f72 d44 p ms M σ
noncomputable def s44_3 (x0:Int) (x1:Dt) (x2:List Dt):St:=⟨tsOf [(1,(.ptr 0 [] 0)),(3,(.row 1)),(4,(.dat 3 (.int x0)))],[(.box 36 (.dat 36 x1)),(.row 23 x2)],0⟩
noncomputable def s44_8 (x0:Int) (x1:Dt) (x2:List Dt):St:=⟨tsOf [(1,(.ptr 0 [] 0)),(3,(.row 1)),(5,(.dat 3 (.int x0)))],[(.box 36 (.dat 36 x1)),(.row 23 x2)],0⟩
noncomputable def s44_9 (x0:List Dt):St:=⟨tsOf [(3,(.row 0))],[(.row 23 x0)],0⟩
noncomputable def s44_4 (x0:Dt) (x1:List Dt):St:=⟨tsOf [(1,(.ptr 0 [] 0)),(3,(.row 1))],[(.box 36 (.dat 36 x0)),(.row 23 x1)],0⟩
abbrev H44_1 (m M1:Nat) (rec1:Int→Dt→List Dt→Option (List Dt)):Prop:=∀x0 x1 x2,l44 jn m w44_0 [] M1 (s44_3 x0 x1 x2)=rec1 x0 x1 x2
theorem qR_j3_eq m M1 rec1 (h1:H44_1 m M1 rec1) x0 x1 x2:e44 jn m w44_1 [M1] (s44_3 x0 x1 x2)=qR_j3 m rec1 x0 x1 x2:=
 tq (g:=fun J=>(jj J 1 4 M1 (s44_3 (IntKind.wrap .i64 (x0+1)) x1 x2) (l44 J m w44_0 [] M1))) (by simp only[jj_eq,h1];rfl)
theorem qR_j2_eq m M1 rec1 (h1:H44_1 m M1 rec1) x0 x1 x2:e44 jn m w44_2 [M1] (s44_3 x0 x1 x2)=qR_j2 m rec1 x0 x1 x2:=
 tq (g:=fun J=>((idx (Dt.L x1 3) x0).bind fun v0=>
  ((app x2 [v0]).bind fun v1=>
  (jj J 0 5 0 (s44_3 x0 x1 v1) (e44 J m w44_1 [M1]))))) (by simp only[jj_eq,qR_j3_eq m M1 rec1 h1];rfl)
abbrev H44_6 (m M6:Nat) (rec6:Int→Dt→List Dt→Option (List Dt)):Prop:=∀x0 x1 x2,l44 jn m w44_3 [] M6 (s44_8 x0 x1 x2)=rec6 x0 x1 x2
theorem qR_j8_eq m M6 rec6 (h6:H44_6 m M6 rec6) x0 x1 x2:e44 jn m w44_4 [M6] (s44_8 x0 x1 x2)=qR_j8 m rec6 x0 x1 x2:=
 tq (g:=fun J=>(jj J 1 9 M6 (s44_8 (IntKind.wrap .i64 (x0+1)) x1 x2) (l44 J m w44_3 [] M6))) (by simp only[jj_eq,h6];rfl)
theorem qR_j7_eq m M6 rec6 (h6:H44_6 m M6 rec6) x0 x1 x2:e44 jn m w44_5 [M6] (s44_8 x0 x1 x2)=qR_j7 m rec6 x0 x1 x2:=
 tq (g:=fun J=>((idx (Dt.L x1 4) x0).bind fun v2=>
  ((app x2 [(Dt.fld v2 1)]).bind fun v3=>
  (jj J 0 10 0 (s44_8 x0 x1 v3) (e44 J m w44_4 [M6]))))) (by simp only[jj_eq,qR_j8_eq m M6 rec6 h6];rfl)
theorem qR_j9_eq m x0:e44 jn m [1,1,1,1] [] (s44_9 x0)=qR_j9 m x0:=
 tq (g:=fun J=>some x0) (by rfl)
theorem qR_l6_eq m:∀M6 x0 x1 x2,l44 jn m w44_3 [] M6 (s44_8 x0 x1 x2)=qR_l6 m M6 x0 x1 x2
 |0,_,_,_=>rfl
 | M6+1,x0,x1,x2=>
   tl (g:=fun J=>(bif (decide (x0<(List.length (Dt.L x1 4):Int))) then
  (jj J 0 11 0 (s44_8 x0 x1 x2) (e44 J m w44_5 [M6]))
   else
  (jj J 0 12 0 (s44_9 x2) (e44 J m [1,1,1,1] [])))) (by simp only[jj_eq,qR_j7_eq m M6 (qR_l6 m M6) (qR_l6_eq m M6),qR_j9_eq m];rfl)
theorem qR_j5_eq m x0 x1 x2:e44 jn m w44_6 [] (s44_8 x0 x1 x2)=qR_j5 m x0 x1 x2:=
 tq (g:=fun J=>(jj J 1 9 (Nat.succ m) (s44_8 x0 x1 x2) (l44 J m w44_3 [] (Nat.succ m)))) (by simp only[jj_eq,qR_l6_eq m];rfl)
theorem qR_j4_eq m x0 x1:e44 jn m [1,1,1] [] (s44_4 x0 x1)=qR_j4 m x0 x1:=
 tq (g:=fun J=>(bif ((Dt.I x0 0)==5) then
  (jj J 0 9 0 (s44_8 0 x0 x1) (e44 J m w44_6 []))
   else
  (jj J 0 12 0 (s44_9 x1) (e44 J m [1,1,1,1] [])))) (by simp only[jj_eq,qR_j5_eq m,qR_j9_eq m];rfl)
theorem qR_l1_eq m:∀M1 x0 x1 x2,l44 jn m w44_0 [] M1 (s44_3 x0 x1 x2)=qR_l1 m M1 x0 x1 x2
 |0,_,_,_=>rfl
 | M1+1,x0,x1,x2=>
   tl (g:=fun J=>(bif (decide (x0<(List.length (Dt.L x1 3):Int))) then
  (jj J 0 6 0 (s44_3 x0 x1 x2) (e44 J m w44_2 [M1]))
   else
  (jj J 0 7 0 (s44_4 x1 x2) (e44 J m [1,1,1] [])))) (by simp only[jj_eq,qR_j2_eq m M1 (qR_l1 m M1) (qR_l1_eq m M1),qR_j4_eq m];rfl)
theorem qR_j0_eq m x0 x1 x2:e44 jn m w44_7 [] (s44_3 x0 x1 x2)=qR_j0 m x0 x1 x2:=
 tq (g:=fun J=>(jj J 1 4 (Nat.succ m) (s44_3 x0 x1 x2) (l44 J m w44_0 [] (Nat.succ m)))) (by simp only[jj_eq,qR_l1_eq m];rfl)
theorem qR_eq m a0:e44 jn m [] [] ⟨[(.dat 36 a0)],[],0⟩=qR (m+1) a0:=
 tq (g:=fun J=>(bif ((Dt.I a0 0)==6) then
  (jj J 0 4 0 (s44_3 0 a0 []) (e44 J m w44_7 []))
   else
  (jj J 0 7 0 (s44_4 a0 []) (e44 J m [1,1,1] [])))) (by simp only[jj_eq,qR_j0_eq m,qR_j4_eq m];rfl)
def w25_3:List Nat:=[1,1,1,1,1]
def w25_4:List Nat:=[1,1,1,1,0,1]
def w25_0:List Nat:=w25_4++[0]
def w25_2:List Nat:=w25_0++[0,1]
def w25_1:List Nat:=w25_2++[1]
noncomputable def e25 (J:Nat→Nat→Nat→St→Option Int→Option Int) (m:Nat) (p ms:List Nat) (σ:St):=evAt Tryz.prog env (ct m) J (m+1) 42 34 Tryz.f42 d25 p ms σ
noncomputable def l25 (J:Nat→Nat→Nat→St→Option Int→Option Int) (m:Nat) (p ms:List Nat) (M:Nat) (σ:St):=loopAt Tryz.prog env (ct m) J (m+1) 42 34 Tryz.f42 d25 p ms M σ
noncomputable def s25_5 (x0:Int) (x1:List Dt) (x2 x3:Int):St:=⟨tsOf [(1,(.dat 3 (.int x0))),(5,(.dat 23 (.lst x1))),(6,(.dat 3 (.int x2))),(7,(.dat 3 (.int x3)))],[],0⟩
noncomputable def s25_6 (x0:Int):St:=⟨tsOf [(6,(.dat 3 (.int x0)))],[],0⟩
noncomputable def s25_1 (x0:Int) (x1:List Dt):St:=⟨tsOf [(1,(.dat 3 (.int x0))),(5,(.dat 23 (.lst x1)))],[],0⟩
noncomputable def s25_0 (x0:Int) (x1:List Dt) (x2:Bool):St:=⟨tsOf [(1,(.dat 3 (.int x0))),(5,(.dat 23 (.lst x1))),(16,(.dat 4 (.bool x2)))],[],0⟩
abbrev H25_3 (m M3:Nat) (rec3:Int→List Dt→Int→Int→Option Int):Prop:=∀x0 x1 x2 x3,l25 jn m w25_0 [] M3 (s25_5 x0 x1 x2 x3)=rec3 x0 x1 x2 x3
theorem qM_j5_eq m M3 rec3 (h3:H25_3 m M3 rec3) x0 x1 x2 x3:e25 jn m w25_1 [M3] (s25_5 x0 x1 x2 x3)=qM_j5 m (qM m) rec3 x0 x1 x2 x3:=
 tq (g:=fun J=>(jj J 1 6 M3 (s25_5 x0 x1 x2 (IntKind.wrap .i64 (x3+1))) (l25 J m w25_0 [] M3))) (by simp only[jj_eq,h3];rfl)
theorem qM_j4_eq m M3 rec3 (h3:H25_3 m M3 rec3) x0 x1 x2 x3:e25 jn m w25_2 [M3] (s25_5 x0 x1 x2 x3)=qM_j4 m (qM m) rec3 x0 x1 x2 x3:=
 tq (g:=fun J=>((idx x1 x3).bind fun v1=>
  ((qM m v1 (IntKind.wrap .i64 (x0-1))).bind fun r2=>
  (jj J 0 7 0 (s25_5 x0 x1 (bif (decide (x2<r2)) then r2 else x2) x3) (e25 J m w25_1 [M3]))))) (by simp only[jj_eq,qM_j5_eq m M3 rec3 h3];rfl)
theorem qM_j6_eq m x0:e25 jn m w25_3 [] (s25_6 x0)=qM_j6 m (qM m) x0:=
 tq (g:=fun J=>some (IntKind.wrap .i64 (x0+1))) (by rfl)
theorem qM_l3_eq m:∀M3 x0 x1 x2 x3,l25 jn m w25_0 [] M3 (s25_5 x0 x1 x2 x3)=qM_l3 m (qM m) M3 x0 x1 x2 x3
 |0,_,_,_,_=>rfl
 | M3+1,x0,x1,x2,x3=>
   tl (g:=fun J=>(bif (decide (x3<(List.length x1:Int))) then
  (jj J 0 8 0 (s25_5 x0 x1 x2 x3) (e25 J m w25_2 [M3]))
   else
  (jj J 0 9 0 (s25_6 x2) (e25 J m w25_3 [])))) (by simp only[jj_eq,qM_j4_eq m M3 (qM_l3 m (qM m) M3) (qM_l3_eq m M3),qM_j6_eq m];rfl)
theorem qM_j2_eq m x0 x1 x2 x3:e25 jn m w25_4 [] (s25_5 x0 x1 x2 x3)=qM_j2 m (qM m) x0 x1 x2 x3:=
 tq (g:=fun J=>(jj J 1 6 (Nat.succ m) (s25_5 x0 x1 x2 x3) (l25 J m w25_0 [] (Nat.succ m)))) (by simp only[jj_eq,qM_l3_eq m];rfl)
theorem qM_j1_eq m x0 x1:e25 jn m [1,1,1] [] (s25_1 x0 x1)=qM_j1 m (qM m) x0 x1:=
 tq (g:=fun J=>(jj J 0 6 0 (s25_5 x0 x1 0 0) (e25 J m w25_4 []))) (by simp only[jj_eq,qM_j2_eq m];rfl)
theorem qM_j0_eq m x0 x1 x2:e25 jn m [1,1,0,1] [] (s25_0 x0 x1 x2)=qM_j0 m (qM m) x0 x1 x2:=
 tq (g:=fun J=>(bif x2 then
  some 1
   else
  (jj J 0 4 0 (s25_1 x0 x1) (e25 J m [1,1,1] [])))) (by simp only[jj_eq,qM_j1_eq m];rfl)
theorem qM_eq m a0 a1:e25 jn m [] [] ⟨[(.dat 36 a0),(.dat 3 (.int a1))],[],0⟩=qM (m+1) a0 a1:=
 tq (g:=fun J=>((qR m a0).bind fun r0=>
  (bif (decide (a1<2)) then
  (jj J 0 3 0 (s25_0 a1 r0 true) (e25 J m [1,1,0,1] []))
  else
  (jj J 0 3 0 (s25_0 a1 r0 ((List.length r0:Int)==0)) (e25 J m [1,1,0,1] []))))) (by simp only[jj_eq,qM_j0_eq m];rfl)
noncomputable def e16 (J:Nat→Nat→Nat→St→Option Int→Option Int) (m:Nat) (p ms:List Nat) (σ:St):=evAt Tryz.prog env (ct m) J (m+1) 25 5 Tryz.f25 d25 p ms σ
theorem yI_eq m a0:e16 jn m [] [] ⟨[(.dat 36 a0)],[],0⟩=yI (m+1) a0:=
 tq (g:=fun J=>((qM m a0 17).bind fun r0=>
  some r0)) (by rfl)
def w26_3:List Nat:=[1,1,1,0,1]
def w26_0:List Nat:=[1,1,1,0,1,0]
def w26_2:List Nat:=w26_0++[0,1]
def w26_1:List Nat:=w26_2++[1]
noncomputable def e26 (J:Nat→Nat→Nat→St→Option Int→Option Int) (m:Nat) (p ms:List Nat) (σ:St):=evAt Tryz.prog env (ct m) J (m+1) 43 32 Tryz.f43 d25 p ms σ
noncomputable def l26 (J:Nat→Nat→Nat→St→Option Int→Option Int) (m:Nat) (p ms:List Nat) (M:Nat) (σ:St):=loopAt Tryz.prog env (ct m) J (m+1) 43 32 Tryz.f43 d25 p ms M σ
noncomputable def s26_3 (x0 x1:Int) (x2:List Dt) (x3:Int):St:=⟨tsOf [(1,(.dat 3 (.int x0))),(5,(.dat 3 (.int x1))),(6,(.dat 23 (.lst x2))),(7,(.dat 3 (.int x3)))],[],0⟩
noncomputable def s26_4 (x0:Int):St:=⟨tsOf [(5,(.dat 3 (.int x0)))],[],0⟩
abbrev H26_1 (m M1:Nat) (rec1:Int→Int→List Dt→Int→Option Int):Prop:=∀x0 x1 x2 x3,l26 jn m w26_0 [] M1 (s26_3 x0 x1 x2 x3)=rec1 x0 x1 x2 x3
theorem zH_j3_eq m M1 rec1 (h1:H26_1 m M1 rec1) x0 x1 x2 x3:e26 jn m w26_1 [M1] (s26_3 x0 x1 x2 x3)=zH_j3 m (zH m) rec1 x0 x1 x2 x3:=
 tq (g:=fun J=>(jj J 1 4 M1 (s26_3 x0 x1 x2 (IntKind.wrap .i64 (x3+1))) (l26 J m w26_0 [] M1))) (by simp only[jj_eq,h1];rfl)
theorem zH_j2_eq m M1 rec1 (h1:H26_1 m M1 rec1) x0 x1 x2 x3:e26 jn m w26_2 [M1] (s26_3 x0 x1 x2 x3)=zH_j2 m (zH m) rec1 x0 x1 x2 x3:=
 tq (g:=fun J=>((idx x2 x3).bind fun v1=>
  ((zH m v1 (IntKind.wrap .i64 (x0-x1))).bind fun r2=>
  (jj J 0 5 0 (s26_3 x0 (IntKind.wrap .i64 (x1+r2)) x2 x3) (e26 J m w26_1 [M1]))))) (by simp only[jj_eq,zH_j3_eq m M1 rec1 h1];rfl)
theorem zH_j4_eq m x0:e26 jn m [1,1,1,1] [] (s26_4 x0)=zH_j4 m (zH m) x0:=
 tq (g:=fun J=>some x0) (by rfl)
theorem zH_l1_eq m:∀M1 x0 x1 x2 x3,l26 jn m w26_0 [] M1 (s26_3 x0 x1 x2 x3)=zH_l1 m (zH m) M1 x0 x1 x2 x3
 |0,_,_,_,_=>rfl
 | M1+1,x0,x1,x2,x3=>
   tl (g:=fun J=>(bif (decide (x3<(List.length x2:Int))) then
  (bif (decide (x1<x0)) then
  (jj J 0 6 0 (s26_3 x0 x1 x2 x3) (e26 J m w26_2 [M1]))
  else
  (jj J 0 7 0 (s26_4 x1) (e26 J m [1,1,1,1] [])))
   else
  (jj J 0 7 0 (s26_4 x1) (e26 J m [1,1,1,1] [])))) (by simp only[jj_eq,zH_j2_eq m M1 (zH_l1 m (zH m) M1) (zH_l1_eq m M1),zH_j4_eq m];rfl)
theorem zH_j0_eq m x0 x1 x2 x3:e26 jn m w26_3 [] (s26_3 x0 x1 x2 x3)=zH_j0 m (zH m) x0 x1 x2 x3:=
 tq (g:=fun J=>(jj J 1 4 (Nat.succ m) (s26_3 x0 x1 x2 x3) (l26 J m w26_0 [] (Nat.succ m)))) (by simp only[jj_eq,zH_l1_eq m];rfl)
theorem zH_eq m a0 a1:e26 jn m [] [] ⟨[(.dat 36 a0),(.dat 3 (.int a1))],[],0⟩=zH (m+1) a0 a1:=
 tq (g:=fun J=>((qR m a0).bind fun r0=>
  (jj J 0 4 0 (s26_3 a1 1 r0 0) (e26 J m w26_3 [])))) (by simp only[jj_eq,zH_j0_eq m];rfl)
noncomputable def e17 (J:Nat→Nat→Nat→St→Option Int→Option Int) (m:Nat) (p ms:List Nat) (σ:St):=evAt Tryz.prog env (ct m) J (m+1) 26 5 Tryz.f26 d25 p ms σ
theorem yH_eq m a0:e17 jn m [] [] ⟨[(.dat 36 a0)],[],0⟩=yH (m+1) a0:=
 tq (g:=fun J=>((zH m a0 1025).bind fun r0=>
  some r0)) (by rfl)
def w45_0:List Nat:=[1,1,0,1,0]
def w45_3:List Nat:=[1,1,0,1,0,0,1]
def w45_1:List Nat:=w45_3++[1]
def w45_2:List Nat:=w45_3++[0,0,1]
noncomputable def e45 (J:Nat→Nat→Nat→St→Option Bool→Option Bool) (m:Nat) (p ms:List Nat) (σ:St):=evAt Tryz.prog env (ct m) J (m+1) 73 33 Tryz.f73 d13 p ms σ
noncomputable def l45 (J:Nat→Nat→Nat→St→Option Bool→Option Bool) (m:Nat) (p ms:List Nat) (M:Nat) (σ:St):=loopAt Tryz.prog env (ct m) J (m+1) 73 33 Tryz.f73 d13 p ms M σ
noncomputable def s45_5 (x0:ByteArray) (x1 x2 x3:Int):St:=⟨tsOf [(0,(.dat 9 (.str x0))),(1,(.dat 3 (.int x1))),(2,(.dat 3 (.int x2))),(7,(.dat 3 (.int x3)))],[],0⟩
noncomputable def s45_4 (x0:ByteArray) (x1 x2 x3:Int) (x4:Bool):St:=⟨tsOf [(0,(.dat 9 (.str x0))),(1,(.dat 3 (.int x1))),(2,(.dat 3 (.int x2))),(7,(.dat 3 (.int x3))),(32,(.dat 4 (.bool x4)))],[],0⟩
noncomputable def s45_6:St:=⟨tsOf [],[],0⟩
noncomputable def s45_0 (x0:ByteArray) (x1 x2:Int):St:=⟨tsOf [(0,(.dat 9 (.str x0))),(1,(.dat 3 (.int x1))),(2,(.dat 3 (.int x2)))],[],0⟩
abbrev H45_2 (m M2:Nat) (rec2:ByteArray→Int→Int→Int→Option Bool):Prop:=∀x0 x1 x2 x3,l45 jn m w45_0 [] M2 (s45_5 x0 x1 x2 x3)=rec2 x0 x1 x2 x3
theorem zG_j5_eq m M2 rec2 (h2:H45_2 m M2 rec2) x0 x1 x2 x3:e45 jn m w45_1 [M2] (s45_5 x0 x1 x2 x3)=zG_j5 m rec2 x0 x1 x2 x3:=
 tq (g:=fun J=>(jj J 1 4 M2 (s45_5 x0 x1 x2 (IntKind.wrap .i64 (x3+1))) (l45 J m w45_0 [] M2))) (by simp only[jj_eq,h2];rfl)
theorem zG_j4_eq m M2 rec2 (h2:H45_2 m M2 rec2) x0 x1 x2 x3 x4:e45 jn m w45_2 [M2] (s45_4 x0 x1 x2 x3 x4)=zG_j4 m rec2 x0 x1 x2 x3 x4:=
 tq (g:=fun J=>(bif x4 then
  some false
   else
  (jj J 0 5 0 (s45_5 x0 x1 x2 x3) (e45 J m w45_1 [M2])))) (by simp only[jj_eq,zG_j5_eq m M2 rec2 h2];rfl)
theorem zG_j3_eq m M2 rec2 (h2:H45_2 m M2 rec2) x0 x1 x2 x3:e45 jn m w45_3 [M2] (s45_5 x0 x1 x2 x3)=zG_j3 m rec2 x0 x1 x2 x3:=
 tq (g:=fun J=>((idxS x0 (IntKind.wrap .i64 (x1+x3))).bind fun v0=>
  (bif (decide (v0<128)) then
  (jj J 0 7 0 (s45_4 x0 x1 x2 x3 true) (e45 J m w45_2 [M2]))
  else
  ((idxS x0 (IntKind.wrap .i64 (x1+x3))).bind fun v1=>
  (jj J 0 7 0 (s45_4 x0 x1 x2 x3 (decide (191<v1))) (e45 J m w45_2 [M2])))))) (by simp only[jj_eq,zG_j4_eq m M2 rec2 h2];rfl)
theorem zG_j6_eq m:e45 jn m [1,1,1] [] s45_6=zG_j6 m:=
 tq (g:=fun J=>some true) (by rfl)
theorem zG_l2_eq m:∀M2 x0 x1 x2 x3,l45 jn m w45_0 [] M2 (s45_5 x0 x1 x2 x3)=zG_l2 m M2 x0 x1 x2 x3
 |0,_,_,_,_=>rfl
 | M2+1,x0,x1,x2,x3=>
   tl (g:=fun J=>(bif (decide (x3<x2)) then
  (jj J 0 6 0 (s45_5 x0 x1 x2 x3) (e45 J m w45_3 [M2]))
   else
  (jj J 0 8 0 s45_6 (e45 J m [1,1,1] [])))) (by simp only[jj_eq,zG_j3_eq m M2 (zG_l2 m M2) (zG_l2_eq m M2),zG_j6_eq m];rfl)
theorem zG_j1_eq m x0 x1 x2 x3:e45 jn m [1,1,0,1] [] (s45_5 x0 x1 x2 x3)=zG_j1 m x0 x1 x2 x3:=
 tq (g:=fun J=>(jj J 1 4 (Nat.succ m) (s45_5 x0 x1 x2 x3) (l45 J m w45_0 [] (Nat.succ m)))) (by simp only[jj_eq,zG_l2_eq m];rfl)
theorem zG_j0_eq m x0 x1 x2:e45 jn m [1,1] [] (s45_0 x0 x1 x2)=zG_j0 m x0 x1 x2:=
 tq (g:=fun J=>(jj J 0 4 0 (s45_5 x0 x1 x2 0) (e45 J m [1,1,0,1] []))) (by simp only[jj_eq,zG_j1_eq m];rfl)
theorem zG_eq m a0 a1 a2:e45 jn m [] [] ⟨[(.dat 9 (.str a0)),(.dat 3 (.int a1)),(.dat 3 (.int a2))],[],0⟩=zG (m+1) a0 a1 a2:=
 tq (g:=fun J=>(bif (decide ((ByteArray.size a0:Int)<(IntKind.wrap .i64 (a1+a2)))) then
  some false
   else
  (jj J 0 3 0 (s45_0 a0 a1 a2) (e45 J m [1,1] [])))) (by simp only[jj_eq,zG_j0_eq m];rfl)
def w27_7:List Nat:=[1,0,1,0,0,1]
def w27_3:List Nat:=w27_7++[0,1,1,1]
def w27_2:List Nat:=w27_3++[1]
def w27_0:List Nat:=w27_2++[1]
def w27_1:List Nat:=w27_2++[0,1]
def w27_6:List Nat:=w27_7++[0,1,1,0,0,1,1,1]
def w27_5:List Nat:=w27_6++[1,1]
def w27_4:List Nat:=w27_5++[1,1]
noncomputable def e27 (J:Nat→Nat→Nat→St→Option Bool→Option Bool) (m:Nat) (p ms:List Nat) (σ:St):=evAt Tryz.prog env (ct m) J (m+1) 44 89 Tryz.f44 d13 p ms σ
noncomputable def l27 (J:Nat→Nat→Nat→St→Option Bool→Option Bool) (m:Nat) (p ms:List Nat) (M:Nat) (σ:St):=loopAt Tryz.prog env (ct m) J (m+1) 44 89 Tryz.f44 d13 p ms M σ
noncomputable def s27_6 (x0:ByteArray) (x1 x2:Int):St:=⟨tsOf [(0,(.dat 9 (.str x0))),(3,(.dat 3 (.int x1))),(5,(.dat 3 (.int x2)))],[],0⟩
noncomputable def s27_5 (x0:ByteArray) (x1 x2:Int) (x3:Bool):St:=⟨tsOf [(0,(.dat 9 (.str x0))),(3,(.dat 3 (.int x1))),(5,(.dat 3 (.int x2))),(84,(.dat 4 (.bool x3)))],[],0⟩
noncomputable def s27_4 (x0:ByteArray) (x1 x2 x3:Int):St:=⟨tsOf [(0,(.dat 9 (.str x0))),(3,(.dat 3 (.int x1))),(4,(.dat 5 (.int x2))),(5,(.dat 3 (.int x3)))],[],0⟩
noncomputable def s27_9 (x0:ByteArray) (x1 x2:Int) (x3:Bool):St:=⟨tsOf [(0,(.dat 9 (.str x0))),(3,(.dat 3 (.int x1))),(4,(.dat 5 (.int x2))),(30,(.dat 4 (.bool x3)))],[],0⟩
noncomputable def s27_8 (x0:ByteArray) (x1 x2:Int) (x3:Bool):St:=⟨tsOf [(0,(.dat 9 (.str x0))),(3,(.dat 3 (.int x1))),(4,(.dat 5 (.int x2))),(23,(.dat 4 (.bool x3)))],[],0⟩
noncomputable def s27_7 (x0:ByteArray) (x1 x2:Int) (x3:Bool):St:=⟨tsOf [(0,(.dat 9 (.str x0))),(3,(.dat 3 (.int x1))),(4,(.dat 5 (.int x2))),(16,(.dat 4 (.bool x3)))],[],0⟩
noncomputable def s27_2 (x0:ByteArray) (x1:Int):St:=⟨tsOf [(0,(.dat 9 (.str x0))),(3,(.dat 3 (.int x1)))],[],0⟩
noncomputable def s27_10:St:=⟨tsOf [],[],0⟩
abbrev H27_1 (m M1:Nat) (rec1:ByteArray→Int→Option Bool):Prop:=∀x0 x1,l27 jn m [1,0,1,0] [] M1 (s27_2 x0 x1)=rec1 x0 x1
theorem qP_j6_eq m M1 rec1 (h1:H27_1 m M1 rec1) x0 x1 x2:e27 jn m w27_0 [M1] (s27_6 x0 x1 x2)=qP_j6 m rec1 x0 x1 x2:=
 tq (g:=fun J=>(jj J 1 2 M1 (s27_2 x0 (IntKind.wrap .i64 ((IntKind.wrap .i64 (x1+x2))+1))) (l27 J m [1,0,1,0] [] M1))) (by simp only[jj_eq,h1];rfl)
theorem qP_j5_eq m M1 rec1 (h1:H27_1 m M1 rec1) x0 x1 x2 x3:e27 jn m w27_1 [M1] (s27_5 x0 x1 x2 x3)=qP_j5 m rec1 x0 x1 x2 x3:=
 tq (g:=fun J=>(bif x3 then
  some false
   else
  (jj J 0 17 0 (s27_6 x0 x1 x2) (e27 J m w27_0 [M1])))) (by simp only[jj_eq,qP_j6_eq m M1 rec1 h1];rfl)
theorem qP_j4_eq m M1 rec1 (h1:H27_1 m M1 rec1) x0 x1 x2 x3:e27 jn m w27_2 [M1] (s27_4 x0 x1 x2 x3)=qP_j4 m rec1 x0 x1 x2 x3:=
 tq (g:=fun J=>(bif (x2==224) then
  ((idxS x0 (IntKind.wrap .i64 (x1+1))).bind fun v2=>
  (bif (decide (v2<160)) then
  (jj J 0 16 0 (s27_5 x0 x1 x3 true) (e27 J m w27_1 [M1]))
  else
  (bif (x2==237) then
  ((idxS x0 (IntKind.wrap .i64 (x1+1))).bind fun v3=>
  (bif (decide (159<v3)) then
  (jj J 0 16 0 (s27_5 x0 x1 x3 true) (e27 J m w27_1 [M1]))
  else
  (bif (x2==240) then
  ((idxS x0 (IntKind.wrap .i64 (x1+1))).bind fun v4=>
  (bif (decide (v4<144)) then
  (jj J 0 16 0 (s27_5 x0 x1 x3 true) (e27 J m w27_1 [M1]))
  else
  (bif (x2==244) then
  ((idxS x0 (IntKind.wrap .i64 (x1+1))).bind fun v5=>
  (jj J 0 16 0 (s27_5 x0 x1 x3 (decide (143<v5))) (e27 J m w27_1 [M1])))
  else
  (jj J 0 16 0 (s27_5 x0 x1 x3 false) (e27 J m w27_1 [M1])))))
  else
  (bif (x2==244) then
  ((idxS x0 (IntKind.wrap .i64 (x1+1))).bind fun v6=>
  (jj J 0 16 0 (s27_5 x0 x1 x3 (decide (143<v6))) (e27 J m w27_1 [M1])))
  else
  (jj J 0 16 0 (s27_5 x0 x1 x3 false) (e27 J m w27_1 [M1]))))))
  else
  (bif (x2==240) then
  ((idxS x0 (IntKind.wrap .i64 (x1+1))).bind fun v7=>
  (bif (decide (v7<144)) then
  (jj J 0 16 0 (s27_5 x0 x1 x3 true) (e27 J m w27_1 [M1]))
  else
  (bif (x2==244) then
  ((idxS x0 (IntKind.wrap .i64 (x1+1))).bind fun v8=>
  (jj J 0 16 0 (s27_5 x0 x1 x3 (decide (143<v8))) (e27 J m w27_1 [M1])))
  else
  (jj J 0 16 0 (s27_5 x0 x1 x3 false) (e27 J m w27_1 [M1])))))
  else
  (bif (x2==244) then
  ((idxS x0 (IntKind.wrap .i64 (x1+1))).bind fun v9=>
  (jj J 0 16 0 (s27_5 x0 x1 x3 (decide (143<v9))) (e27 J m w27_1 [M1])))
  else
  (jj J 0 16 0 (s27_5 x0 x1 x3 false) (e27 J m w27_1 [M1])))))))
   else
  (bif (x2==237) then
  ((idxS x0 (IntKind.wrap .i64 (x1+1))).bind fun v10=>
  (bif (decide (159<v10)) then
  (jj J 0 16 0 (s27_5 x0 x1 x3 true) (e27 J m w27_1 [M1]))
  else
  (bif (x2==240) then
  ((idxS x0 (IntKind.wrap .i64 (x1+1))).bind fun v11=>
  (bif (decide (v11<144)) then
  (jj J 0 16 0 (s27_5 x0 x1 x3 true) (e27 J m w27_1 [M1]))
  else
  (bif (x2==244) then
  ((idxS x0 (IntKind.wrap .i64 (x1+1))).bind fun v12=>
  (jj J 0 16 0 (s27_5 x0 x1 x3 (decide (143<v12))) (e27 J m w27_1 [M1])))
  else
  (jj J 0 16 0 (s27_5 x0 x1 x3 false) (e27 J m w27_1 [M1])))))
  else
  (bif (x2==244) then
  ((idxS x0 (IntKind.wrap .i64 (x1+1))).bind fun v13=>
  (jj J 0 16 0 (s27_5 x0 x1 x3 (decide (143<v13))) (e27 J m w27_1 [M1])))
  else
  (jj J 0 16 0 (s27_5 x0 x1 x3 false) (e27 J m w27_1 [M1]))))))
  else
  (bif (x2==240) then
  ((idxS x0 (IntKind.wrap .i64 (x1+1))).bind fun v14=>
  (bif (decide (v14<144)) then
  (jj J 0 16 0 (s27_5 x0 x1 x3 true) (e27 J m w27_1 [M1]))
  else
  (bif (x2==244) then
  ((idxS x0 (IntKind.wrap .i64 (x1+1))).bind fun v15=>
  (jj J 0 16 0 (s27_5 x0 x1 x3 (decide (143<v15))) (e27 J m w27_1 [M1])))
  else
  (jj J 0 16 0 (s27_5 x0 x1 x3 false) (e27 J m w27_1 [M1])))))
  else
  (bif (x2==244) then
  ((idxS x0 (IntKind.wrap .i64 (x1+1))).bind fun v16=>
  (jj J 0 16 0 (s27_5 x0 x1 x3 (decide (143<v16))) (e27 J m w27_1 [M1])))
  else
  (jj J 0 16 0 (s27_5 x0 x1 x3 false) (e27 J m w27_1 [M1]))))))) (by simp only[jj_eq,qP_j5_eq m M1 rec1 h1];rfl)
theorem qP_j3_eq m M1 rec1 (h1:H27_1 m M1 rec1) x0 x1 x2 x3:e27 jn m w27_3 [M1] (s27_4 x0 x1 x2 x3)=qP_j3 m rec1 x0 x1 x2 x3:=
 tq (g:=fun J=>((zG m x0 (IntKind.wrap .i64 (x1+1)) x3).bind fun r1=>
  (bif (Bool.not r1) then
  some false
  else
  (jj J 0 15 0 (s27_4 x0 x1 x2 x3) (e27 J m w27_2 [M1]))))) (by simp only[jj_eq,qP_j4_eq m M1 rec1 h1];rfl)
theorem qP_j9_eq m M1 rec1 (h1:H27_1 m M1 rec1) x0 x1 x2 x3:e27 jn m w27_4 [M1] (s27_9 x0 x1 x2 x3)=qP_j9 m rec1 x0 x1 x2 x3:=
 tq (g:=fun J=>(bif x3 then
  (jj J 0 13 0 (s27_4 x0 x1 x2 3) (e27 J m w27_3 [M1]))
   else
  some false)) (by simp only[jj_eq,qP_j3_eq m M1 rec1 h1];rfl)
theorem qP_j8_eq m M1 rec1 (h1:H27_1 m M1 rec1) x0 x1 x2 x3:e27 jn m w27_5 [M1] (s27_8 x0 x1 x2 x3)=qP_j8 m rec1 x0 x1 x2 x3:=
 tq (g:=fun J=>(bif x3 then
  (jj J 0 13 0 (s27_4 x0 x1 x2 2) (e27 J m w27_3 [M1]))
   else
  (bif (decide (240≤x2)) then
  (jj J 0 12 0 (s27_9 x0 x1 x2 (decide (x2≤244))) (e27 J m w27_4 [M1]))
  else
  (jj J 0 12 0 (s27_9 x0 x1 x2 false) (e27 J m w27_4 [M1]))))) (by simp only[jj_eq,qP_j3_eq m M1 rec1 h1,qP_j9_eq m M1 rec1 h1];rfl)
theorem qP_j7_eq m M1 rec1 (h1:H27_1 m M1 rec1) x0 x1 x2 x3:e27 jn m w27_6 [M1] (s27_7 x0 x1 x2 x3)=qP_j7 m rec1 x0 x1 x2 x3:=
 tq (g:=fun J=>(bif x3 then
  (jj J 0 13 0 (s27_4 x0 x1 x2 1) (e27 J m w27_3 [M1]))
   else
  (bif (decide (224≤x2)) then
  (jj J 0 10 0 (s27_8 x0 x1 x2 (decide (x2≤239))) (e27 J m w27_5 [M1]))
  else
  (jj J 0 10 0 (s27_8 x0 x1 x2 false) (e27 J m w27_5 [M1]))))) (by simp only[jj_eq,qP_j3_eq m M1 rec1 h1,qP_j8_eq m M1 rec1 h1];rfl)
theorem qP_j2_eq m M1 rec1 (h1:H27_1 m M1 rec1) x0 x1:e27 jn m w27_7 [M1] (s27_2 x0 x1)=qP_j2 m rec1 x0 x1:=
 tq (g:=fun J=>((idxS x0 x1).bind fun v0=>
  (bif (decide (v0<128)) then
  (jj J 0 13 0 (s27_4 x0 x1 v0 0) (e27 J m w27_3 [M1]))
  else
  (bif (decide (194≤v0)) then
  (jj J 0 8 0 (s27_7 x0 x1 v0 (decide (v0≤223))) (e27 J m w27_6 [M1]))
  else
  (jj J 0 8 0 (s27_7 x0 x1 v0 false) (e27 J m w27_6 [M1])))))) (by simp only[jj_eq,qP_j3_eq m M1 rec1 h1,qP_j7_eq m M1 rec1 h1];rfl)
theorem qP_j10_eq m:e27 jn m [1,1] [] s27_10=qP_j10 m:=
 tq (g:=fun J=>some true) (by rfl)
theorem qP_l1_eq m:∀M1 x0 x1,l27 jn m [1,0,1,0] [] M1 (s27_2 x0 x1)=qP_l1 m M1 x0 x1
 |0,_,_=>rfl
 | M1+1,x0,x1=>
   tl (g:=fun J=>(bif (decide (x1<(ByteArray.size x0:Int))) then
  (jj J 0 3 0 (s27_2 x0 x1) (e27 J m w27_7 [M1]))
   else
  (jj J 0 18 0 s27_10 (e27 J m [1,1] [])))) (by simp only[jj_eq,qP_j2_eq m M1 (qP_l1 m M1) (qP_l1_eq m M1),qP_j10_eq m];rfl)
theorem qP_j0_eq m x0 x1:e27 jn m [1,0,1] [] (s27_2 x0 x1)=qP_j0 m x0 x1:=
 tq (g:=fun J=>(jj J 1 2 (Nat.succ m) (s27_2 x0 x1) (l27 J m [1,0,1,0] [] (Nat.succ m)))) (by simp only[jj_eq,qP_l1_eq m];rfl)
theorem qP_eq m a0:e27 jn m [] [] ⟨[(.dat 9 (.str a0))],[],0⟩=qP (m+1) a0:=
 tq (g:=fun J=>(jj J 0 2 0 (s27_2 a0 0) (e27 J m [1,0,1] []))) (by simp only[jj_eq,qP_j0_eq m];rfl)
def w46_0:List Nat:=[1,1,0,1,0]
def w46_3:List Nat:=[1,1,0,1,0,0,1]
def w46_1:List Nat:=w46_3++[1]
def w46_2:List Nat:=w46_3++[0,0,1]
noncomputable def e46 (J:Nat→Nat→Nat→St→Option Bool→Option Bool) (m:Nat) (p ms:List Nat) (σ:St):=evAt Tryz.prog env (ct m) J (m+1) 74 28 Tryz.f74 d13 p ms σ
noncomputable def l46 (J:Nat→Nat→Nat→St→Option Bool→Option Bool) (m:Nat) (p ms:List Nat) (M:Nat) (σ:St):=loopAt Tryz.prog env (ct m) J (m+1) 74 28 Tryz.f74 d13 p ms M σ
noncomputable def s46_6 (x0:ByteArray) (x1:Int):St:=⟨tsOf [(0,(.dat 9 (.str x0))),(3,(.dat 3 (.int x1)))],[],0⟩
noncomputable def s46_5 (x0:ByteArray) (x1:Int) (x2:Bool):St:=⟨tsOf [(0,(.dat 9 (.str x0))),(3,(.dat 3 (.int x1))),(27,(.dat 4 (.bool x2)))],[],0⟩
noncomputable def s46_7:St:=⟨tsOf [],[],0⟩
noncomputable def s46_1 (x0:ByteArray):St:=⟨tsOf [(0,(.dat 9 (.str x0)))],[],0⟩
noncomputable def s46_0 (x0:ByteArray) (x1:Bool):St:=⟨tsOf [(0,(.dat 9 (.str x0))),(11,(.dat 4 (.bool x1)))],[],0⟩
abbrev H46_3 (m M3:Nat) (rec3:ByteArray→Int→Option Bool):Prop:=∀x0 x1,l46 jn m w46_0 [] M3 (s46_6 x0 x1)=rec3 x0 x1
theorem qU_j6_eq m M3 rec3 (h3:H46_3 m M3 rec3) x0 x1:e46 jn m w46_1 [M3] (s46_6 x0 x1)=qU_j6 m rec3 x0 x1:=
 tq (g:=fun J=>(jj J 1 4 M3 (s46_6 x0 (IntKind.wrap .i64 (x1+1))) (l46 J m w46_0 [] M3))) (by simp only[jj_eq,h3];rfl)
theorem qU_j5_eq m M3 rec3 (h3:H46_3 m M3 rec3) x0 x1 x2:e46 jn m w46_2 [M3] (s46_5 x0 x1 x2)=qU_j5 m rec3 x0 x1 x2:=
 tq (g:=fun J=>(bif x2 then
  some false
   else
  (jj J 0 5 0 (s46_6 x0 x1) (e46 J m w46_1 [M3])))) (by simp only[jj_eq,qU_j6_eq m M3 rec3 h3];rfl)
theorem qU_j4_eq m M3 rec3 (h3:H46_3 m M3 rec3) x0 x1:e46 jn m w46_3 [M3] (s46_6 x0 x1)=qU_j4 m rec3 x0 x1:=
 tq (g:=fun J=>((idxS x0 x1).bind fun v0=>
  (bif (decide (v0<32)) then
  (jj J 0 7 0 (s46_5 x0 x1 true) (e46 J m w46_2 [M3]))
  else
  ((idxS x0 x1).bind fun v1=>
  (jj J 0 7 0 (s46_5 x0 x1 (decide (126<v1))) (e46 J m w46_2 [M3])))))) (by simp only[jj_eq,qU_j5_eq m M3 rec3 h3];rfl)
theorem qU_j7_eq m:e46 jn m [1,1,1] [] s46_7=qU_j7 m:=
 tq (g:=fun J=>some true) (by rfl)
theorem qU_l3_eq m:∀M3 x0 x1,l46 jn m w46_0 [] M3 (s46_6 x0 x1)=qU_l3 m M3 x0 x1
 |0,_,_=>rfl
 | M3+1,x0,x1=>
   tl (g:=fun J=>(bif (decide (x1<(ByteArray.size x0:Int))) then
  (jj J 0 6 0 (s46_6 x0 x1) (e46 J m w46_3 [M3]))
   else
  (jj J 0 8 0 s46_7 (e46 J m [1,1,1] [])))) (by simp only[jj_eq,qU_j4_eq m M3 (qU_l3 m M3) (qU_l3_eq m M3),qU_j7_eq m];rfl)
theorem qU_j2_eq m x0 x1:e46 jn m [1,1,0,1] [] (s46_6 x0 x1)=qU_j2 m x0 x1:=
 tq (g:=fun J=>(jj J 1 4 (Nat.succ m) (s46_6 x0 x1) (l46 J m w46_0 [] (Nat.succ m)))) (by simp only[jj_eq,qU_l3_eq m];rfl)
theorem qU_j1_eq m x0:e46 jn m [1,1] [] (s46_1 x0)=qU_j1 m x0:=
 tq (g:=fun J=>(jj J 0 4 0 (s46_6 x0 0) (e46 J m [1,1,0,1] []))) (by simp only[jj_eq,qU_j2_eq m];rfl)
theorem qU_j0_eq m x0 x1:e46 jn m [1,0,1] [] (s46_0 x0 x1)=qU_j0 m x0 x1:=
 tq (g:=fun J=>(bif x1 then
  some false
   else
  (jj J 0 3 0 (s46_1 x0) (e46 J m [1,1] [])))) (by simp only[jj_eq,qU_j1_eq m];rfl)
theorem qU_eq m a0:e46 jn m [] [] ⟨[(.dat 9 (.str a0))],[],0⟩=qU (m+1) a0:=
 tq (g:=fun J=>(bif (decide ((ByteArray.size a0:Int)<1)) then
  (jj J 0 2 0 (s46_0 a0 true) (e46 J m [1,0,1] []))
   else
  (jj J 0 2 0 (s46_0 a0 (decide (128<(ByteArray.size a0:Int)))) (e46 J m [1,0,1] [])))) (by simp only[jj_eq,qU_j0_eq m];rfl)
def w18_6:List Nat:=[1,1,1,1,1]
def w18_5:List Nat:=[1,1,1,1,1,1]
def w18_7:List Nat:=[1,1,1,1,0,1]
def w18_3:List Nat:=w18_5++[1]
def w18_4:List Nat:=w18_5++[0,1]
def w18_0:List Nat:=w18_4++[0]
def w18_2:List Nat:=w18_0++[0,1]
def w18_1:List Nat:=w18_2++[1]
noncomputable def e18 (J:Nat→Nat→Nat→St→Option Bool→Option Bool) (m:Nat) (p ms:List Nat) (σ:St):=evAt Tryz.prog env (ct m) J (m+1) 27 138 Tryz.f27 d13 p ms σ
noncomputable def l18 (J:Nat→Nat→Nat→St→Option Bool→Option Bool) (m:Nat) (p ms:List Nat) (M:Nat) (σ:St):=loopAt Tryz.prog env (ct m) J (m+1) 27 138 Tryz.f27 d13 p ms M σ
noncomputable def s18_10 (x0:Bool) (x1:Int) (x2:Dt):St:=⟨tsOf [(1,(.dat 4 (.bool x0))),(2,(.ptr 0 [] 0)),(7,(.dat 3 (.int x1)))],[(.box 36 (.dat 36 x2))],0⟩
noncomputable def s18_11 (x0:Bool) (x1:Dt):St:=⟨tsOf [(1,(.dat 4 (.bool x0))),(2,(.ptr 0 [] 0))],[(.box 36 (.dat 36 x1))],0⟩
noncomputable def s18_4 (x0 x1:Bool) (x2:Dt):St:=⟨tsOf [(1,(.dat 4 (.bool x0))),(2,(.ptr 0 [] 0)),(79,(.dat 4 (.bool x1)))],[(.box 36 (.dat 36 x2))],0⟩
noncomputable def s18_3 (x0 x1 x2:Bool) (x3:Dt):St:=⟨tsOf [(1,(.dat 4 (.bool x0))),(2,(.ptr 0 [] 0)),(5,(.dat 4 (.bool x1))),(6,(.dat 4 (.bool x2)))],[(.box 36 (.dat 36 x3))],0⟩
noncomputable def s18_2 (x0 x1:Bool) (x2:Dt):St:=⟨tsOf [(1,(.dat 4 (.bool x0))),(2,(.ptr 0 [] 0)),(5,(.dat 4 (.bool x1)))],[(.box 36 (.dat 36 x2))],0⟩
noncomputable def s18_0 (x0 x1:Bool) (x2:Dt):St:=⟨tsOf [(1,(.dat 4 (.bool x0))),(2,(.ptr 0 [] 0)),(27,(.dat 4 (.bool x1)))],[(.box 36 (.dat 36 x2))],0⟩
abbrev H18_8 (m M8:Nat) (rec8:Bool→Int→Dt→Option Bool):Prop:=∀x0 x1 x2,l18 jn m w18_0 [] M8 (s18_10 x0 x1 x2)=rec8 x0 x1 x2
theorem qE_j10_eq m M8 rec8 (h8:H18_8 m M8 rec8) x0 x1 x2:e18 jn m w18_1 [M8] (s18_10 x0 x1 x2)=qE_j10 m (qE m) (qG m) rec8 x0 x1 x2:=
 tq (g:=fun J=>(jj J 1 19 M8 (s18_10 x0 (IntKind.wrap .i64 (x1+1)) x2) (l18 J m w18_0 [] M8))) (by simp only[jj_eq,h8];rfl)
theorem qE_j9_eq m M8 rec8 (h8:H18_8 m M8 rec8) x0 x1 x2:e18 jn m w18_2 [M8] (s18_10 x0 x1 x2)=qE_j9 m (qE m) (qG m) rec8 x0 x1 x2:=
 tq (g:=fun J=>((idx (Dt.L x2 3) x1).bind fun v1=>
  ((qE m v1 x0).bind fun r2=>
  (bif (Bool.not r2) then
  some false
  else
  (jj J 0 20 0 (s18_10 x0 x1 x2) (e18 J m w18_1 [M8])))))) (by simp only[jj_eq,qE_j10_eq m M8 rec8 h8];rfl)
theorem qE_j11_eq m x0 x1:e18 jn m w18_3 [] (s18_11 x0 x1)=qE_j11 m (qE m) (qG m) x0 x1:=
 tq (g:=fun J=>((qG m x1 x0).bind fun r3=>
  some r3)) (by rfl)
theorem qE_l8_eq m:∀M8 x0 x1 x2,l18 jn m w18_0 [] M8 (s18_10 x0 x1 x2)=qE_l8 m (qE m) (qG m) M8 x0 x1 x2
 |0,_,_,_=>rfl
 | M8+1,x0,x1,x2=>
   tl (g:=fun J=>(bif (decide (x1<(List.length (Dt.L x2 3):Int))) then
  (jj J 0 21 0 (s18_10 x0 x1 x2) (e18 J m w18_2 [M8]))
   else
  (jj J 0 23 0 (s18_11 x0 x2) (e18 J m w18_3 [])))) (by simp only[jj_eq,qE_j9_eq m M8 (qE_l8 m (qE m) (qG m) M8) (qE_l8_eq m M8),qE_j11_eq m];rfl)
theorem qE_j7_eq m x0 x1 x2:e18 jn m w18_4 [] (s18_10 x0 x1 x2)=qE_j7 m (qE m) (qG m) x0 x1 x2:=
 tq (g:=fun J=>(jj J 1 19 (Nat.succ m) (s18_10 x0 x1 x2) (l18 J m w18_0 [] (Nat.succ m)))) (by simp only[jj_eq,qE_l8_eq m];rfl)
theorem qE_j6_eq m x0 x1:e18 jn m w18_5 [] (s18_11 x0 x1)=qE_j6 m (qE m) (qG m) x0 x1:=
 tq (g:=fun J=>(jj J 0 19 0 (s18_10 x0 0 x1) (e18 J m w18_4 []))) (by simp only[jj_eq,qE_j7_eq m];rfl)
theorem qE_j5_eq m x0 x1:e18 jn m w18_6 [] (s18_11 x0 x1)=qE_j5 m (qE m) (qG m) x0 x1:=
 tq (g:=fun J=>(bif ((Dt.I x1 0)==9) then
  (bif ((Dt.I x1 1)==0) then
  some true
  else
  some ((Dt.I x1 1)==1))
   else
  (bif ((Dt.I x1 0)==10) then
  some (decide (0≤(Dt.I x1 1)))
  else
  (bif ((Dt.I x1 0)==4) then
  (bif (decide ((ByteArray.size (Dt.S x1 2):Int)≤4096)) then
  ((qP m (Dt.S x1 2)).bind fun r0=>
  some r0)
  else
  some false)
  else
  (bif ((Dt.I x1 0)==7) then
  some (decide ((ByteArray.size (Dt.S x1 2):Int)≤4096))
  else
  (bif ((Dt.I x1 0)==8) then
  some ((ByteArray.size (Dt.S x1 2):Int)==12)
  else
  (jj J 0 18 0 (s18_11 x0 x1) (e18 J m w18_5 [])))))))) (by simp only[jj_eq,qE_j6_eq m];rfl)
theorem qE_j4_eq m x0 x1 x2:e18 jn m w18_7 [] (s18_4 x0 x1 x2)=qE_j4 m (qE m) (qG m) x0 x1 x2:=
 tq (g:=fun J=>(bif x1 then
  some false
   else
  (jj J 0 7 0 (s18_11 x0 x2) (e18 J m w18_6 [])))) (by simp only[jj_eq,qE_j5_eq m];rfl)
theorem qE_j3_eq m x0 x1 x2 x3:e18 jn m [1,1,1,1] [] (s18_3 x0 x1 x2 x3)=qE_j3 m (qE m) (qG m) x0 x1 x2 x3:=
 tq (g:=fun J=>(bif (Bool.not x1) then
  (bif (Bool.not ((ByteArray.toList (Dt.S x3 2))==[])) then
  (jj J 0 6 0 (s18_4 x0 true x3) (e18 J m w18_7 []))
  else
  (bif (Bool.not x2) then
  (bif ((Dt.I x3 1) !=0) then
  (jj J 0 6 0 (s18_4 x0 true x3) (e18 J m w18_7 []))
  else
  (bif (decide ((Dt.I x3 0)<1)) then
  (jj J 0 6 0 (s18_4 x0 true x3) (e18 J m w18_7 []))
  else
  (jj J 0 6 0 (s18_4 x0 (decide (11<(Dt.I x3 0))) x3) (e18 J m w18_7 []))))
  else
  (bif (decide ((Dt.I x3 0)<1)) then
  (jj J 0 6 0 (s18_4 x0 true x3) (e18 J m w18_7 []))
  else
  (jj J 0 6 0 (s18_4 x0 (decide (11<(Dt.I x3 0))) x3) (e18 J m w18_7 [])))))
   else
  (bif (Bool.not x2) then
  (bif ((Dt.I x3 1) !=0) then
  (jj J 0 6 0 (s18_4 x0 true x3) (e18 J m w18_7 []))
  else
  (bif (decide ((Dt.I x3 0)<1)) then
  (jj J 0 6 0 (s18_4 x0 true x3) (e18 J m w18_7 []))
  else
  (jj J 0 6 0 (s18_4 x0 (decide (11<(Dt.I x3 0))) x3) (e18 J m w18_7 []))))
  else
  (bif (decide ((Dt.I x3 0)<1)) then
  (jj J 0 6 0 (s18_4 x0 true x3) (e18 J m w18_7 []))
  else
  (jj J 0 6 0 (s18_4 x0 (decide (11<(Dt.I x3 0))) x3) (e18 J m w18_7 [])))))) (by simp only[jj_eq,qE_j4_eq m];rfl)
theorem qE_j2_eq m x0 x1 x2:e18 jn m [1,1,1] [] (s18_2 x0 x1 x2)=qE_j2 m (qE m) (qG m) x0 x1 x2:=
 tq (g:=fun J=>(bif ((Dt.I x2 0)==3) then
  (jj J 0 5 0 (s18_3 x0 x1 true x2) (e18 J m [1,1,1,1] []))
   else
  (bif ((Dt.I x2 0)==9) then
  (jj J 0 5 0 (s18_3 x0 x1 true x2) (e18 J m [1,1,1,1] []))
  else
  (jj J 0 5 0 (s18_3 x0 x1 ((Dt.I x2 0)==10) x2) (e18 J m [1,1,1,1] []))))) (by simp only[jj_eq,qE_j3_eq m];rfl)
theorem qE_j1_eq m x0 x1:e18 jn m [1,1] [] (s18_11 x0 x1)=qE_j1 m (qE m) (qG m) x0 x1:=
 tq (g:=fun J=>(bif ((Dt.I x1 0)==4) then
  (jj J 0 4 0 (s18_2 x0 true x1) (e18 J m [1,1,1] []))
   else
  (bif ((Dt.I x1 0)==7) then
  (jj J 0 4 0 (s18_2 x0 true x1) (e18 J m [1,1,1] []))
  else
  (jj J 0 4 0 (s18_2 x0 ((Dt.I x1 0)==8) x1) (e18 J m [1,1,1] []))))) (by simp only[jj_eq,qE_j2_eq m];rfl)
theorem qE_j0_eq m x0 x1 x2:e18 jn m [1,0,1] [] (s18_0 x0 x1 x2)=qE_j0 m (qE m) (qG m) x0 x1 x2:=
 tq (g:=fun J=>(bif x1 then
  some false
   else
  (jj J 0 3 0 (s18_11 x0 x2) (e18 J m [1,1] [])))) (by simp only[jj_eq,qE_j1_eq m];rfl)
theorem qE_eq m a0 a1:e18 jn m [] [] ⟨[(.dat 36 a0),(.dat 4 (.bool a1))],[],0⟩=qE (m+1) a0 a1:=
 tq (g:=fun J=>(bif ((Dt.I a0 0) !=6) then
  (bif (decide (0<(List.length (Dt.L a0 3):Int))) then
  (jj J 0 2 0 (s18_0 a1 true a0) (e18 J m [1,0,1] []))
  else
  (bif ((Dt.I a0 0) !=5) then
  (jj J 0 2 0 (s18_0 a1 (decide (0<(List.length (Dt.L a0 4):Int))) a0) (e18 J m [1,0,1] []))
  else
  (jj J 0 2 0 (s18_0 a1 false a0) (e18 J m [1,0,1] []))))
   else
  (bif ((Dt.I a0 0) !=5) then
  (jj J 0 2 0 (s18_0 a1 (decide (0<(List.length (Dt.L a0 4):Int))) a0) (e18 J m [1,0,1] []))
  else
  (jj J 0 2 0 (s18_0 a1 false a0) (e18 J m [1,0,1] []))))) (by simp only[jj_eq,qE_j0_eq m];rfl)
def w28_7:List Nat:=[1,0,1,0,0,1]
def w28_3:List Nat:=w28_7++[1]
def w28_5:List Nat:=w28_7++[0,0,1,1]
def w28_4:List Nat:=w28_5++[1]
def w28_6:List Nat:=w28_7++[0,0,1,0,1]
def w28_0:List Nat:=w28_4++[0]
def w28_2:List Nat:=w28_0++[0,1]
def w28_1:List Nat:=w28_2++[1]
noncomputable def e28 (J:Nat→Nat→Nat→St→Option Bool→Option Bool) (m:Nat) (p ms:List Nat) (σ:St):=evAt Tryz.prog env (ct m) J (m+1) 45 58 Tryz.f45 d13 p ms σ
noncomputable def l28 (J:Nat→Nat→Nat→St→Option Bool→Option Bool) (m:Nat) (p ms:List Nat) (M:Nat) (σ:St):=loopAt Tryz.prog env (ct m) J (m+1) 45 58 Tryz.f45 d13 p ms M σ
noncomputable def s28_8 (x0:Bool) (x1 x2:Int) (x3 x4:Dt):St:=⟨tsOf [(1,(.dat 4 (.bool x0))),(2,(.ptr 0 [] 0)),(5,(.dat 3 (.int x1))),(6,(.ptr 1 [] 0)),(7,(.dat 3 (.int x2)))],[(.box 36 (.dat 36 x3)),(.box 71 (.dat 71 x4))],0⟩
noncomputable def s28_9 (x0:Bool) (x1:Int) (x2:Dt):St:=⟨tsOf [(1,(.dat 4 (.bool x0))),(2,(.ptr 0 [] 0)),(5,(.dat 3 (.int x1)))],[(.box 36 (.dat 36 x2))],0⟩
noncomputable def s28_4 (x0:Bool) (x1:Int) (x2 x3:Dt):St:=⟨tsOf [(1,(.dat 4 (.bool x0))),(2,(.ptr 0 [] 0)),(5,(.dat 3 (.int x1))),(6,(.ptr 1 [] 0))],[(.box 36 (.dat 36 x2)),(.box 71 (.dat 71 x3))],0⟩
noncomputable def s28_3 (x0:Bool) (x1:Int) (x2:Bool) (x3 x4:Dt):St:=⟨tsOf [(1,(.dat 4 (.bool x0))),(2,(.ptr 0 [] 0)),(5,(.dat 3 (.int x1))),(6,(.ptr 1 [] 0)),(43,(.dat 4 (.bool x2)))],[(.box 36 (.dat 36 x3)),(.box 71 (.dat 71 x4))],0⟩
noncomputable def s28_10:St:=⟨tsOf [],[],0⟩
abbrev H28_1 (m M1:Nat) (rec1:Bool→Int→Dt→Option Bool):Prop:=∀x0 x1 x2,l28 jn m [1,0,1,0] [] M1 (s28_9 x0 x1 x2)=rec1 x0 x1 x2
abbrev H28_6 (m M1 M6:Nat) (rec6:Bool→Int→Int→Dt→Dt→Option Bool):Prop:=∀x0 x1 x2 x3 x4,l28 jn m w28_0 [M1] M6 (s28_8 x0 x1 x2 x3 x4)=rec6 x0 x1 x2 x3 x4
theorem qG_j8_eq m M1 rec1 (h1:H28_1 m M1 rec1) M6 rec6 (h6:H28_6 m M1 M6 rec6) x0 x1 x2 x3 x4:e28 jn m w28_1 [M1,M6] (s28_8 x0 x1 x2 x3 x4)=qG_j8 m (qE m) rec1 rec6 x0 x1 x2 x3 x4:=
 tq (g:=fun J=>(jj J 1 8 M6 (s28_8 x0 x1 (IntKind.wrap .i64 (x2+1)) x3 x4) (l28 J m w28_0 [M1] M6))) (by simp only[jj_eq,h6];rfl)
theorem qG_j7_eq m M1 rec1 (h1:H28_1 m M1 rec1) M6 rec6 (h6:H28_6 m M1 M6 rec6) x0 x1 x2 x3 x4:e28 jn m w28_2 [M1,M6] (s28_8 x0 x1 x2 x3 x4)=qG_j7 m (qE m) rec1 rec6 x0 x1 x2 x3 x4:=
 tq (g:=fun J=>((idx (Dt.L x3 4) x2).bind fun v2=>
  (bif ((ByteArray.toList (Dt.S v2 0))==(ByteArray.toList (Dt.S x4 0))) then
  some false
  else
  (jj J 0 9 0 (s28_8 x0 x1 x2 x3 x4) (e28 J m w28_1 [M1,M6]))))) (by simp only[jj_eq,qG_j8_eq m M1 rec1 h1 M6 rec6 h6];rfl)
theorem qG_j9_eq m M1 rec1 (h1:H28_1 m M1 rec1) x0 x1 x2:e28 jn m w28_3 [M1] (s28_9 x0 x1 x2)=qG_j9 m (qE m) rec1 x0 x1 x2:=
 tq (g:=fun J=>(jj J 1 2 M1 (s28_9 x0 (IntKind.wrap .i64 (x1+1)) x2) (l28 J m [1,0,1,0] [] M1))) (by simp only[jj_eq,h1];rfl)
theorem qG_l6_eq m M1 rec1 (h1:H28_1 m M1 rec1):∀M6 x0 x1 x2 x3 x4,l28 jn m w28_0 [M1] M6 (s28_8 x0 x1 x2 x3 x4)=qG_l6 m (qE m) rec1 M6 x0 x1 x2 x3 x4
 |0,_,_,_,_,_=>rfl
 | M6+1,x0,x1,x2,x3,x4=>
   tl (g:=fun J=>(bif (decide (x2<x1)) then
  (jj J 0 10 0 (s28_8 x0 x1 x2 x3 x4) (e28 J m w28_2 [M1,M6]))
   else
  (jj J 0 3 0 (s28_9 x0 x1 x3) (e28 J m w28_3 [M1])))) (by simp only[jj_eq,qG_j7_eq m M1 rec1 h1 M6 (qG_l6 m (qE m) rec1 M6) (qG_l6_eq m M1 rec1 h1 M6),qG_j9_eq m M1 rec1 h1];rfl)
theorem qG_j5_eq m M1 rec1 (h1:H28_1 m M1 rec1) x0 x1 x2 x3 x4:e28 jn m w28_4 [M1] (s28_8 x0 x1 x2 x3 x4)=qG_j5 m (qE m) rec1 x0 x1 x2 x3 x4:=
 tq (g:=fun J=>(jj J 1 8 (Nat.succ m) (s28_8 x0 x1 x2 x3 x4) (l28 J m w28_0 [M1] (Nat.succ m)))) (by simp only[jj_eq,qG_l6_eq m M1 rec1 h1];rfl)
theorem qG_j4_eq m M1 rec1 (h1:H28_1 m M1 rec1) x0 x1 x2 x3:e28 jn m w28_5 [M1] (s28_4 x0 x1 x2 x3)=qG_j4 m (qE m) rec1 x0 x1 x2 x3:=
 tq (g:=fun J=>(jj J 0 8 0 (s28_8 x0 x1 0 x2 x3) (e28 J m w28_4 [M1]))) (by simp only[jj_eq,qG_j5_eq m M1 rec1 h1];rfl)
theorem qG_j3_eq m M1 rec1 (h1:H28_1 m M1 rec1) x0 x1 x2 x3 x4:e28 jn m w28_6 [M1] (s28_3 x0 x1 x2 x3 x4)=qG_j3 m (qE m) rec1 x0 x1 x2 x3 x4:=
 tq (g:=fun J=>(bif x2 then
  some false
   else
  (jj J 0 7 0 (s28_4 x0 x1 x3 x4) (e28 J m w28_5 [M1])))) (by simp only[jj_eq,qG_j4_eq m M1 rec1 h1];rfl)
theorem qG_j2_eq m M1 rec1 (h1:H28_1 m M1 rec1) x0 x1 x2:e28 jn m w28_7 [M1] (s28_9 x0 x1 x2)=qG_j2 m (qE m) rec1 x0 x1 x2:=
 tq (g:=fun J=>((idx (Dt.L x2 4) x1).bind fun v0=>
  (bif x0 then
  ((qT m (Dt.S v0 0)).bind fun r1=>
  (bif (Bool.not r1) then
  (jj J 0 6 0 (s28_3 x0 x1 true x2 v0) (e28 J m w28_6 [M1]))
  else
  (bif (Bool.not x0) then
  ((qU m (Dt.S v0 0)).bind fun r3=>
  (bif (Bool.not r3) then
  (jj J 0 6 0 (s28_3 x0 x1 true x2 v0) (e28 J m w28_6 [M1]))
  else
  ((qE m (Dt.fld v0 1) x0).bind fun r4=>
  (jj J 0 6 0 (s28_3 x0 x1 (Bool.not r4) x2 v0) (e28 J m w28_6 [M1])))))
  else
  ((qE m (Dt.fld v0 1) x0).bind fun r5=>
  (jj J 0 6 0 (s28_3 x0 x1 (Bool.not r5) x2 v0) (e28 J m w28_6 [M1]))))))
  else
  (bif (Bool.not x0) then
  ((qU m (Dt.S v0 0)).bind fun r6=>
  (bif (Bool.not r6) then
  (jj J 0 6 0 (s28_3 x0 x1 true x2 v0) (e28 J m w28_6 [M1]))
  else
  ((qE m (Dt.fld v0 1) x0).bind fun r7=>
  (jj J 0 6 0 (s28_3 x0 x1 (Bool.not r7) x2 v0) (e28 J m w28_6 [M1])))))
  else
  ((qE m (Dt.fld v0 1) x0).bind fun r8=>
  (jj J 0 6 0 (s28_3 x0 x1 (Bool.not r8) x2 v0) (e28 J m w28_6 [M1]))))))) (by simp only[jj_eq,qG_j3_eq m M1 rec1 h1];rfl)
theorem qG_j10_eq m:e28 jn m [1,1] [] s28_10=qG_j10 m (qE m):=
 tq (g:=fun J=>some true) (by rfl)
theorem qG_l1_eq m:∀M1 x0 x1 x2,l28 jn m [1,0,1,0] [] M1 (s28_9 x0 x1 x2)=qG_l1 m (qE m) M1 x0 x1 x2
 |0,_,_,_=>rfl
 | M1+1,x0,x1,x2=>
   tl (g:=fun J=>(bif (decide (x1<(List.length (Dt.L x2 4):Int))) then
  (jj J 0 4 0 (s28_9 x0 x1 x2) (e28 J m w28_7 [M1]))
   else
  (jj J 0 12 0 s28_10 (e28 J m [1,1] [])))) (by simp only[jj_eq,qG_j2_eq m M1 (qG_l1 m (qE m) M1) (qG_l1_eq m M1),qG_j10_eq m];rfl)
theorem qG_j0_eq m x0 x1 x2:e28 jn m [1,0,1] [] (s28_9 x0 x1 x2)=qG_j0 m (qE m) x0 x1 x2:=
 tq (g:=fun J=>(jj J 1 2 (Nat.succ m) (s28_9 x0 x1 x2) (l28 J m [1,0,1,0] [] (Nat.succ m)))) (by simp only[jj_eq,qG_l1_eq m];rfl)
theorem qG_eq m a0 a1:e28 jn m [] [] ⟨[(.dat 36 a0),(.dat 4 (.bool a1))],[],0⟩=qG (m+1) a0 a1:=
 tq (g:=fun J=>(jj J 0 2 0 (s28_9 a1 0 a0) (e28 J m [1,0,1] []))) (by simp only[jj_eq,qG_j0_eq m];rfl)
noncomputable def e7 (J:Nat→Nat→Nat→St→Option Bool→Option Bool) (m:Nat) (p ms:List Nat) (σ:St):=evAt Tryz.prog env (ct m) J (m+1) 13 15 Tryz.f13 d13 p ms σ
theorem yC_eq m a0:e7 jn m [] [] ⟨[(.dat 36 a0)],[],0⟩=yC (m+1) a0:=
 tq (g:=fun J=>((yI m a0).bind fun r0=>
  (bif (decide (r0≤16)) then
  ((yH m a0).bind fun r1=>
  (bif (decide (r1≤1024)) then
  ((qE m a0 true).bind fun r2=>
  some r2)
  else
  some false))
  else
  some false))) (by rfl)
def w1_0:List Nat:=[1,1,0,1,0]
def w1_3:List Nat:=[1,1,0,1,0,0,1]
def w1_1:List Nat:=w1_3++[1]
def w1_2:List Nat:=w1_3++[0,0,1]
noncomputable def e1 (J:Nat→Nat→Nat→St→Option Bool→Option Bool) (m:Nat) (p ms:List Nat) (σ:St):=evAt Tryz.prog env (ct m) J (m+1) 5 27 Tryz.f5 d13 p ms σ
noncomputable def l1 (J:Nat→Nat→Nat→St→Option Bool→Option Bool) (m:Nat) (p ms:List Nat) (M:Nat) (σ:St):=loopAt Tryz.prog env (ct m) J (m+1) 5 27 Tryz.f5 d13 p ms M σ
noncomputable def s1_5 (x0:List Dt) (x1:Int):St:=⟨tsOf [(0,(.dat 23 (.lst x0))),(3,(.dat 3 (.int x1)))],[],0⟩
noncomputable def s1_4 (x0:List Dt) (x1:Int) (x2:Bool):St:=⟨tsOf [(0,(.dat 23 (.lst x0))),(3,(.dat 3 (.int x1))),(26,(.dat 4 (.bool x2)))],[],0⟩
noncomputable def s1_6:St:=⟨tsOf [],[],0⟩
noncomputable def s1_0 (x0:List Dt):St:=⟨tsOf [(0,(.dat 23 (.lst x0)))],[],0⟩
abbrev H1_2 (m M2:Nat) (rec2:List Dt→Int→Option Bool):Prop:=∀x0 x1,l1 jn m w1_0 [] M2 (s1_5 x0 x1)=rec2 x0 x1
theorem zI_j5_eq m M2 rec2 (h2:H1_2 m M2 rec2) x0 x1:e1 jn m w1_1 [M2] (s1_5 x0 x1)=zI_j5 m rec2 x0 x1:=
 tq (g:=fun J=>(jj J 1 4 M2 (s1_5 x0 (IntKind.wrap .i64 (x1+1))) (l1 J m w1_0 [] M2))) (by simp only[jj_eq,h2];rfl)
theorem zI_j4_eq m M2 rec2 (h2:H1_2 m M2 rec2) x0 x1 x2:e1 jn m w1_2 [M2] (s1_4 x0 x1 x2)=zI_j4 m rec2 x0 x1 x2:=
 tq (g:=fun J=>(bif x2 then
  some false
   else
  (jj J 0 5 0 (s1_5 x0 x1) (e1 J m w1_1 [M2])))) (by simp only[jj_eq,zI_j5_eq m M2 rec2 h2];rfl)
theorem zI_j3_eq m M2 rec2 (h2:H1_2 m M2 rec2) x0 x1:e1 jn m w1_3 [M2] (s1_5 x0 x1)=zI_j3 m rec2 x0 x1:=
 tq (g:=fun J=>((idx x0 x1).bind fun v0=>
  (bif ((Dt.I v0 0) !=5) then
  (jj J 0 7 0 (s1_4 x0 x1 true) (e1 J m w1_2 [M2]))
  else
  ((idx x0 x1).bind fun v1=>
  ((yC m v1).bind fun r2=>
  (jj J 0 7 0 (s1_4 x0 x1 (Bool.not r2)) (e1 J m w1_2 [M2]))))))) (by simp only[jj_eq,zI_j4_eq m M2 rec2 h2];rfl)
theorem zI_j6_eq m:e1 jn m [1,1,1] [] s1_6=zI_j6 m:=
 tq (g:=fun J=>some true) (by rfl)
theorem zI_l2_eq m:∀M2 x0 x1,l1 jn m w1_0 [] M2 (s1_5 x0 x1)=zI_l2 m M2 x0 x1
 |0,_,_=>rfl
 | M2+1,x0,x1=>
   tl (g:=fun J=>(bif (decide (x1<(List.length x0:Int))) then
  (jj J 0 6 0 (s1_5 x0 x1) (e1 J m w1_3 [M2]))
   else
  (jj J 0 8 0 s1_6 (e1 J m [1,1,1] [])))) (by simp only[jj_eq,zI_j3_eq m M2 (zI_l2 m M2) (zI_l2_eq m M2),zI_j6_eq m];rfl)
theorem zI_j1_eq m x0 x1:e1 jn m [1,1,0,1] [] (s1_5 x0 x1)=zI_j1 m x0 x1:=
 tq (g:=fun J=>(jj J 1 4 (Nat.succ m) (s1_5 x0 x1) (l1 J m w1_0 [] (Nat.succ m)))) (by simp only[jj_eq,zI_l2_eq m];rfl)
theorem zI_j0_eq m x0:e1 jn m [1,1] [] (s1_0 x0)=zI_j0 m x0:=
 tq (g:=fun J=>(jj J 0 4 0 (s1_5 x0 0) (e1 J m [1,1,0,1] []))) (by simp only[jj_eq,zI_j1_eq m];rfl)
theorem zI_eq m a0:e1 jn m [] [] ⟨[(.dat 23 (.lst a0))],[],0⟩=zI (m+1) a0:=
 tq (g:=fun J=>(bif (decide (60<(List.length a0:Int))) then
  some false
   else
  (jj J 0 3 0 (s1_0 a0) (e1 J m [1,1] [])))) (by simp only[jj_eq,zI_j0_eq m];rfl)
noncomputable def e55 (J:Nat→Nat→Nat→St→Option Int→Option Int) (m:Nat) (p ms:List Nat) (σ:St):=evAt Tryz.prog env (ct m) J (m+1) 82 11 Tryz.f82 d25 p ms σ
noncomputable def s55_1:St:=⟨tsOf [],[],0⟩
noncomputable def s55_0 (x0 x1:Int):St:=⟨tsOf [(0,(.dat 3 (.int x0))),(1,(.dat 3 (.int x1)))],[],0⟩
theorem zU_j1_eq m:e55 jn m [1,1,1] [] s55_1=zU_j1 m:=
 tq (g:=fun J=>some 0) (by rfl)
theorem zU_j0_eq m x0 x1:e55 jn m [1,1] [] (s55_0 x0 x1)=zU_j0 m x0 x1:=
 tq (g:=fun J=>(bif (decide (x1<x0)) then
  some 1
   else
  (jj J 0 5 0 s55_1 (e55 J m [1,1,1] [])))) (by simp only[jj_eq,zU_j1_eq m];rfl)
theorem zU_eq m a0 a1:e55 jn m [] [] ⟨[(.dat 3 (.int a0)),(.dat 3 (.int a1))],[],0⟩=zU (m+1) a0 a1:=
 tq (g:=fun J=>(bif (decide (a0<a1)) then
  some (-1)
   else
  (jj J 0 3 0 (s55_0 a0 a1) (e55 J m [1,1] [])))) (by simp only[jj_eq,zU_j0_eq m];rfl)
def w56_1:List Nat:=[1,0,1,0,0,1]
def w56_0:List Nat:=w56_1++[1]
noncomputable def e56 (J:Nat→Nat→Nat→St→Option Int→Option Int) (m:Nat) (p ms:List Nat) (σ:St):=evAt Tryz.prog env (ct m) J (m+1) 83 39 Tryz.f83 d25 p ms σ
noncomputable def l56 (J:Nat→Nat→Nat→St→Option Int→Option Int) (m:Nat) (p ms:List Nat) (M:Nat) (σ:St):=loopAt Tryz.prog env (ct m) J (m+1) 83 39 Tryz.f83 d25 p ms M σ
noncomputable def s56_3 (x0 x1:ByteArray) (x2:Int):St:=⟨tsOf [(0,(.dat 9 (.str x0))),(1,(.dat 9 (.str x1))),(5,(.dat 3 (.int x2)))],[],0⟩
noncomputable def s56_4 (x0 x1:ByteArray):St:=⟨tsOf [(0,(.dat 9 (.str x0))),(1,(.dat 9 (.str x1)))],[],0⟩
abbrev H56_1 (m M1:Nat) (rec1:ByteArray→ByteArray→Int→Option Int):Prop:=∀x0 x1 x2,l56 jn m [1,0,1,0] [] M1 (s56_3 x0 x1 x2)=rec1 x0 x1 x2
theorem zN_j3_eq m M1 rec1 (h1:H56_1 m M1 rec1) x0 x1 x2:e56 jn m w56_0 [M1] (s56_3 x0 x1 x2)=zN_j3 m rec1 x0 x1 x2:=
 tq (g:=fun J=>(jj J 1 2 M1 (s56_3 x0 x1 (IntKind.wrap .i64 (x2+1))) (l56 J m [1,0,1,0] [] M1))) (by simp only[jj_eq,h1];rfl)
theorem zN_j2_eq m M1 rec1 (h1:H56_1 m M1 rec1) x0 x1 x2:e56 jn m w56_1 [M1] (s56_3 x0 x1 x2)=zN_j2 m rec1 x0 x1 x2:=
 tq (g:=fun J=>((idxS x0 x2).bind fun v0=>
  ((idxS x1 x2).bind fun v1=>
  (bif (v0 !=v1) then
  ((idxS x0 x2).bind fun v2=>
  ((idxS x1 x2).bind fun v3=>
  ((zU m (IntKind.wrap .i64 v2) (IntKind.wrap .i64 v3)).bind fun r4=>
  some r4)))
  else
  (jj J 0 3 0 (s56_3 x0 x1 x2) (e56 J m w56_0 [M1])))))) (by simp only[jj_eq,zN_j3_eq m M1 rec1 h1];rfl)
theorem zN_j4_eq m x0 x1:e56 jn m [1,1] [] (s56_4 x0 x1)=zN_j4 m x0 x1:=
 tq (g:=fun J=>((zU m (ByteArray.size x0:Int) (ByteArray.size x1:Int)).bind fun r5=>
  some r5)) (by rfl)
theorem zN_l1_eq m:∀M1 x0 x1 x2,l56 jn m [1,0,1,0] [] M1 (s56_3 x0 x1 x2)=zN_l1 m M1 x0 x1 x2
 |0,_,_,_=>rfl
 | M1+1,x0,x1,x2=>
   tl (g:=fun J=>(bif (decide (x2<(ByteArray.size x0:Int))) then
  (bif (decide (x2<(ByteArray.size x1:Int))) then
  (jj J 0 4 0 (s56_3 x0 x1 x2) (e56 J m w56_1 [M1]))
  else
  (jj J 0 6 0 (s56_4 x0 x1) (e56 J m [1,1] [])))
   else
  (jj J 0 6 0 (s56_4 x0 x1) (e56 J m [1,1] [])))) (by simp only[jj_eq,zN_j2_eq m M1 (zN_l1 m M1) (zN_l1_eq m M1),zN_j4_eq m];rfl)
theorem zN_j0_eq m x0 x1 x2:e56 jn m [1,0,1] [] (s56_3 x0 x1 x2)=zN_j0 m x0 x1 x2:=
 tq (g:=fun J=>(jj J 1 2 (Nat.succ m) (s56_3 x0 x1 x2) (l56 J m [1,0,1,0] [] (Nat.succ m)))) (by simp only[jj_eq,zN_l1_eq m];rfl)
theorem zN_eq m a0 a1:e56 jn m [] [] ⟨[(.dat 9 (.str a0)),(.dat 9 (.str a1))],[],0⟩=zN (m+1) a0 a1:=
 tq (g:=fun J=>(jj J 0 2 0 (s56_3 a0 a1 0) (e56 J m [1,0,1] []))) (by simp only[jj_eq,zN_j0_eq m];rfl)
def w43_12:List Nat:=[1,1,0,1,0,1]
def w43_11:List Nat:=w43_12++[1,1]
def w43_3:List Nat:=w43_11++[1,1,0,1]
def w43_4:List Nat:=w43_11++[1,1,0,0,1]
def w43_0:List Nat:=w43_4++[0]
def w43_9:List Nat:=w43_11++[1,1,1,1,0,1]
def w43_10:List Nat:=w43_11++[1,1,1,1,0,0,1]
def w43_2:List Nat:=w43_0++[0,1]
def w43_5:List Nat:=w43_10++[0]
def w43_1:List Nat:=w43_2++[1]
def w43_8:List Nat:=w43_5++[0,1]
def w43_6:List Nat:=w43_8++[1]
def w43_7:List Nat:=w43_8++[0,0,1,1]
noncomputable def e43 (J:Nat→Nat→Nat→St→Option Int→Option Int) (m:Nat) (p ms:List Nat) (σ:St):=evAt Tryz.prog env (ct m) J (m+1) 54 130 Tryz.f54 d25 p ms σ
noncomputable def l43 (J:Nat→Nat→Nat→St→Option Int→Option Int) (m:Nat) (p ms:List Nat) (M:Nat) (σ:St):=loopAt Tryz.prog env (ct m) J (m+1) 54 130 Tryz.f54 d25 p ms M σ
noncomputable def s43_6 (x0:Int) (x1 x2:Dt):St:=⟨tsOf [(2,(.ptr 0 [] 0)),(3,(.ptr 1 [] 0)),(5,(.dat 3 (.int x0)))],[(.box 36 (.dat 36 x1)),(.box 36 (.dat 36 x2))],0⟩
noncomputable def s43_7 (x0 x1:Dt):St:=⟨tsOf [(2,(.ptr 0 [] 0)),(3,(.ptr 1 [] 0))],[(.box 36 (.dat 36 x0)),(.box 36 (.dat 36 x1))],0⟩
noncomputable def s43_12 (x0:Int) (x1 x2:Dt):St:=⟨tsOf [(2,(.ptr 0 [] 0)),(3,(.ptr 1 [] 0)),(7,(.dat 3 (.int x0)))],[(.box 36 (.dat 36 x1)),(.box 36 (.dat 36 x2))],0⟩
noncomputable def s43_11 (x0 x1:Int) (x2 x3:Dt):St:=⟨tsOf [(2,(.ptr 0 [] 0)),(3,(.ptr 1 [] 0)),(7,(.dat 3 (.int x0))),(8,(.dat 3 (.int x1)))],[(.box 36 (.dat 36 x2)),(.box 36 (.dat 36 x3))],0⟩
noncomputable def s43_14:St:=⟨tsOf [],[],0⟩
noncomputable def s43_2 (x0:Int) (x1:Bool) (x2 x3:Dt):St:=⟨tsOf [(2,(.ptr 0 [] 0)),(3,(.ptr 1 [] 0)),(20,(.dat 3 (.int x0))),(30,(.dat 4 (.bool x1)))],[(.box 36 (.dat 36 x2)),(.box 36 (.dat 36 x3))],0⟩
noncomputable def s43_1 (x0:Int) (x1:Bool) (x2 x3:Dt):St:=⟨tsOf [(2,(.ptr 0 [] 0)),(3,(.ptr 1 [] 0)),(20,(.dat 3 (.int x0))),(21,(.dat 4 (.bool x1)))],[(.box 36 (.dat 36 x2)),(.box 36 (.dat 36 x3))],0⟩
abbrev H43_4 (m M4:Nat) (rec4:Int→Dt→Dt→Option Int):Prop:=∀x0 x1 x2,l43 jn m w43_0 [] M4 (s43_6 x0 x1 x2)=rec4 x0 x1 x2
theorem qB_j6_eq m M4 rec4 (h4:H43_4 m M4 rec4) x0 x1 x2:e43 jn m w43_1 [M4] (s43_6 x0 x1 x2)=qB_j6 m (qB m) rec4 x0 x1 x2:=
 tq (g:=fun J=>(jj J 1 14 M4 (s43_6 (IntKind.wrap .i64 (x0+1)) x1 x2) (l43 J m w43_0 [] M4))) (by simp only[jj_eq,h4];rfl)
theorem qB_j5_eq m M4 rec4 (h4:H43_4 m M4 rec4) x0 x1 x2:e43 jn m w43_2 [M4] (s43_6 x0 x1 x2)=qB_j5 m (qB m) rec4 x0 x1 x2:=
 tq (g:=fun J=>((idx (Dt.L x1 3) x0).bind fun v3=>
  ((idx (Dt.L x2 3) x0).bind fun v4=>
  ((qB m v3 v4).bind fun r5=>
  (bif (r5 !=0) then
  some r5
  else
  (jj J 0 15 0 (s43_6 x0 x1 x2) (e43 J m w43_1 [M4]))))))) (by simp only[jj_eq,qB_j6_eq m M4 rec4 h4];rfl)
theorem qB_j7_eq m x0 x1:e43 jn m w43_3 [] (s43_7 x0 x1)=qB_j7 m (qB m) x0 x1:=
 tq (g:=fun J=>((zU m (List.length (Dt.L x0 3):Int) (List.length (Dt.L x1 3):Int)).bind fun r6=>
  some r6)) (by rfl)
theorem qB_l4_eq m:∀M4 x0 x1 x2,l43 jn m w43_0 [] M4 (s43_6 x0 x1 x2)=qB_l4 m (qB m) M4 x0 x1 x2
 |0,_,_,_=>rfl
 | M4+1,x0,x1,x2=>
   tl (g:=fun J=>(bif (decide (x0<(List.length (Dt.L x1 3):Int))) then
  (bif (decide (x0<(List.length (Dt.L x2 3):Int))) then
  (jj J 0 16 0 (s43_6 x0 x1 x2) (e43 J m w43_2 [M4]))
  else
  (jj J 0 19 0 (s43_7 x1 x2) (e43 J m w43_3 [])))
   else
  (jj J 0 19 0 (s43_7 x1 x2) (e43 J m w43_3 [])))) (by simp only[jj_eq,qB_j5_eq m M4 (qB_l4 m (qB m) M4) (qB_l4_eq m M4),qB_j7_eq m];rfl)
theorem qB_j3_eq m x0 x1 x2:e43 jn m w43_4 [] (s43_6 x0 x1 x2)=qB_j3 m (qB m) x0 x1 x2:=
 tq (g:=fun J=>(jj J 1 14 (Nat.succ m) (s43_6 x0 x1 x2) (l43 J m w43_0 [] (Nat.succ m)))) (by simp only[jj_eq,qB_l4_eq m];rfl)
abbrev H43_9 (m M9:Nat) (rec9:Int→Dt→Dt→Option Int):Prop:=∀x0 x1 x2,l43 jn m w43_5 [] M9 (s43_12 x0 x1 x2)=rec9 x0 x1 x2
theorem qB_j12_eq m M9 rec9 (h9:H43_9 m M9 rec9) x0 x1 x2:e43 jn m w43_6 [M9] (s43_12 x0 x1 x2)=qB_j12 m (qB m) rec9 x0 x1 x2:=
 tq (g:=fun J=>(jj J 1 22 M9 (s43_12 (IntKind.wrap .i64 (x0+1)) x1 x2) (l43 J m w43_5 [] M9))) (by simp only[jj_eq,h9];rfl)
theorem qB_j11_eq m M9 rec9 (h9:H43_9 m M9 rec9) x0 x1 x2 x3:e43 jn m w43_7 [M9] (s43_11 x0 x1 x2 x3)=qB_j11 m (qB m) rec9 x0 x1 x2 x3:=
 tq (g:=fun J=>(bif (x1 !=0) then
  some x1
   else
  (jj J 0 23 0 (s43_12 x0 x2 x3) (e43 J m w43_6 [M9])))) (by simp only[jj_eq,qB_j12_eq m M9 rec9 h9];rfl)
theorem qB_j10_eq m M9 rec9 (h9:H43_9 m M9 rec9) x0 x1 x2:e43 jn m w43_8 [M9] (s43_12 x0 x1 x2)=qB_j10 m (qB m) rec9 x0 x1 x2:=
 tq (g:=fun J=>((idx (Dt.L x1 4) x0).bind fun v7=>
  ((idx (Dt.L x2 4) x0).bind fun v8=>
  ((zN m (Dt.S v7 0) (Dt.S v8 0)).bind fun r9=>
  (bif (r9==0) then
  ((idx (Dt.L x1 4) x0).bind fun v10=>
  ((idx (Dt.L x2 4) x0).bind fun v11=>
  ((qB m (Dt.fld v10 1) (Dt.fld v11 1)).bind fun r12=>
  (jj J 0 27 0 (s43_11 x0 r12 x1 x2) (e43 J m w43_7 [M9])))))
  else
  (jj J 0 27 0 (s43_11 x0 r9 x1 x2) (e43 J m w43_7 [M9]))))))) (by simp only[jj_eq,qB_j11_eq m M9 rec9 h9];rfl)
theorem qB_j13_eq m x0 x1:e43 jn m w43_9 [] (s43_7 x0 x1)=qB_j13 m (qB m) x0 x1:=
 tq (g:=fun J=>((zU m (List.length (Dt.L x0 4):Int) (List.length (Dt.L x1 4):Int)).bind fun r13=>
  some r13)) (by rfl)
theorem qB_l9_eq m:∀M9 x0 x1 x2,l43 jn m w43_5 [] M9 (s43_12 x0 x1 x2)=qB_l9 m (qB m) M9 x0 x1 x2
 |0,_,_,_=>rfl
 | M9+1,x0,x1,x2=>
   tl (g:=fun J=>(bif (decide (x0<(List.length (Dt.L x1 4):Int))) then
  (bif (decide (x0<(List.length (Dt.L x2 4):Int))) then
  (jj J 0 24 0 (s43_12 x0 x1 x2) (e43 J m w43_8 [M9]))
  else
  (jj J 0 29 0 (s43_7 x1 x2) (e43 J m w43_9 [])))
   else
  (jj J 0 29 0 (s43_7 x1 x2) (e43 J m w43_9 [])))) (by simp only[jj_eq,qB_j10_eq m M9 (qB_l9 m (qB m) M9) (qB_l9_eq m M9),qB_j13_eq m];rfl)
theorem qB_j8_eq m x0 x1 x2:e43 jn m w43_10 [] (s43_12 x0 x1 x2)=qB_j8 m (qB m) x0 x1 x2:=
 tq (g:=fun J=>(jj J 1 22 (Nat.succ m) (s43_12 x0 x1 x2) (l43 J m w43_5 [] (Nat.succ m)))) (by simp only[jj_eq,qB_l9_eq m];rfl)
theorem qB_j14_eq m:e43 jn m [1,1,1] [] s43_14=qB_j14 m (qB m):=
 tq (g:=fun J=>some 0) (by rfl)
theorem qB_j2_eq m x0 x1 x2 x3:e43 jn m w43_11 [] (s43_2 x0 x1 x2 x3)=qB_j2 m (qB m) x0 x1 x2 x3:=
 tq (g:=fun J=>(bif x1 then
  ((zN m (Dt.S x2 2) (Dt.S x3 2)).bind fun r2=>
  some r2)
   else
  (bif (x0==6) then
  (jj J 0 14 0 (s43_6 0 x2 x3) (e43 J m w43_4 []))
  else
  (bif (x0==5) then
  (jj J 0 22 0 (s43_12 0 x2 x3) (e43 J m w43_10 []))
  else
  (jj J 0 30 0 s43_14 (e43 J m [1,1,1] [])))))) (by simp only[jj_eq,qB_j3_eq m,qB_j8_eq m,qB_j14_eq m];rfl)
theorem qB_j1_eq m x0 x1 x2 x3:e43 jn m w43_12 [] (s43_1 x0 x1 x2 x3)=qB_j1 m (qB m) x0 x1 x2 x3:=
 tq (g:=fun J=>(bif x1 then
  ((zU m (Dt.I x2 1) (Dt.I x3 1)).bind fun r1=>
  some r1)
   else
  (bif (x0==4) then
  (jj J 0 11 0 (s43_2 x0 (x0==4) x2 x3) (e43 J m w43_11 []))
  else
  (bif (x0==7) then
  (jj J 0 11 0 (s43_2 x0 (x0==7) x2 x3) (e43 J m w43_11 []))
  else
  (jj J 0 11 0 (s43_2 x0 (x0==8) x2 x3) (e43 J m w43_11 [])))))) (by simp only[jj_eq,qB_j2_eq m];rfl)
theorem qB_j0_eq m x0 x1:e43 jn m [1,1] [] (s43_7 x0 x1)=qB_j0 m (qB m) x0 x1:=
 tq (g:=fun J=>(bif ((Dt.I x0 0)==3) then
  (jj J 0 7 0 (s43_1 (Dt.I x0 0) ((Dt.I x0 0)==3) x0 x1) (e43 J m w43_12 []))
   else
  (bif ((Dt.I x0 0)==9) then
  (jj J 0 7 0 (s43_1 (Dt.I x0 0) ((Dt.I x0 0)==9) x0 x1) (e43 J m w43_12 []))
  else
  (jj J 0 7 0 (s43_1 (Dt.I x0 0) ((Dt.I x0 0)==10) x0 x1) (e43 J m w43_12 []))))) (by simp only[jj_eq,qB_j1_eq m];rfl)
theorem qB_eq m a0 a1:e43 jn m [] [] ⟨[(.dat 36 a0),(.dat 36 a1)],[],0⟩=qB (m+1) a0 a1:=
 tq (g:=fun J=>(bif ((Dt.I a0 0) !=(Dt.I a1 0)) then
  ((zU m (Dt.I a0 0) (Dt.I a1 0)).bind fun r0=>
  some r0)
   else
  (jj J 0 3 0 (s43_7 a0 a1) (e43 J m [1,1] [])))) (by simp only[jj_eq,qB_j0_eq m];rfl)
noncomputable def e57 (J:Nat→Nat→Nat→St→Option Int→Option Int) (m:Nat) (p ms:List Nat) (σ:St):=evAt Tryz.prog env (ct m) J (m+1) 94 14 Tryz.f94 d25 p ms σ
noncomputable def s57_0 (x0:Dt) (x1 x2:Int):St:=⟨tsOf [(2,(.ptr 0 [] 0)),(3,(.ptr 1 [] 0)),(5,(.ptr 2 [] 0))],[(.box 36 (.dat 36 x0)),(.box 3 (.dat 3 (.int x1))),(.box 3 (.dat 3 (.int x2)))],0⟩
theorem zZ_j0_eq m x0 x1 x2:e57 jn m [1,1,1] [] (s57_0 x0 x1 x2)=zZ_j0 m (i67 m) x0 x1 x2:=
 tq (g:=fun J=>((i67 m x0 x2 x1).bind fun r0=>
  some r0.1)) (by rfl)
theorem zZ_eq m a0 a1:e57 jn m [] [] ⟨[(.dat 36 a0),(.dat 3 (.int a1))],[],0⟩=zZ (m+1) a0 a1:=
 tq (g:=fun J=>(bif (1==a1) then
  some 1
   else
  (jj J 0 4 0 (s57_0 a0 a1 1) (e57 J m [1,1,1] [])))) (by simp only[jj_eq,zZ_j0_eq m];rfl)
def w67_3:List Nat:=[1,1,0,1,0,1]
def w67_0:List Nat:=w67_3++[0]
def w67_7:List Nat:=[1,1,0,1,1,1,0,1]
def w67_4:List Nat:=w67_7++[0]
def w67_2:List Nat:=w67_0++[0,1,1]
def w67_1:List Nat:=w67_2++[1]
def w67_6:List Nat:=w67_4++[0,1,1]
def w67_5:List Nat:=w67_6++[1]
noncomputable def e67 (J:Nat→Nat→Nat→St→Option (Int×Int)→Option (Int×Int)) (m:Nat) (p ms:List Nat) (σ:St):=evAt Tryz.prog env (ct m) J (m+1) 110 39 Tryz.f110 d67 p ms σ
noncomputable def l67 (J:Nat→Nat→Nat→St→Option (Int×Int)→Option (Int×Int)) (m:Nat) (p ms:List Nat) (M:Nat) (σ:St):=loopAt Tryz.prog env (ct m) J (m+1) 110 39 Tryz.f110 d67 p ms M σ
noncomputable def s67_3 (x0:List Dt) (x1 x2 x3 x4:Int):St:=⟨tsOf [(1,(.fn 111 [(.ptr 0 [] 0),(.ptr 1 [] 0)])),(13,(.dat 23 (.lst x0))),(14,(.dat 3 (.int x1))),(15,(.dat 3 (.int x2)))],[(.box 3 (.dat 3 (.int x3))),(.box 3 (.dat 3 (.int x4)))],2⟩
noncomputable def s67_7 (x0:List Dt) (x1 x2 x3 x4:Int):St:=⟨tsOf [(1,(.fn 111 [(.ptr 0 [] 0),(.ptr 1 [] 0)])),(27,(.dat 34 (.lst x0))),(28,(.dat 3 (.int x1))),(29,(.dat 3 (.int x2)))],[(.box 3 (.dat 3 (.int x3))),(.box 3 (.dat 3 (.int x4)))],2⟩
abbrev H67_1 (m M1:Nat) (rec1:List Dt→Int→Int→Int→Int→Option (Int×Int)):Prop:=∀x0 x1 x2 x3 x4,l67 jn m w67_0 [] M1 (s67_3 x0 x1 x2 x3 x4)=rec1 x0 x1 x2 x3 x4
theorem i67_j3_eq m M1 rec1 (h1:H67_1 m M1 rec1) x0 x1 x2 x3 x4:e67 jn m w67_1 [M1] (s67_3 x0 x1 x2 x3 x4)=i67_j3 m (i68 m) rec1 x0 x1 x2 x3 x4:=
 tq (g:=fun J=>(jj J 1 4 M1 (s67_3 x0 x1 (IntKind.wrap .i64 (x2+1)) x3 x4) (l67 J m w67_0 [] M1))) (by simp only[jj_eq,h1];rfl)
theorem i67_j2_eq m M1 rec1 (h1:H67_1 m M1 rec1) x0 x1 x2 x3 x4:e67 jn m w67_2 [M1] (s67_3 x0 x1 x2 x3 x4)=i67_j2 m (i68 m) rec1 x0 x1 x2 x3 x4:=
 tq (g:=fun J=>((idx x0 x2).bind fun v0=>
  ((i68 m v0 x3 x4).bind fun r1=>
  (bif (Bool.not r1.1) then
  some (r1.2.1,r1.2.2)
  else
  (jj J 0 7 0 (s67_3 x0 x1 x2 r1.2.1 r1.2.2) (e67 J m w67_1 [M1])))))) (by simp only[jj_eq,i67_j3_eq m M1 rec1 h1];rfl)
theorem i67_l1_eq m:∀M1 x0 x1 x2 x3 x4,l67 jn m w67_0 [] M1 (s67_3 x0 x1 x2 x3 x4)=i67_l1 m (i68 m) M1 x0 x1 x2 x3 x4
 |0,_,_,_,_,_=>rfl
 | M1+1,x0,x1,x2,x3,x4=>
   tl (g:=fun J=>(bif (decide (x2<x1)) then
  (jj J 0 5 0 (s67_3 x0 x1 x2 x3 x4) (e67 J m w67_2 [M1]))
   else
  some (x3,x4))) (by simp only[jj_eq,i67_j2_eq m M1 (i67_l1 m (i68 m) M1) (i67_l1_eq m M1)];rfl)
theorem i67_j0_eq m x0 x1 x2 x3 x4:e67 jn m w67_3 [] (s67_3 x0 x1 x2 x3 x4)=i67_j0 m (i68 m) x0 x1 x2 x3 x4:=
 tq (g:=fun J=>(jj J 1 4 (Nat.succ m) (s67_3 x0 x1 x2 x3 x4) (l67 J m w67_0 [] (Nat.succ m)))) (by simp only[jj_eq,i67_l1_eq m];rfl)
abbrev H67_5 (m M5:Nat) (rec5:List Dt→Int→Int→Int→Int→Option (Int×Int)):Prop:=∀x0 x1 x2 x3 x4,l67 jn m w67_4 [] M5 (s67_7 x0 x1 x2 x3 x4)=rec5 x0 x1 x2 x3 x4
theorem i67_j7_eq m M5 rec5 (h5:H67_5 m M5 rec5) x0 x1 x2 x3 x4:e67 jn m w67_5 [M5] (s67_7 x0 x1 x2 x3 x4)=i67_j7 m (i68 m) rec5 x0 x1 x2 x3 x4:=
 tq (g:=fun J=>(jj J 1 10 M5 (s67_7 x0 x1 (IntKind.wrap .i64 (x2+1)) x3 x4) (l67 J m w67_4 [] M5))) (by simp only[jj_eq,h5];rfl)
theorem i67_j6_eq m M5 rec5 (h5:H67_5 m M5 rec5) x0 x1 x2 x3 x4:e67 jn m w67_6 [M5] (s67_7 x0 x1 x2 x3 x4)=i67_j6 m (i68 m) rec5 x0 x1 x2 x3 x4:=
 tq (g:=fun J=>((idx x0 x2).bind fun v2=>
  ((i68 m (Dt.fld v2 1) x3 x4).bind fun r3=>
  (bif (Bool.not r3.1) then
  some (r3.2.1,r3.2.2)
  else
  (jj J 0 13 0 (s67_7 x0 x1 x2 r3.2.1 r3.2.2) (e67 J m w67_5 [M5])))))) (by simp only[jj_eq,i67_j7_eq m M5 rec5 h5];rfl)
theorem i67_l5_eq m:∀M5 x0 x1 x2 x3 x4,l67 jn m w67_4 [] M5 (s67_7 x0 x1 x2 x3 x4)=i67_l5 m (i68 m) M5 x0 x1 x2 x3 x4
 |0,_,_,_,_,_=>rfl
 | M5+1,x0,x1,x2,x3,x4=>
   tl (g:=fun J=>(bif (decide (x2<x1)) then
  (jj J 0 11 0 (s67_7 x0 x1 x2 x3 x4) (e67 J m w67_6 [M5]))
   else
  some (x3,x4))) (by simp only[jj_eq,i67_j6_eq m M5 (i67_l5 m (i68 m) M5) (i67_l5_eq m M5)];rfl)
theorem i67_j4_eq m x0 x1 x2 x3 x4:e67 jn m w67_7 [] (s67_7 x0 x1 x2 x3 x4)=i67_j4 m (i68 m) x0 x1 x2 x3 x4:=
 tq (g:=fun J=>(jj J 1 10 (Nat.succ m) (s67_7 x0 x1 x2 x3 x4) (l67 J m w67_4 [] (Nat.succ m)))) (by simp only[jj_eq,i67_l5_eq m];rfl)
theorem i67_eq m a0 a1 a2:e67 jn m [] [] ⟨[(.dat 36 a0),(.fn 111 [(.ptr 0 [] 0),(.ptr 1 [] 0)])],[(.box 3 (.dat 3 (.int a1))),(.box 3 (.dat 3 (.int a2)))],2⟩=i67 (m+1) a0 a1 a2:=
 tq (g:=fun J=>(bif ((Dt.I a0 0)==6) then
  (jj J 0 4 0 (s67_3 (Dt.L a0 3) (List.length (Dt.L a0 3):Int) 0 a1 a2) (e67 J m w67_3 []))
   else
  (bif ((Dt.I a0 0)==5) then
  (jj J 0 10 0 (s67_7 (Dt.L a0 4) (List.length (Dt.L a0 4):Int) 0 a1 a2) (e67 J m w67_7 []))
  else
  some (a1,a2)))) (by simp only[jj_eq,i67_j0_eq m,i67_j4_eq m];rfl)
noncomputable def e68 (J:Nat→Nat→Nat→St→Option (Bool×Int×Int)→Option (Bool×Int×Int)) (m:Nat) (p ms:List Nat) (σ:St):=evAt Tryz.prog env (ct m) J (m+1) 111 15 Tryz.f111 d68 p ms σ
theorem i68_eq m a0 a1 a2:e68 jn m [] [] ⟨[(.dat 36 a0),(.ptr 0 [] 0),(.ptr 1 [] 0)],[(.box 3 (.dat 3 (.int a1))),(.box 3 (.dat 3 (.int a2)))],2⟩=i68 (m+1) a0 a1 a2:=
 tq (g:=fun J=>((zZ m a0 (IntKind.wrap .i64 (a2-a1))).bind fun r0=>
  some ((decide ((IntKind.wrap .i64 (a1+r0))<a2)),(IntKind.wrap .i64 (a1+r0)),a2))) (by rfl)
noncomputable def e47 (J:Nat→Nat→Nat→St→Option Int→Option Int) (m:Nat) (p ms:List Nat) (σ:St):=evAt Tryz.prog env (ct m) J (m+1) 75 5 Tryz.f75 d25 p ms σ
theorem yF_eq m a0:e47 jn m [] [] ⟨[(.dat 36 a0)],[],0⟩=yF (m+1) a0:=
 tq (g:=fun J=>((zZ m a0 1025).bind fun r0=>
  some r0)) (by rfl)
noncomputable def e58 (J:Nat→Nat→Nat→St→Option Int→Option Int) (m:Nat) (p ms:List Nat) (σ:St):=evAt Tryz.prog env (ct m) J (m+1) 95 13 Tryz.f95 d25 p ms σ
noncomputable def s58_0 (x0:Dt) (x1:Int):St:=⟨tsOf [(2,(.ptr 0 [] 0)),(3,(.ptr 1 [] 0))],[(.box 36 (.dat 36 x0)),(.box 3 (.dat 3 (.int x1)))],0⟩
theorem zY_j0_eq m x0 x1:e58 jn m [1,1] [] (s58_0 x0 x1)=zY_j0 m (i69 m) x0 x1:=
 tq (g:=fun J=>((i69 m x0 0 x1).bind fun r0=>
  some (IntKind.wrap .i64 (1+r0.1)))) (by rfl)
theorem zY_eq m a0 a1:e58 jn m [] [] ⟨[(.dat 36 a0),(.dat 3 (.int a1))],[],0⟩=zY (m+1) a0 a1:=
 tq (g:=fun J=>(bif (a1==1) then
  some 1
   else
  (jj J 0 3 0 (s58_0 a0 a1) (e58 J m [1,1] [])))) (by simp only[jj_eq,zY_j0_eq m];rfl)
def w69_3:List Nat:=[1,1,0,1,0,1]
def w69_0:List Nat:=w69_3++[0]
def w69_7:List Nat:=[1,1,0,1,1,1,0,1]
def w69_4:List Nat:=w69_7++[0]
def w69_2:List Nat:=w69_0++[0,1,1]
def w69_1:List Nat:=w69_2++[1]
def w69_6:List Nat:=w69_4++[0,1,1]
def w69_5:List Nat:=w69_6++[1]
noncomputable def e69 (J:Nat→Nat→Nat→St→Option (Int×Int)→Option (Int×Int)) (m:Nat) (p ms:List Nat) (σ:St):=evAt Tryz.prog env (ct m) J (m+1) 110 39 Tryz.f110 d67 p ms σ
noncomputable def l69 (J:Nat→Nat→Nat→St→Option (Int×Int)→Option (Int×Int)) (m:Nat) (p ms:List Nat) (M:Nat) (σ:St):=loopAt Tryz.prog env (ct m) J (m+1) 110 39 Tryz.f110 d67 p ms M σ
noncomputable def s69_3 (x0:List Dt) (x1 x2 x3 x4:Int):St:=⟨tsOf [(1,(.fn 112 [(.ptr 0 [] 0),(.ptr 1 [] 0)])),(13,(.dat 23 (.lst x0))),(14,(.dat 3 (.int x1))),(15,(.dat 3 (.int x2)))],[(.box 3 (.dat 3 (.int x3))),(.box 3 (.dat 3 (.int x4)))],2⟩
noncomputable def s69_7 (x0:List Dt) (x1 x2 x3 x4:Int):St:=⟨tsOf [(1,(.fn 112 [(.ptr 0 [] 0),(.ptr 1 [] 0)])),(27,(.dat 34 (.lst x0))),(28,(.dat 3 (.int x1))),(29,(.dat 3 (.int x2)))],[(.box 3 (.dat 3 (.int x3))),(.box 3 (.dat 3 (.int x4)))],2⟩
abbrev H69_1 (m M1:Nat) (rec1:List Dt→Int→Int→Int→Int→Option (Int×Int)):Prop:=∀x0 x1 x2 x3 x4,l69 jn m w69_0 [] M1 (s69_3 x0 x1 x2 x3 x4)=rec1 x0 x1 x2 x3 x4
theorem i69_j3_eq m M1 rec1 (h1:H69_1 m M1 rec1) x0 x1 x2 x3 x4:e69 jn m w69_1 [M1] (s69_3 x0 x1 x2 x3 x4)=i69_j3 m (i70 m) rec1 x0 x1 x2 x3 x4:=
 tq (g:=fun J=>(jj J 1 4 M1 (s69_3 x0 x1 (IntKind.wrap .i64 (x2+1)) x3 x4) (l69 J m w69_0 [] M1))) (by simp only[jj_eq,h1];rfl)
theorem i69_j2_eq m M1 rec1 (h1:H69_1 m M1 rec1) x0 x1 x2 x3 x4:e69 jn m w69_2 [M1] (s69_3 x0 x1 x2 x3 x4)=i69_j2 m (i70 m) rec1 x0 x1 x2 x3 x4:=
 tq (g:=fun J=>((idx x0 x2).bind fun v0=>
  ((i70 m v0 x3 x4).bind fun r1=>
  (bif (Bool.not r1.1) then
  some (r1.2.1,r1.2.2)
  else
  (jj J 0 7 0 (s69_3 x0 x1 x2 r1.2.1 r1.2.2) (e69 J m w69_1 [M1])))))) (by simp only[jj_eq,i69_j3_eq m M1 rec1 h1];rfl)
theorem i69_l1_eq m:∀M1 x0 x1 x2 x3 x4,l69 jn m w69_0 [] M1 (s69_3 x0 x1 x2 x3 x4)=i69_l1 m (i70 m) M1 x0 x1 x2 x3 x4
 |0,_,_,_,_,_=>rfl
 | M1+1,x0,x1,x2,x3,x4=>
   tl (g:=fun J=>(bif (decide (x2<x1)) then
  (jj J 0 5 0 (s69_3 x0 x1 x2 x3 x4) (e69 J m w69_2 [M1]))
   else
  some (x3,x4))) (by simp only[jj_eq,i69_j2_eq m M1 (i69_l1 m (i70 m) M1) (i69_l1_eq m M1)];rfl)
theorem i69_j0_eq m x0 x1 x2 x3 x4:e69 jn m w69_3 [] (s69_3 x0 x1 x2 x3 x4)=i69_j0 m (i70 m) x0 x1 x2 x3 x4:=
 tq (g:=fun J=>(jj J 1 4 (Nat.succ m) (s69_3 x0 x1 x2 x3 x4) (l69 J m w69_0 [] (Nat.succ m)))) (by simp only[jj_eq,i69_l1_eq m];rfl)
abbrev H69_5 (m M5:Nat) (rec5:List Dt→Int→Int→Int→Int→Option (Int×Int)):Prop:=∀x0 x1 x2 x3 x4,l69 jn m w69_4 [] M5 (s69_7 x0 x1 x2 x3 x4)=rec5 x0 x1 x2 x3 x4
theorem i69_j7_eq m M5 rec5 (h5:H69_5 m M5 rec5) x0 x1 x2 x3 x4:e69 jn m w69_5 [M5] (s69_7 x0 x1 x2 x3 x4)=i69_j7 m (i70 m) rec5 x0 x1 x2 x3 x4:=
 tq (g:=fun J=>(jj J 1 10 M5 (s69_7 x0 x1 (IntKind.wrap .i64 (x2+1)) x3 x4) (l69 J m w69_4 [] M5))) (by simp only[jj_eq,h5];rfl)
theorem i69_j6_eq m M5 rec5 (h5:H69_5 m M5 rec5) x0 x1 x2 x3 x4:e69 jn m w69_6 [M5] (s69_7 x0 x1 x2 x3 x4)=i69_j6 m (i70 m) rec5 x0 x1 x2 x3 x4:=
 tq (g:=fun J=>((idx x0 x2).bind fun v2=>
  ((i70 m (Dt.fld v2 1) x3 x4).bind fun r3=>
  (bif (Bool.not r3.1) then
  some (r3.2.1,r3.2.2)
  else
  (jj J 0 13 0 (s69_7 x0 x1 x2 r3.2.1 r3.2.2) (e69 J m w69_5 [M5])))))) (by simp only[jj_eq,i69_j7_eq m M5 rec5 h5];rfl)
theorem i69_l5_eq m:∀M5 x0 x1 x2 x3 x4,l69 jn m w69_4 [] M5 (s69_7 x0 x1 x2 x3 x4)=i69_l5 m (i70 m) M5 x0 x1 x2 x3 x4
 |0,_,_,_,_,_=>rfl
 | M5+1,x0,x1,x2,x3,x4=>
   tl (g:=fun J=>(bif (decide (x2<x1)) then
  (jj J 0 11 0 (s69_7 x0 x1 x2 x3 x4) (e69 J m w69_6 [M5]))
   else
  some (x3,x4))) (by simp only[jj_eq,i69_j6_eq m M5 (i69_l5 m (i70 m) M5) (i69_l5_eq m M5)];rfl)
theorem i69_j4_eq m x0 x1 x2 x3 x4:e69 jn m w69_7 [] (s69_7 x0 x1 x2 x3 x4)=i69_j4 m (i70 m) x0 x1 x2 x3 x4:=
 tq (g:=fun J=>(jj J 1 10 (Nat.succ m) (s69_7 x0 x1 x2 x3 x4) (l69 J m w69_4 [] (Nat.succ m)))) (by simp only[jj_eq,i69_l5_eq m];rfl)
theorem i69_eq m a0 a1 a2:e69 jn m [] [] ⟨[(.dat 36 a0),(.fn 112 [(.ptr 0 [] 0),(.ptr 1 [] 0)])],[(.box 3 (.dat 3 (.int a1))),(.box 3 (.dat 3 (.int a2)))],2⟩=i69 (m+1) a0 a1 a2:=
 tq (g:=fun J=>(bif ((Dt.I a0 0)==6) then
  (jj J 0 4 0 (s69_3 (Dt.L a0 3) (List.length (Dt.L a0 3):Int) 0 a1 a2) (e69 J m w69_3 []))
   else
  (bif ((Dt.I a0 0)==5) then
  (jj J 0 10 0 (s69_7 (Dt.L a0 4) (List.length (Dt.L a0 4):Int) 0 a1 a2) (e69 J m w69_7 []))
  else
  some (a1,a2)))) (by simp only[jj_eq,i69_j0_eq m,i69_j4_eq m];rfl)
noncomputable def e70 (J:Nat→Nat→Nat→St→Option (Bool×Int×Int)→Option (Bool×Int×Int)) (m:Nat) (p ms:List Nat) (σ:St):=evAt Tryz.prog env (ct m) J (m+1) 112 15 Tryz.f112 d68 p ms σ
theorem i70_eq m a0 a1 a2:e70 jn m [] [] ⟨[(.dat 36 a0),(.ptr 0 [] 0),(.ptr 1 [] 0)],[(.box 3 (.dat 3 (.int a1))),(.box 3 (.dat 3 (.int a2)))],2⟩=i70 (m+1) a0 a1 a2:=
 tq (g:=fun J=>((zY m a0 (IntKind.wrap .i64 (a2-1))).bind fun r0=>
  some ((decide ((bif (decide (a1<r0)) then r0 else a1)<(IntKind.wrap .i64 (a2-1)))),(bif (decide (a1<r0)) then r0 else a1),a2))) (by rfl)
noncomputable def e48 (J:Nat→Nat→Nat→St→Option Int→Option Int) (m:Nat) (p ms:List Nat) (σ:St):=evAt Tryz.prog env (ct m) J (m+1) 76 5 Tryz.f76 d25 p ms σ
theorem yG_eq m a0:e48 jn m [] [] ⟨[(.dat 36 a0)],[],0⟩=yG (m+1) a0:=
 tq (g:=fun J=>((zY m a0 17).bind fun r0=>
  some r0)) (by rfl)
noncomputable def e61 (J:Nat→Nat→Nat→St→Option Int→Option Int) (m:Nat) (p ms:List Nat) (σ:St):=evAt Tryz.prog env (ct m) J (m+1) 98 10 Tryz.f98 d61 p ms σ
theorem yE_eq m a0:e61 jn m [] [] ⟨[(.dat 3 (.int a0))],[],0⟩=yE (m+1) a0:=
 tq (g:=fun J=>some (xorI IntKind.u64 (shlI IntKind.u64 (IntKind.wrap IntKind.u64 a0) 1) (IntKind.wrap IntKind.u64 (shrI IntKind.i64 a0 63)))) (by rfl)
def w50_0:List Nat:=[1,1,0,1,0]
def w50_2:List Nat:=[1,1,0,1,0,0,1]
def w50_1:List Nat:=w50_2++[1]
noncomputable def e50 (J:Nat→Nat→Nat→St→Option Int→Option Int) (m:Nat) (p ms:List Nat) (σ:St):=evAt Tryz.prog env (ct m) J (m+1) 78 14 Tryz.f78 d25 p ms σ
noncomputable def l50 (J:Nat→Nat→Nat→St→Option Int→Option Int) (m:Nat) (p ms:List Nat) (M:Nat) (σ:St):=loopAt Tryz.prog env (ct m) J (m+1) 78 14 Tryz.f78 d25 p ms M σ
noncomputable def s50_3 (x0 x1:Int):St:=⟨tsOf [(3,(.dat 3 (.int x0))),(4,(.dat 144 (.int x1)))],[],0⟩
noncomputable def s50_4 (x0:Int):St:=⟨tsOf [(3,(.dat 3 (.int x0)))],[],0⟩
abbrev H50_1 (m M1:Nat) (rec1:Int→Int→Option Int):Prop:=∀x0 x1,l50 jn m w50_0 [] M1 (s50_3 x0 x1)=rec1 x0 x1
theorem qZ_j3_eq m M1 rec1 (h1:H50_1 m M1 rec1) x0 x1:e50 jn m w50_1 [M1] (s50_3 x0 x1)=qZ_j3 m rec1 x0 x1:=
 tq (g:=fun J=>(jj J 1 3 M1 (s50_3 x0 (shrI IntKind.u64 x1 7)) (l50 J m w50_0 [] M1))) (by simp only[jj_eq,h1];rfl)
theorem qZ_j2_eq m M1 rec1 (h1:H50_1 m M1 rec1) x0 x1:e50 jn m w50_2 [M1] (s50_3 x0 x1)=qZ_j2 m rec1 x0 x1:=
 tq (g:=fun J=>(jj J 0 4 0 (s50_3 (IntKind.wrap .i64 (x0+1)) x1) (e50 J m w50_1 [M1]))) (by simp only[jj_eq,qZ_j3_eq m M1 rec1 h1];rfl)
theorem qZ_j4_eq m x0:e50 jn m [1,1,1] [] (s50_4 x0)=qZ_j4 m x0:=
 tq (g:=fun J=>some x0) (by rfl)
theorem qZ_l1_eq m:∀M1 x0 x1,l50 jn m w50_0 [] M1 (s50_3 x0 x1)=qZ_l1 m M1 x0 x1
 |0,_,_=>rfl
 | M1+1,x0,x1=>
   tl (g:=fun J=>(bif (decide (128≤x1)) then
  (jj J 0 5 0 (s50_3 x0 x1) (e50 J m w50_2 [M1]))
   else
  (jj J 0 6 0 (s50_4 x0) (e50 J m [1,1,1] [])))) (by simp only[jj_eq,qZ_j2_eq m M1 (qZ_l1 m M1) (qZ_l1_eq m M1),qZ_j4_eq m];rfl)
theorem qZ_j0_eq m x0 x1:e50 jn m [1,1,0,1] [] (s50_3 x0 x1)=qZ_j0 m x0 x1:=
 tq (g:=fun J=>(jj J 1 3 (Nat.succ m) (s50_3 x0 x1) (l50 J m w50_0 [] (Nat.succ m)))) (by simp only[jj_eq,qZ_l1_eq m];rfl)
theorem qZ_eq m a0:e50 jn m [] [] ⟨[(.dat 3 (.int a0))],[],0⟩=qZ (m+1) a0:=
 tq (g:=fun J=>((yE m a0).bind fun r0=>
  (jj J 0 3 0 (s50_3 1 r0) (e50 J m [1,1,0,1] [])))) (by simp only[jj_eq,qZ_j0_eq m];rfl)
def w30_9:List Nat:=[1,1,0,1,0,1]
def w30_8:List Nat:=w30_9++[1,1,1,1]
def w30_3:List Nat:=w30_8++[1,1,1,1,0,1,1]
def w30_0:List Nat:=w30_3++[0]
def w30_7:List Nat:=w30_8++[1,1,1,1,1,1,0,1,1]
def w30_4:List Nat:=w30_7++[0]
def w30_2:List Nat:=w30_0++[0,1,1]
def w30_1:List Nat:=w30_2++[1]
def w30_6:List Nat:=w30_4++[0,1,1]
def w30_5:List Nat:=w30_6++[1]
noncomputable def e30 (J:Nat→Nat→Nat→St→Option Int→Option Int) (m:Nat) (p ms:List Nat) (σ:St):=evAt Tryz.prog env (ct m) J (m+1) 47 93 Tryz.f47 d25 p ms σ
noncomputable def l30 (J:Nat→Nat→Nat→St→Option Int→Option Int) (m:Nat) (p ms:List Nat) (M:Nat) (σ:St):=loopAt Tryz.prog env (ct m) J (m+1) 47 93 Tryz.f47 d25 p ms M σ
noncomputable def s30_1 (x0:Int):St:=⟨tsOf [(3,(.dat 3 (.int x0)))],[],0⟩
noncomputable def s30_6 (x0:Int) (x1:List Dt) (x2 x3:Int):St:=⟨tsOf [(3,(.dat 3 (.int x0))),(51,(.dat 23 (.lst x1))),(52,(.dat 3 (.int x2))),(53,(.dat 3 (.int x3)))],[],0⟩
noncomputable def s30_10 (x0:Int) (x1:List Dt) (x2 x3:Int):St:=⟨tsOf [(3,(.dat 3 (.int x0))),(71,(.dat 34 (.lst x1))),(72,(.dat 3 (.int x2))),(73,(.dat 3 (.int x3)))],[],0⟩
noncomputable def s30_2 (x0 x1:Int) (x2:Bool) (x3:Dt):St:=⟨tsOf [(1,(.ptr 0 [] 0)),(3,(.dat 3 (.int x0))),(9,(.dat 3 (.int x1))),(22,(.dat 4 (.bool x2)))],[(.box 36 (.dat 36 x3))],0⟩
noncomputable def s30_0 (x0 x1:Int) (x2:Bool) (x3:Dt):St:=⟨tsOf [(1,(.ptr 0 [] 0)),(3,(.dat 3 (.int x0))),(9,(.dat 3 (.int x1))),(10,(.dat 4 (.bool x2)))],[(.box 36 (.dat 36 x3))],0⟩
theorem qF_j1_eq m x0:e30 jn m [1,1,1] [] (s30_1 x0)=qF_j1 m (qF m) x0:=
 tq (g:=fun J=>some x0) (by rfl)
abbrev H30_4 (m M4:Nat) (rec4:Int→List Dt→Int→Int→Option Int):Prop:=∀x0 x1 x2 x3,l30 jn m w30_0 [] M4 (s30_6 x0 x1 x2 x3)=rec4 x0 x1 x2 x3
theorem qF_j6_eq m M4 rec4 (h4:H30_4 m M4 rec4) x0 x1 x2 x3:e30 jn m w30_1 [M4] (s30_6 x0 x1 x2 x3)=qF_j6 m (qF m) rec4 x0 x1 x2 x3:=
 tq (g:=fun J=>(jj J 1 16 M4 (s30_6 x0 x1 x2 (IntKind.wrap .i64 (x3+1))) (l30 J m w30_0 [] M4))) (by simp only[jj_eq,h4];rfl)
theorem qF_j5_eq m M4 rec4 (h4:H30_4 m M4 rec4) x0 x1 x2 x3:e30 jn m w30_2 [M4] (s30_6 x0 x1 x2 x3)=qF_j5 m (qF m) rec4 x0 x1 x2 x3:=
 tq (g:=fun J=>((idx x1 x3).bind fun v3=>
  ((qF m v3).bind fun r4=>
  (jj J 0 19 0 (s30_6 (IntKind.wrap .i64 (x0+r4)) x1 x2 x3) (e30 J m w30_1 [M4]))))) (by simp only[jj_eq,qF_j6_eq m M4 rec4 h4];rfl)
theorem qF_l4_eq m:∀M4 x0 x1 x2 x3,l30 jn m w30_0 [] M4 (s30_6 x0 x1 x2 x3)=qF_l4 m (qF m) M4 x0 x1 x2 x3
 |0,_,_,_,_=>rfl
 | M4+1,x0,x1,x2,x3=>
   tl (g:=fun J=>(bif (decide (x3<x2)) then
  (jj J 0 17 0 (s30_6 x0 x1 x2 x3) (e30 J m w30_2 [M4]))
   else
  (jj J 0 27 0 (s30_1 x0) (e30 J m [1,1,1] [])))) (by simp only[jj_eq,qF_j5_eq m M4 (qF_l4 m (qF m) M4) (qF_l4_eq m M4),qF_j1_eq m];rfl)
theorem qF_j3_eq m x0 x1 x2 x3:e30 jn m w30_3 [] (s30_6 x0 x1 x2 x3)=qF_j3 m (qF m) x0 x1 x2 x3:=
 tq (g:=fun J=>(jj J 1 16 (Nat.succ m) (s30_6 x0 x1 x2 x3) (l30 J m w30_0 [] (Nat.succ m)))) (by simp only[jj_eq,qF_l4_eq m];rfl)
abbrev H30_8 (m M8:Nat) (rec8:Int→List Dt→Int→Int→Option Int):Prop:=∀x0 x1 x2 x3,l30 jn m w30_4 [] M8 (s30_10 x0 x1 x2 x3)=rec8 x0 x1 x2 x3
theorem qF_j10_eq m M8 rec8 (h8:H30_8 m M8 rec8) x0 x1 x2 x3:e30 jn m w30_5 [M8] (s30_10 x0 x1 x2 x3)=qF_j10 m (qF m) rec8 x0 x1 x2 x3:=
 tq (g:=fun J=>(jj J 1 23 M8 (s30_10 x0 x1 x2 (IntKind.wrap .i64 (x3+1))) (l30 J m w30_4 [] M8))) (by simp only[jj_eq,h8];rfl)
theorem qF_j9_eq m M8 rec8 (h8:H30_8 m M8 rec8) x0 x1 x2 x3:e30 jn m w30_6 [M8] (s30_10 x0 x1 x2 x3)=qF_j9 m (qF m) rec8 x0 x1 x2 x3:=
 tq (g:=fun J=>((idx x1 x3).bind fun v6=>
  ((qZ m (ByteArray.size (Dt.S v6 0):Int)).bind fun r7=>
  ((qF m (Dt.fld v6 1)).bind fun r8=>
  (jj J 0 26 0 (s30_10 (IntKind.wrap .i64 (x0+(IntKind.wrap .i64 ((IntKind.wrap .i64 (r7+(ByteArray.size (Dt.S v6 0):Int)))+r8)))) x1 x2 x3) (e30 J m w30_5 [M8])))))) (by simp only[jj_eq,qF_j10_eq m M8 rec8 h8];rfl)
theorem qF_l8_eq m:∀M8 x0 x1 x2 x3,l30 jn m w30_4 [] M8 (s30_10 x0 x1 x2 x3)=qF_l8 m (qF m) M8 x0 x1 x2 x3
 |0,_,_,_,_=>rfl
 | M8+1,x0,x1,x2,x3=>
   tl (g:=fun J=>(bif (decide (x3<x2)) then
  (jj J 0 24 0 (s30_10 x0 x1 x2 x3) (e30 J m w30_6 [M8]))
   else
  (jj J 0 27 0 (s30_1 x0) (e30 J m [1,1,1] [])))) (by simp only[jj_eq,qF_j9_eq m M8 (qF_l8 m (qF m) M8) (qF_l8_eq m M8),qF_j1_eq m];rfl)
theorem qF_j7_eq m x0 x1 x2 x3:e30 jn m w30_7 [] (s30_10 x0 x1 x2 x3)=qF_j7 m (qF m) x0 x1 x2 x3:=
 tq (g:=fun J=>(jj J 1 23 (Nat.succ m) (s30_10 x0 x1 x2 x3) (l30 J m w30_4 [] (Nat.succ m)))) (by simp only[jj_eq,qF_l8_eq m];rfl)
theorem qF_j2_eq m x0 x1 x2 x3:e30 jn m w30_8 [] (s30_2 x0 x1 x2 x3)=qF_j2 m (qF m) x0 x1 x2 x3:=
 tq (g:=fun J=>(bif x2 then
  ((qZ m (ByteArray.size (Dt.S x3 2):Int)).bind fun r1=>
  (jj J 0 27 0 (s30_1 (IntKind.wrap .i64 (x0+(IntKind.wrap .i64 (r1+(ByteArray.size (Dt.S x3 2):Int)))))) (e30 J m [1,1,1] [])))
   else
  (bif (x1==8) then
  (jj J 0 27 0 (s30_1 (IntKind.wrap .i64 (x0+(ByteArray.size (Dt.S x3 2):Int)))) (e30 J m [1,1,1] []))
  else
  (bif (x1==6) then
  ((qZ m (List.length (Dt.L x3 3):Int)).bind fun r2=>
  (jj J 0 16 0 (s30_6 (IntKind.wrap .i64 (x0+r2)) (Dt.L x3 3) (List.length (Dt.L x3 3):Int) 0) (e30 J m w30_3 [])))
  else
  (bif (x1==5) then
  ((qZ m (List.length (Dt.L x3 4):Int)).bind fun r5=>
  (jj J 0 23 0 (s30_10 (IntKind.wrap .i64 (x0+r5)) (Dt.L x3 4) (List.length (Dt.L x3 4):Int) 0) (e30 J m w30_7 [])))
  else
  (jj J 0 27 0 (s30_1 x0) (e30 J m [1,1,1] []))))))) (by simp only[jj_eq,qF_j1_eq m,qF_j3_eq m,qF_j7_eq m];rfl)
theorem qF_j0_eq m x0 x1 x2 x3:e30 jn m w30_9 [] (s30_0 x0 x1 x2 x3)=qF_j0 m (qF m) x0 x1 x2 x3:=
 tq (g:=fun J=>(bif x2 then
  ((qZ m (Dt.I x3 1)).bind fun r0=>
  (jj J 0 27 0 (s30_1 (IntKind.wrap .i64 (x0+r0))) (e30 J m [1,1,1] [])))
   else
  (bif (x1==9) then
  (jj J 0 27 0 (s30_1 (IntKind.wrap .i64 (x0+1))) (e30 J m [1,1,1] []))
  else
  (bif (x1==4) then
  (jj J 0 10 0 (s30_2 x0 x1 (x1==4) x3) (e30 J m w30_8 []))
  else
  (jj J 0 10 0 (s30_2 x0 x1 (x1==7) x3) (e30 J m w30_8 [])))))) (by simp only[jj_eq,qF_j1_eq m,qF_j2_eq m];rfl)
theorem qF_eq m a0:e30 jn m [] [] ⟨[(.dat 36 a0)],[],0⟩=qF (m+1) a0:=
 tq (g:=fun J=>(bif ((Dt.I a0 0)==3) then
  (jj J 0 5 0 (s30_0 1 (Dt.I a0 0) ((Dt.I a0 0)==3) a0) (e30 J m w30_9 []))
   else
  (jj J 0 5 0 (s30_0 1 (Dt.I a0 0) ((Dt.I a0 0)==10) a0) (e30 J m w30_9 [])))) (by simp only[jj_eq,qF_j0_eq m];rfl)
def w71_0:List Nat:=[1,1,0,1,0]
def w71_3:List Nat:=[1,1,0,1,0,0,1,1]
def w71_1:List Nat:=w71_3++[1]
def w71_2:List Nat:=w71_3++[0,0,1,1]
noncomputable def e71 (J:Nat→Nat→Nat→St→Option Bool→Option Bool) (m:Nat) (p ms:List Nat) (σ:St):=evAt Tryz.prog env (ct m) J (m+1) 114 39 Tryz.f114 d13 p ms σ
noncomputable def l71 (J:Nat→Nat→Nat→St→Option Bool→Option Bool) (m:Nat) (p ms:List Nat) (M:Nat) (σ:St):=loopAt Tryz.prog env (ct m) J (m+1) 114 39 Tryz.f114 d13 p ms M σ
noncomputable def s71_6 (x0:ByteArray) (x1 x2:Int):St:=⟨tsOf [(0,(.dat 9 (.str x0))),(18,(.dat 3 (.int x1))),(19,(.dat 3 (.int x2)))],[],0⟩
noncomputable def s71_5 (x0:ByteArray) (x1 x2:Int) (x3:Bool):St:=⟨tsOf [(0,(.dat 9 (.str x0))),(18,(.dat 3 (.int x1))),(19,(.dat 3 (.int x2))),(37,(.dat 4 (.bool x3)))],[],0⟩
noncomputable def s71_7:St:=⟨tsOf [],[],0⟩
noncomputable def s71_1 (x0:ByteArray):St:=⟨tsOf [(0,(.dat 9 (.str x0)))],[],0⟩
noncomputable def s71_0 (x0:ByteArray) (x1:Bool):St:=⟨tsOf [(0,(.dat 9 (.str x0))),(16,(.dat 4 (.bool x1)))],[],0⟩
abbrev H71_3 (m M3:Nat) (rec3:ByteArray→Int→Int→Option Bool):Prop:=∀x0 x1 x2,l71 jn m w71_0 [] M3 (s71_6 x0 x1 x2)=rec3 x0 x1 x2
theorem qL_j6_eq m M3 rec3 (h3:H71_3 m M3 rec3) x0 x1 x2:e71 jn m w71_1 [M3] (s71_6 x0 x1 x2)=qL_j6 m rec3 x0 x1 x2:=
 tq (g:=fun J=>(jj J 1 4 M3 (s71_6 x0 x1 (IntKind.wrap .i64 (x2+1))) (l71 J m w71_0 [] M3))) (by simp only[jj_eq,h3];rfl)
theorem qL_j5_eq m M3 rec3 (h3:H71_3 m M3 rec3) x0 x1 x2 x3:e71 jn m w71_2 [M3] (s71_5 x0 x1 x2 x3)=qL_j5 m rec3 x0 x1 x2 x3:=
 tq (g:=fun J=>(bif x3 then
  some false
   else
  (jj J 0 8 0 (s71_6 x0 x1 x2) (e71 J m w71_1 [M3])))) (by simp only[jj_eq,qL_j6_eq m M3 rec3 h3];rfl)
theorem qL_j4_eq m M3 rec3 (h3:H71_3 m M3 rec3) x0 x1 x2:e71 jn m w71_3 [M3] (s71_6 x0 x1 x2)=qL_j4 m rec3 x0 x1 x2:=
 tq (g:=fun J=>((idxS x0 x2).bind fun v0=>
  (bif (decide (v0<33)) then
  (jj J 0 7 0 (s71_5 x0 x1 x2 true) (e71 J m w71_2 [M3]))
  else
  ((idxS x0 x2).bind fun v1=>
  (bif (decide (126<v1)) then
  (jj J 0 7 0 (s71_5 x0 x1 x2 true) (e71 J m w71_2 [M3]))
  else
  ((idxS x0 x2).bind fun v2=>
  (jj J 0 7 0 (s71_5 x0 x1 x2 (v2==46)) (e71 J m w71_2 [M3])))))))) (by simp only[jj_eq,qL_j5_eq m M3 rec3 h3];rfl)
theorem qL_j7_eq m:e71 jn m [1,1,1] [] s71_7=qL_j7 m:=
 tq (g:=fun J=>some true) (by rfl)
theorem qL_l3_eq m:∀M3 x0 x1 x2,l71 jn m w71_0 [] M3 (s71_6 x0 x1 x2)=qL_l3 m M3 x0 x1 x2
 |0,_,_,_=>rfl
 | M3+1,x0,x1,x2=>
   tl (g:=fun J=>(bif (decide (x2<x1)) then
  (jj J 0 5 0 (s71_6 x0 x1 x2) (e71 J m w71_3 [M3]))
   else
  (jj J 0 9 0 s71_7 (e71 J m [1,1,1] [])))) (by simp only[jj_eq,qL_j4_eq m M3 (qL_l3 m M3) (qL_l3_eq m M3),qL_j7_eq m];rfl)
theorem qL_j2_eq m x0 x1 x2:e71 jn m [1,1,0,1] [] (s71_6 x0 x1 x2)=qL_j2 m x0 x1 x2:=
 tq (g:=fun J=>(jj J 1 4 (Nat.succ m) (s71_6 x0 x1 x2) (l71 J m w71_0 [] (Nat.succ m)))) (by simp only[jj_eq,qL_l3_eq m];rfl)
theorem qL_j1_eq m x0:e71 jn m [1,1] [] (s71_1 x0)=qL_j1 m x0:=
 tq (g:=fun J=>(jj J 0 4 0 (s71_6 x0 (ByteArray.size x0:Int) 0) (e71 J m [1,1,0,1] []))) (by simp only[jj_eq,qL_j2_eq m];rfl)
theorem qL_j0_eq m x0 x1:e71 jn m [1,0,1] [] (s71_0 x0 x1)=qL_j0 m x0 x1:=
 tq (g:=fun J=>(bif x1 then
  some false
   else
  (jj J 0 3 0 (s71_1 x0) (e71 J m [1,1] [])))) (by simp only[jj_eq,qL_j1_eq m];rfl)
theorem qL_eq m a0:e71 jn m [] [] ⟨[(.dat 9 (.str a0))],[],0⟩=qL (m+1) a0:=
 tq (g:=fun J=>(bif (decide ((ByteArray.size a0:Int)<1)) then
  (jj J 0 2 0 (s71_0 a0 true) (e71 J m [1,0,1] []))
   else
  (bif (decide (32<(ByteArray.size a0:Int))) then
  (jj J 0 2 0 (s71_0 a0 true) (e71 J m [1,0,1] []))
  else
  ((idxS a0 0).bind fun v3=>
  (jj J 0 2 0 (s71_0 a0 (v3==36)) (e71 J m [1,0,1] [])))))) (by simp only[jj_eq,qL_j0_eq m];rfl)
def w49_7:List Nat:=[1,1,1,1,1]
def w49_9:List Nat:=[1,1,1,0,1]
def w49_5:List Nat:=[1,1,1,1,1,1]
def w49_8:List Nat:=[1,1,1,1,0,1]
def w49_6:List Nat:=[1,1,1,1,1,0,1,0,1]
def w49_3:List Nat:=w49_6++[1,1,1,1,1,1,1,1,1,1,1,1,0,1]
def w49_4:List Nat:=w49_6++[1,1,1,1,1,1,1,1,1,1,1,1,0,0,1]
def w49_0:List Nat:=w49_4++[0]
def w49_2:List Nat:=w49_0++[0,1,1]
def w49_1:List Nat:=w49_2++[1]
noncomputable def e49 (J:Nat→Nat→Nat→St→Option Bool→Option Bool) (m:Nat) (p ms:List Nat) (σ:St):=evAt Tryz.prog env (ct m) J (m+1) 77 132 Tryz.f77 d13 p ms σ
noncomputable def l49 (J:Nat→Nat→Nat→St→Option Bool→Option Bool) (m:Nat) (p ms:List Nat) (M:Nat) (σ:St):=loopAt Tryz.prog env (ct m) J (m+1) 77 132 Tryz.f77 d13 p ms M σ
noncomputable def s49_10 (x0:List Dt) (x1 x2:Int):St:=⟨tsOf [(117,(.dat 23 (.lst x0))),(118,(.dat 3 (.int x1))),(119,(.dat 3 (.int x2)))],[],0⟩
noncomputable def s49_11:St:=⟨tsOf [],[],0⟩
noncomputable def s49_6 (x0:Int) (x1:Bool) (x2:Dt):St:=⟨tsOf [(1,(.ptr 0 [] 0)),(70,(.dat 3 (.int x0))),(71,(.dat 4 (.bool x1)))],[(.box 36 (.dat 36 x2))],0⟩
noncomputable def s49_5 (x0:Dt):St:=⟨tsOf [(1,(.ptr 0 [] 0))],[(.box 36 (.dat 36 x0))],0⟩
noncomputable def s49_4 (x0:Bool) (x1:Dt):St:=⟨tsOf [(1,(.ptr 0 [] 0)),(68,(.dat 4 (.bool x0)))],[(.box 36 (.dat 36 x1))],0⟩
noncomputable def s49_2 (x0:Bool) (x1:Dt):St:=⟨tsOf [(1,(.ptr 0 [] 0)),(48,(.dat 4 (.bool x0)))],[(.box 36 (.dat 36 x1))],0⟩
noncomputable def s49_1 (x0 x1:Bool) (x2:Dt):St:=⟨tsOf [(1,(.ptr 0 [] 0)),(3,(.dat 4 (.bool x0))),(4,(.dat 4 (.bool x1)))],[(.box 36 (.dat 36 x2))],0⟩
noncomputable def s49_0 (x0:Bool) (x1:Dt):St:=⟨tsOf [(1,(.ptr 0 [] 0)),(3,(.dat 4 (.bool x0)))],[(.box 36 (.dat 36 x1))],0⟩
abbrev H49_8 (m M8:Nat) (rec8:List Dt→Int→Int→Option Bool):Prop:=∀x0 x1 x2,l49 jn m w49_0 [] M8 (s49_10 x0 x1 x2)=rec8 x0 x1 x2
theorem qC_j10_eq m M8 rec8 (h8:H49_8 m M8 rec8) x0 x1 x2:e49 jn m w49_1 [M8] (s49_10 x0 x1 x2)=qC_j10 m (qC m) (qI m) rec8 x0 x1 x2:=
 tq (g:=fun J=>(jj J 1 25 M8 (s49_10 x0 x1 (IntKind.wrap .i64 (x2+1))) (l49 J m w49_0 [] M8))) (by simp only[jj_eq,h8];rfl)
theorem qC_j9_eq m M8 rec8 (h8:H49_8 m M8 rec8) x0 x1 x2:e49 jn m w49_2 [M8] (s49_10 x0 x1 x2)=qC_j9 m (qC m) (qI m) rec8 x0 x1 x2:=
 tq (g:=fun J=>((idx x0 x2).bind fun v1=>
  ((qC m v1).bind fun r2=>
  (bif (Bool.not r2) then
  some false
  else
  (jj J 0 29 0 (s49_10 x0 x1 x2) (e49 J m w49_1 [M8])))))) (by simp only[jj_eq,qC_j10_eq m M8 rec8 h8];rfl)
theorem qC_j11_eq m:e49 jn m w49_3 [] s49_11=qC_j11 m (qC m) (qI m):=
 tq (g:=fun J=>some true) (by rfl)
theorem qC_l8_eq m:∀M8 x0 x1 x2,l49 jn m w49_0 [] M8 (s49_10 x0 x1 x2)=qC_l8 m (qC m) (qI m) M8 x0 x1 x2
 |0,_,_,_=>rfl
 | M8+1,x0,x1,x2=>
   tl (g:=fun J=>(bif (decide (x2<x1)) then
  (jj J 0 26 0 (s49_10 x0 x1 x2) (e49 J m w49_2 [M8]))
   else
  (jj J 0 30 0 s49_11 (e49 J m w49_3 [])))) (by simp only[jj_eq,qC_j9_eq m M8 (qC_l8 m (qC m) (qI m) M8) (qC_l8_eq m M8),qC_j11_eq m];rfl)
theorem qC_j7_eq m x0 x1 x2:e49 jn m w49_4 [] (s49_10 x0 x1 x2)=qC_j7 m (qC m) (qI m) x0 x1 x2:=
 tq (g:=fun J=>(jj J 1 25 (Nat.succ m) (s49_10 x0 x1 x2) (l49 J m w49_0 [] (Nat.succ m)))) (by simp only[jj_eq,qC_l8_eq m];rfl)
theorem qC_j12_eq m:e49 jn m w49_5 [] s49_11=qC_j12 m (qC m) (qI m):=
 tq (g:=fun J=>some false) (by rfl)
theorem qC_j6_eq m x0 x1 x2:e49 jn m w49_6 [] (s49_6 x0 x1 x2)=qC_j6 m (qC m) (qI m) x0 x1 x2:=
 tq (g:=fun J=>(bif x1 then
  some true
   else
  (bif (x0==9) then
  (bif ((Dt.I x2 1)==0) then
  some true
  else
  some ((Dt.I x2 1)==1))
  else
  (bif (x0==10) then
  some (decide (0≤(Dt.I x2 1)))
  else
  (bif (x0==4) then
  (bif (decide ((ByteArray.size (Dt.S x2 2):Int)≤4096)) then
  ((utf8_ValidString (Dt.S x2 2)).bind fun r0=>
  some r0)
  else
  some false)
  else
  (bif (x0==7) then
  some (decide ((ByteArray.size (Dt.S x2 2):Int)≤4096))
  else
  (bif (x0==8) then
  some ((ByteArray.size (Dt.S x2 2):Int)==12)
  else
  (bif (x0==6) then
  (jj J 0 25 0 (s49_10 (Dt.L x2 3) (List.length (Dt.L x2 3):Int) 0) (e49 J m w49_4 []))
  else
  (bif (x0==5) then
  ((qI m (Dt.L x2 4)).bind fun r3=>
  some r3)
  else
  (jj J 0 33 0 s49_11 (e49 J m w49_5 []))))))))))) (by simp only[jj_eq,qC_j7_eq m,qC_j12_eq m];rfl)
theorem qC_j5_eq m x0:e49 jn m w49_7 [] (s49_5 x0)=qC_j5 m (qC m) (qI m) x0:=
 tq (g:=fun J=>(bif ((Dt.I x0 0)==1) then
  (jj J 0 12 0 (s49_6 (Dt.I x0 0) ((Dt.I x0 0)==1) x0) (e49 J m w49_6 []))
   else
  (bif ((Dt.I x0 0)==2) then
  (jj J 0 12 0 (s49_6 (Dt.I x0 0) ((Dt.I x0 0)==2) x0) (e49 J m w49_6 []))
  else
  (bif ((Dt.I x0 0)==11) then
  (jj J 0 12 0 (s49_6 (Dt.I x0 0) ((Dt.I x0 0)==11) x0) (e49 J m w49_6 []))
  else
  (jj J 0 12 0 (s49_6 (Dt.I x0 0) ((Dt.I x0 0)==3) x0) (e49 J m w49_6 [])))))) (by simp only[jj_eq,qC_j6_eq m];rfl)
theorem qC_j4_eq m x0 x1:e49 jn m w49_8 [] (s49_4 x0 x1)=qC_j4 m (qC m) (qI m) x0 x1:=
 tq (g:=fun J=>(bif x0 then
  some false
   else
  (jj J 0 7 0 (s49_5 x1) (e49 J m w49_7 [])))) (by simp only[jj_eq,qC_j5_eq m];rfl)
theorem qC_j3_eq m x0:e49 jn m [1,1,1,1] [] (s49_5 x0)=qC_j3 m (qC m) (qI m) x0:=
 tq (g:=fun J=>(bif ((Dt.I x0 0) !=6) then
  (bif (decide (0<(List.length (Dt.L x0 3):Int))) then
  (jj J 0 6 0 (s49_4 true x0) (e49 J m w49_8 []))
  else
  (bif ((Dt.I x0 0) !=5) then
  (jj J 0 6 0 (s49_4 (decide (0<(List.length (Dt.L x0 4):Int))) x0) (e49 J m w49_8 []))
  else
  (jj J 0 6 0 (s49_4 false x0) (e49 J m w49_8 []))))
   else
  (bif ((Dt.I x0 0) !=5) then
  (jj J 0 6 0 (s49_4 (decide (0<(List.length (Dt.L x0 4):Int))) x0) (e49 J m w49_8 []))
  else
  (jj J 0 6 0 (s49_4 false x0) (e49 J m w49_8 []))))) (by simp only[jj_eq,qC_j4_eq m];rfl)
theorem qC_j2_eq m x0 x1:e49 jn m w49_9 [] (s49_2 x0 x1)=qC_j2 m (qC m) (qI m) x0 x1:=
 tq (g:=fun J=>(bif x0 then
  some false
   else
  (jj J 0 5 0 (s49_5 x1) (e49 J m [1,1,1,1] [])))) (by simp only[jj_eq,qC_j3_eq m];rfl)
theorem qC_j1_eq m x0 x1 x2:e49 jn m [1,1,1] [] (s49_1 x0 x1 x2)=qC_j1 m (qC m) (qI m) x0 x1 x2:=
 tq (g:=fun J=>(bif (Bool.not x0) then
  (bif ((Dt.I x2 1) !=0) then
  (jj J 0 4 0 (s49_2 true x2) (e49 J m w49_9 []))
  else
  (bif (Bool.not x1) then
  (jj J 0 4 0 (s49_2 (Bool.not ((ByteArray.toList (Dt.S x2 2))==[])) x2) (e49 J m w49_9 []))
  else
  (jj J 0 4 0 (s49_2 false x2) (e49 J m w49_9 []))))
   else
  (bif (Bool.not x1) then
  (jj J 0 4 0 (s49_2 (Bool.not ((ByteArray.toList (Dt.S x2 2))==[])) x2) (e49 J m w49_9 []))
  else
  (jj J 0 4 0 (s49_2 false x2) (e49 J m w49_9 []))))) (by simp only[jj_eq,qC_j2_eq m];rfl)
theorem qC_j0_eq m x0 x1:e49 jn m [1,1] [] (s49_0 x0 x1)=qC_j0 m (qC m) (qI m) x0 x1:=
 tq (g:=fun J=>(bif ((Dt.I x1 0)==4) then
  (jj J 0 3 0 (s49_1 x0 true x1) (e49 J m [1,1,1] []))
   else
  (bif ((Dt.I x1 0)==7) then
  (jj J 0 3 0 (s49_1 x0 true x1) (e49 J m [1,1,1] []))
  else
  (jj J 0 3 0 (s49_1 x0 ((Dt.I x1 0)==8) x1) (e49 J m [1,1,1] []))))) (by simp only[jj_eq,qC_j1_eq m];rfl)
theorem qC_eq m a0:e49 jn m [] [] ⟨[(.dat 36 a0)],[],0⟩=qC (m+1) a0:=
 tq (g:=fun J=>(bif ((Dt.I a0 0)==3) then
  (jj J 0 2 0 (s49_0 true a0) (e49 J m [1,1] []))
   else
  (bif ((Dt.I a0 0)==9) then
  (jj J 0 2 0 (s49_0 true a0) (e49 J m [1,1] []))
  else
  (jj J 0 2 0 (s49_0 ((Dt.I a0 0)==10) a0) (e49 J m [1,1] []))))) (by simp only[jj_eq,qC_j0_eq m];rfl)
def w60_0:List Nat:=[1,1,0,1,0]
def w60_4:List Nat:=[1,1,0,1,0,0,1,1]
def w60_1:List Nat:=w60_4++[1]
def w60_2:List Nat:=w60_4++[0,0,1,1]
def w60_3:List Nat:=w60_4++[0,0,1,0,1]
noncomputable def e60 (J:Nat→Nat→Nat→St→Option Bool→Option Bool) (m:Nat) (p ms:List Nat) (σ:St):=evAt Tryz.prog env (ct m) J (m+1) 97 33 Tryz.f97 d13 p ms σ
noncomputable def l60 (J:Nat→Nat→Nat→St→Option Bool→Option Bool) (m:Nat) (p ms:List Nat) (M:Nat) (σ:St):=loopAt Tryz.prog env (ct m) J (m+1) 97 33 Tryz.f97 d13 p ms M σ
noncomputable def s60_5 (x0:List Dt) (x1 x2:Int) (x3:List Dt):St:=⟨tsOf [(3,(.row 0)),(7,(.dat 34 (.lst x0))),(8,(.dat 3 (.int x1))),(9,(.dat 3 (.int x2)))],[(.map 160 x3)],0⟩
noncomputable def s60_4 (x0:List Dt) (x1 x2:Int) (x3:List Dt) (x4:Dt):St:=⟨tsOf [(3,(.row 0)),(5,(.ptr 1 [] 0)),(7,(.dat 34 (.lst x0))),(8,(.dat 3 (.int x1))),(9,(.dat 3 (.int x2)))],[(.map 160 x3),(.box 71 (.dat 71 x4))],0⟩
noncomputable def s60_3 (x0:List Dt) (x1 x2:Int) (x3:Bool) (x4:List Dt) (x5:Dt):St:=⟨tsOf [(3,(.row 0)),(5,(.ptr 1 [] 0)),(7,(.dat 34 (.lst x0))),(8,(.dat 3 (.int x1))),(9,(.dat 3 (.int x2))),(28,(.dat 4 (.bool x3)))],[(.map 160 x4),(.box 71 (.dat 71 x5))],0⟩
noncomputable def s60_6:St:=⟨tsOf [],[],0⟩
abbrev H60_1 (m M1:Nat) (rec1:List Dt→Int→Int→List Dt→Option Bool):Prop:=∀x0 x1 x2 x3,l60 jn m w60_0 [] M1 (s60_5 x0 x1 x2 x3)=rec1 x0 x1 x2 x3
theorem qI_j5_eq m M1 rec1 (h1:H60_1 m M1 rec1) x0 x1 x2 x3:e60 jn m w60_1 [M1] (s60_5 x0 x1 x2 x3)=qI_j5 m (qC m) rec1 x0 x1 x2 x3:=
 tq (g:=fun J=>(jj J 1 3 M1 (s60_5 x0 x1 (IntKind.wrap .i64 (x2+1)) x3) (l60 J m w60_0 [] M1))) (by simp only[jj_eq,h1];rfl)
theorem qI_j4_eq m M1 rec1 (h1:H60_1 m M1 rec1) x0 x1 x2 x3 x4:e60 jn m w60_2 [M1] (s60_4 x0 x1 x2 x3 x4)=qI_j4 m (qC m) rec1 x0 x1 x2 x3 x4:=
 tq (g:=fun J=>(jj J 0 8 0 (s60_5 x0 x1 x2 (mput x3 (Dt.S x4 0) (Dt.bool true))) (e60 J m w60_1 [M1]))) (by simp only[jj_eq,qI_j5_eq m M1 rec1 h1];rfl)
theorem qI_j3_eq m M1 rec1 (h1:H60_1 m M1 rec1) x0 x1 x2 x3 x4 x5:e60 jn m w60_3 [M1] (s60_3 x0 x1 x2 x3 x4 x5)=qI_j3 m (qC m) rec1 x0 x1 x2 x3 x4 x5:=
 tq (g:=fun J=>(bif x3 then
  some false
   else
  (jj J 0 7 0 (s60_4 x0 x1 x2 x4 x5) (e60 J m w60_2 [M1])))) (by simp only[jj_eq,qI_j4_eq m M1 rec1 h1];rfl)
theorem qI_j2_eq m M1 rec1 (h1:H60_1 m M1 rec1) x0 x1 x2 x3:e60 jn m w60_4 [M1] (s60_5 x0 x1 x2 x3)=qI_j2 m (qC m) rec1 x0 x1 x2 x3:=
 tq (g:=fun J=>((idx x0 x2).bind fun v0=>
  ((qL m (Dt.S v0 0)).bind fun r1=>
  (bif (Bool.not r1) then
  (jj J 0 6 0 (s60_3 x0 x1 x2 true x3 v0) (e60 J m w60_3 [M1]))
  else
  (bif (Dt.toBool (mgetD x3 (Dt.S v0 0) (Dt.bool false))) then
  (jj J 0 6 0 (s60_3 x0 x1 x2 true x3 v0) (e60 J m w60_3 [M1]))
  else
  ((qC m (Dt.fld v0 1)).bind fun r2=>
  (jj J 0 6 0 (s60_3 x0 x1 x2 (Bool.not r2) x3 v0) (e60 J m w60_3 [M1])))))))) (by simp only[jj_eq,qI_j3_eq m M1 rec1 h1];rfl)
theorem qI_j6_eq m:e60 jn m [1,1,1] [] s60_6=qI_j6 m (qC m):=
 tq (g:=fun J=>some true) (by rfl)
theorem qI_l1_eq m:∀M1 x0 x1 x2 x3,l60 jn m w60_0 [] M1 (s60_5 x0 x1 x2 x3)=qI_l1 m (qC m) M1 x0 x1 x2 x3
 |0,_,_,_,_=>rfl
 | M1+1,x0,x1,x2,x3=>
   tl (g:=fun J=>(bif (decide (x2<x1)) then
  (jj J 0 4 0 (s60_5 x0 x1 x2 x3) (e60 J m w60_4 [M1]))
   else
  (jj J 0 9 0 s60_6 (e60 J m [1,1,1] [])))) (by simp only[jj_eq,qI_j2_eq m M1 (qI_l1 m (qC m) M1) (qI_l1_eq m M1),qI_j6_eq m];rfl)
theorem qI_j0_eq m x0 x1 x2 x3:e60 jn m [1,1,0,1] [] (s60_5 x0 x1 x2 x3)=qI_j0 m (qC m) x0 x1 x2 x3:=
 tq (g:=fun J=>(jj J 1 3 (Nat.succ m) (s60_5 x0 x1 x2 x3) (l60 J m w60_0 [] (Nat.succ m)))) (by simp only[jj_eq,qI_l1_eq m];rfl)
theorem qI_eq m a0:e60 jn m [] [] ⟨[(.dat 34 (.lst a0))],[],0⟩=qI (m+1) a0:=
 tq (g:=fun J=>(jj J 0 3 0 (s60_5 a0 (List.length a0:Int) 0 []) (e60 J m [1,1,0,1] []))) (by simp only[jj_eq,qI_j0_eq m];rfl)
noncomputable def e29 (J:Nat→Nat→Nat→St→Option Bool→Option Bool) (m:Nat) (p ms:List Nat) (σ:St):=evAt Tryz.prog env (ct m) J (m+1) 46 15 Tryz.f46 d13 p ms σ
theorem yK_eq m a0:e29 jn m [] [] ⟨[(.dat 36 a0)],[],0⟩=yK (m+1) a0:=
 tq (g:=fun J=>((yF m a0).bind fun r0=>
  (bif (decide (r0≤1024)) then
  ((yG m a0).bind fun r1=>
  (bif (decide (r1≤16)) then
  ((qC m a0).bind fun r2=>
  some r2)
  else
  some false))
  else
  some false))) (by rfl)
noncomputable def e19 (J:Nat→Nat→Nat→St→Option (Int×Int)→Option (Int×Int)) (m:Nat) (p ms:List Nat) (σ:St):=evAt Tryz.prog env (ct m) J (m+1) 29 9 Tryz.f29 d19 p ms σ
noncomputable def s19_0 (x0:Dt):St:=⟨tsOf [(1,(.ptr 0 [] 0))],[(.box 36 (.dat 36 x0))],0⟩
theorem zW_j0_eq m x0:e19 jn m [1,1] [] (s19_0 x0)=zW_j0 m x0:=
 tq (g:=fun J=>((qF m x0).bind fun r1=>
  some (r1,0))) (by rfl)
theorem zW_eq m a0:e19 jn m [] [] ⟨[(.dat 36 a0)],[],0⟩=zW (m+1) a0:=
 tq (g:=fun J=>((yK m a0).bind fun r0=>
  (bif (Bool.not r0) then
  some (0,8)
  else
  (jj J 0 3 0 (s19_0 a0) (e19 J m [1,1] []))))) (by simp only[jj_eq,zW_j0_eq m];rfl)
def w8_8:List Nat:=[1,1,1,1,1]
def w8_6:List Nat:=[1,1,1,1,1,1]
def w8_9:List Nat:=[1,1,1,1,0,1]
def w8_0:List Nat:=w8_9++[0]
def w8_5:List Nat:=w8_6++[1]
def w8_7:List Nat:=[1,1,1,1,1,0,1]
def w8_4:List Nat:=w8_0++[0,1,1]
def w8_1:List Nat:=w8_4++[1]
def w8_2:List Nat:=w8_4++[0,0,1,1,1]
def w8_3:List Nat:=w8_4++[0,0,1,1,0,1]
noncomputable def e8 (J:Nat→Nat→Nat→St→Option (List Dt×Int)→Option (List Dt×Int)) (m:Nat) (p ms:List Nat) (σ:St):=evAt Tryz.prog env (ct m) J (m+1) 16 67 Tryz.f16 d8 p ms σ
noncomputable def l8 (J:Nat→Nat→Nat→St→Option (List Dt×Int)→Option (List Dt×Int)) (m:Nat) (p ms:List Nat) (M:Nat) (σ:St):=loopAt Tryz.prog env (ct m) J (m+1) 16 67 Tryz.f16 d8 p ms M σ
noncomputable def s8_6 (x0:List Dt) (x1:Int) (x2:Bool) (x3 x4:Int) (x5:List Dt) (x6 x7:Int) (x8:List Dt):St:=⟨tsOf [(0,(.dat 23 (.lst x0))),(1,(.dat 3 (.int x1))),(2,(.dat 4 (.bool x2))),(8,(.row 0)),(9,(.dat 3 (.int x3))),(10,(.dat 3 (.int x4))),(17,(.dat 23 (.lst x5))),(18,(.dat 3 (.int x6))),(19,(.dat 3 (.int x7)))],[(.row 52 x8)],0⟩
noncomputable def s8_5 (x0:List Dt) (x1:Int) (x2:Bool) (x3 x4 x5:Int) (x6:List Dt) (x7 x8:Int) (x9:List Dt):St:=⟨tsOf [(0,(.dat 23 (.lst x0))),(1,(.dat 3 (.int x1))),(2,(.dat 4 (.bool x2))),(8,(.row 0)),(9,(.dat 3 (.int x3))),(10,(.dat 3 (.int x4))),(13,(.dat 3 (.int x5))),(17,(.dat 23 (.lst x6))),(18,(.dat 3 (.int x7))),(19,(.dat 3 (.int x8)))],[(.row 52 x9)],0⟩
noncomputable def s8_4 (x0:List Dt) (x1:Int) (x2:Bool) (x3 x4 x5 x6:Int) (x7:List Dt) (x8 x9:Int) (x10:Bool) (x11:List Dt):St:=⟨tsOf [(0,(.dat 23 (.lst x0))),(1,(.dat 3 (.int x1))),(2,(.dat 4 (.bool x2))),(8,(.row 0)),(9,(.dat 3 (.int x3))),(10,(.dat 3 (.int x4))),(11,(.dat 3 (.int x5))),(13,(.dat 3 (.int x6))),(17,(.dat 23 (.lst x7))),(18,(.dat 3 (.int x8))),(19,(.dat 3 (.int x9))),(38,(.dat 4 (.bool x10)))],[(.row 52 x11)],0⟩
noncomputable def s8_10 (x0:List Dt) (x1:Int) (x2:List Dt):St:=⟨tsOf [(0,(.dat 23 (.lst x0))),(8,(.row 0)),(9,(.dat 3 (.int x1)))],[(.row 52 x2)],0⟩
noncomputable def s8_9 (x0:List Dt) (x1:Bool) (x2:Int) (x3:List Dt):St:=⟨tsOf [(0,(.dat 23 (.lst x0))),(2,(.dat 4 (.bool x1))),(8,(.row 0)),(9,(.dat 3 (.int x2)))],[(.row 52 x3)],0⟩
noncomputable def s8_8 (x0:List Dt) (x1:Bool) (x2:Int) (x3:Bool) (x4:List Dt):St:=⟨tsOf [(0,(.dat 23 (.lst x0))),(2,(.dat 4 (.bool x1))),(8,(.row 0)),(9,(.dat 3 (.int x2))),(58,(.dat 4 (.bool x3)))],[(.row 52 x4)],0⟩
noncomputable def s8_7 (x0:List Dt) (x1:Int) (x2:Bool) (x3 x4:Int) (x5:List Dt):St:=⟨tsOf [(0,(.dat 23 (.lst x0))),(1,(.dat 3 (.int x1))),(2,(.dat 4 (.bool x2))),(8,(.row 0)),(9,(.dat 3 (.int x3))),(10,(.dat 3 (.int x4)))],[(.row 52 x5)],0⟩
noncomputable def s8_0 (x0:List Dt) (x1:Int) (x2:Bool):St:=⟨tsOf [(0,(.dat 23 (.lst x0))),(1,(.dat 3 (.int x1))),(2,(.dat 4 (.bool x2)))],[],0⟩
abbrev H8_2 (m M2:Nat) (rec2:List Dt→Int→Bool→Int→Int→List Dt→Int→Int→List Dt→Option (List Dt×Int)):Prop:=∀x0 x1 x2 x3 x4 x5 x6 x7 x8,l8 jn m w8_0 [] M2 (s8_6 x0 x1 x2 x3 x4 x5 x6 x7 x8)=rec2 x0 x1 x2 x3 x4 x5 x6 x7 x8
theorem qQ_j6_eq m M2 rec2 (h2:H8_2 m M2 rec2) x0 x1 x2 x3 x4 x5 x6 x7 x8:e8 jn m w8_1 [M2] (s8_6 x0 x1 x2 x3 x4 x5 x6 x7 x8)=qQ_j6 m rec2 x0 x1 x2 x3 x4 x5 x6 x7 x8:=
 tq (g:=fun J=>(jj J 1 6 M2 (s8_6 x0 x1 x2 x3 x4 x5 x6 (IntKind.wrap .i64 (x7+1)) x8) (l8 J m w8_0 [] M2))) (by simp only[jj_eq,h2];rfl)
theorem qQ_j5_eq m M2 rec2 (h2:H8_2 m M2 rec2) x0 x1 x2 x3 x4 x5 x6 x7 x8 x9:e8 jn m w8_2 [M2] (s8_5 x0 x1 x2 x3 x4 x5 x6 x7 x8 x9)=qQ_j5 m rec2 x0 x1 x2 x3 x4 x5 x6 x7 x8 x9:=
 tq (g:=fun J=>(jj J 0 13 0 (s8_6 x0 x1 x2 x3 (IntKind.wrap .i64 (x4+x5)) x6 x7 x8 x9) (e8 J m w8_1 [M2]))) (by simp only[jj_eq,qQ_j6_eq m M2 rec2 h2];rfl)
theorem qQ_j4_eq m M2 rec2 (h2:H8_2 m M2 rec2) x0 x1 x2 x3 x4 x5 x6 x7 x8 x9 x10 x11:e8 jn m w8_3 [M2] (s8_4 x0 x1 x2 x3 x4 x5 x6 x7 x8 x9 x10 x11)=qQ_j4 m rec2 x0 x1 x2 x3 x4 x5 x6 x7 x8 x9 x10 x11:=
 tq (g:=fun J=>(bif x10 then
  ((cutL x0 x3 x5).bind fun v2=>
  ((app x11 [(Dt.lst v2)]).bind fun v3=>
  (jj J 0 12 0 (s8_5 x0 x1 x2 x5 0 x6 x7 x8 x9 v3) (e8 J m w8_2 [M2]))))
   else
  (jj J 0 12 0 (s8_5 x0 x1 x2 x3 x4 x6 x7 x8 x9 x11) (e8 J m w8_2 [M2])))) (by simp only[jj_eq,qQ_j5_eq m M2 rec2 h2];rfl)
theorem qQ_j3_eq m M2 rec2 (h2:H8_2 m M2 rec2) x0 x1 x2 x3 x4 x5 x6 x7 x8:e8 jn m w8_4 [M2] (s8_6 x0 x1 x2 x3 x4 x5 x6 x7 x8)=qQ_j3 m rec2 x0 x1 x2 x3 x4 x5 x6 x7 x8:=
 tq (g:=fun J=>((idx x5 x7).bind fun v0=>
  ((zW m v0).bind fun r1=>
  (bif (decide (x3<x7)) then
  (jj J 0 10 0 (s8_4 x0 x1 x2 x3 x4 x7 r1.1 x5 x6 x7 (decide ((IntKind.wrap .i64 (x1-x4))<r1.1)) x8) (e8 J m w8_3 [M2]))
  else
  (jj J 0 10 0 (s8_4 x0 x1 x2 x3 x4 x7 r1.1 x5 x6 x7 false x8) (e8 J m w8_3 [M2])))))) (by simp only[jj_eq,qQ_j4_eq m M2 rec2 h2];rfl)
theorem qQ_j10_eq m x0 x1 x2:e8 jn m w8_5 [] (s8_10 x0 x1 x2)=qQ_j10 m x0 x1 x2:=
 tq (g:=fun J=>((cutL x0 x1 (List.length x0:Int)).bind fun v4=>
  ((app x2 [(Dt.lst v4)]).bind fun v5=>
  some (v5,0)))) (by rfl)
theorem qQ_j9_eq m x0 x1 x2 x3:e8 jn m w8_6 [] (s8_9 x0 x1 x2 x3)=qQ_j9 m x0 x1 x2 x3:=
 tq (g:=fun J=>(bif (Bool.not x1) then
  some ([],22)
   else
  (jj J 0 18 0 (s8_10 x0 x2 x3) (e8 J m w8_5 [])))) (by simp only[jj_eq,qQ_j10_eq m];rfl)
theorem qQ_j8_eq m x0 x1 x2 x3 x4:e8 jn m w8_7 [] (s8_8 x0 x1 x2 x3 x4)=qQ_j8 m x0 x1 x2 x3 x4:=
 tq (g:=fun J=>(bif x3 then
  some ([],0)
   else
  (jj J 0 16 0 (s8_9 x0 x1 x2 x4) (e8 J m w8_6 [])))) (by simp only[jj_eq,qQ_j9_eq m];rfl)
theorem qQ_j7_eq m x0 x1 x2 x3 x4 x5:e8 jn m w8_8 [] (s8_7 x0 x1 x2 x3 x4 x5)=qQ_j7 m x0 x1 x2 x3 x4 x5:=
 tq (g:=fun J=>(bif ((List.length x5:Int)==0) then
  (jj J 0 15 0 (s8_8 x0 x2 x3 (decide (x4≤x1)) x5) (e8 J m w8_7 []))
   else
  (jj J 0 15 0 (s8_8 x0 x2 x3 false x5) (e8 J m w8_7 [])))) (by simp only[jj_eq,qQ_j8_eq m];rfl)
theorem qQ_l2_eq m:∀M2 x0 x1 x2 x3 x4 x5 x6 x7 x8,l8 jn m w8_0 [] M2 (s8_6 x0 x1 x2 x3 x4 x5 x6 x7 x8)=qQ_l2 m M2 x0 x1 x2 x3 x4 x5 x6 x7 x8
 |0,_,_,_,_,_,_,_,_,_=>rfl
 | M2+1,x0,x1,x2,x3,x4,x5,x6,x7,x8=>
   tl (g:=fun J=>(bif (decide (x7<x6)) then
  (jj J 0 7 0 (s8_6 x0 x1 x2 x3 x4 x5 x6 x7 x8) (e8 J m w8_4 [M2]))
   else
  (jj J 0 14 0 (s8_7 x0 x1 x2 x3 x4 x8) (e8 J m w8_8 [])))) (by simp only[jj_eq,qQ_j3_eq m M2 (qQ_l2 m M2) (qQ_l2_eq m M2),qQ_j7_eq m];rfl)
theorem qQ_j1_eq m x0 x1 x2 x3 x4 x5 x6 x7 x8:e8 jn m w8_9 [] (s8_6 x0 x1 x2 x3 x4 x5 x6 x7 x8)=qQ_j1 m x0 x1 x2 x3 x4 x5 x6 x7 x8:=
 tq (g:=fun J=>(jj J 1 6 (Nat.succ m) (s8_6 x0 x1 x2 x3 x4 x5 x6 x7 x8) (l8 J m w8_0 [] (Nat.succ m)))) (by simp only[jj_eq,qQ_l2_eq m];rfl)
theorem qQ_j0_eq m x0 x1 x2:e8 jn m [1,1] [] (s8_0 x0 x1 x2)=qQ_j0 m x0 x1 x2:=
 tq (g:=fun J=>(jj J 0 6 0 (s8_6 x0 x1 x2 0 0 x0 (List.length x0:Int) 0 []) (e8 J m w8_9 []))) (by simp only[jj_eq,qQ_j1_eq m];rfl)
theorem qQ_eq m a0 a1 a2:e8 jn m [] [] ⟨[(.dat 23 (.lst a0)),(.dat 3 (.int a1)),(.dat 4 (.bool a2))],[],0⟩=qQ (m+1) a0 a1 a2:=
 tq (g:=fun J=>(bif (decide (a1<1)) then
  some ([],1)
   else
  (jj J 0 3 0 (s8_0 a0 a1 a2) (e8 J m [1,1] [])))) (by simp only[jj_eq,qQ_j0_eq m];rfl)
def w73_1:List Nat:=[1,0,1,0,0,1,1]
def w73_0:List Nat:=w73_1++[1]
noncomputable def e73 (J:Nat→Nat→Nat→St→Option Int→Option Int) (m:Nat) (p ms:List Nat) (σ:St):=evAt Tryz.prog env (ct m) J (m+1) 133 20 Tryz.f133 d25 p ms σ
noncomputable def l73 (J:Nat→Nat→Nat→St→Option Int→Option Int) (m:Nat) (p ms:List Nat) (M:Nat) (σ:St):=loopAt Tryz.prog env (ct m) J (m+1) 133 20 Tryz.f133 d25 p ms M σ
noncomputable def s73_3 (x0:List Dt) (x1:ByteArray) (x2 x3:Int):St:=⟨tsOf [(0,(.dat 34 (.lst x0))),(1,(.dat 9 (.str x1))),(7,(.dat 3 (.int x2))),(8,(.dat 3 (.int x3)))],[],0⟩
noncomputable def s73_4:St:=⟨tsOf [],[],0⟩
abbrev H73_1 (m M1:Nat) (rec1:List Dt→ByteArray→Int→Int→Option Int):Prop:=∀x0 x1 x2 x3,l73 jn m [1,0,1,0] [] M1 (s73_3 x0 x1 x2 x3)=rec1 x0 x1 x2 x3
theorem zR_j3_eq m M1 rec1 (h1:H73_1 m M1 rec1) x0 x1 x2 x3:e73 jn m w73_0 [M1] (s73_3 x0 x1 x2 x3)=zR_j3 m rec1 x0 x1 x2 x3:=
 tq (g:=fun J=>(jj J 1 2 M1 (s73_3 x0 x1 x2 (IntKind.wrap .i64 (x3+1))) (l73 J m [1,0,1,0] [] M1))) (by simp only[jj_eq,h1];rfl)
theorem zR_j2_eq m M1 rec1 (h1:H73_1 m M1 rec1) x0 x1 x2 x3:e73 jn m w73_1 [M1] (s73_3 x0 x1 x2 x3)=zR_j2 m rec1 x0 x1 x2 x3:=
 tq (g:=fun J=>((idx x0 x3).bind fun v0=>
  (bif ((ByteArray.toList (Dt.S v0 0))==(ByteArray.toList x1)) then
  some x3
  else
  (jj J 0 6 0 (s73_3 x0 x1 x2 x3) (e73 J m w73_0 [M1]))))) (by simp only[jj_eq,zR_j3_eq m M1 rec1 h1];rfl)
theorem zR_j4_eq m:e73 jn m [1,1] [] s73_4=zR_j4 m:=
 tq (g:=fun J=>some (-1)) (by rfl)
theorem zR_l1_eq m:∀M1 x0 x1 x2 x3,l73 jn m [1,0,1,0] [] M1 (s73_3 x0 x1 x2 x3)=zR_l1 m M1 x0 x1 x2 x3
 |0,_,_,_,_=>rfl
 | M1+1,x0,x1,x2,x3=>
   tl (g:=fun J=>(bif (decide (x3<x2)) then
  (jj J 0 3 0 (s73_3 x0 x1 x2 x3) (e73 J m w73_1 [M1]))
   else
  (jj J 0 7 0 s73_4 (e73 J m [1,1] [])))) (by simp only[jj_eq,zR_j2_eq m M1 (zR_l1 m M1) (zR_l1_eq m M1),zR_j4_eq m];rfl)
theorem zR_j0_eq m x0 x1 x2 x3:e73 jn m [1,0,1] [] (s73_3 x0 x1 x2 x3)=zR_j0 m x0 x1 x2 x3:=
 tq (g:=fun J=>(jj J 1 2 (Nat.succ m) (s73_3 x0 x1 x2 x3) (l73 J m [1,0,1,0] [] (Nat.succ m)))) (by simp only[jj_eq,zR_l1_eq m];rfl)
theorem zR_eq m a0 a1:e73 jn m [] [] ⟨[(.dat 34 (.lst a0)),(.dat 9 (.str a1))],[],0⟩=zR (m+1) a0 a1:=
 tq (g:=fun J=>(jj J 0 2 0 (s73_3 a0 a1 (List.length a0:Int) 0) (e73 J m [1,0,1] []))) (by simp only[jj_eq,zR_j0_eq m];rfl)
def w74_5:List Nat:=[1,1,1,0,1]
def w74_0:List Nat:=[1,1,1,0,1,0]
def w74_4:List Nat:=w74_0++[0,1,1]
def w74_1:List Nat:=w74_4++[1]
def w74_2:List Nat:=w74_4++[0,0,1,1]
def w74_3:List Nat:=w74_4++[0,0,1,0,1]
noncomputable def e74 (J:Nat→Nat→Nat→St→Option (Int×Bool)→Option (Int×Bool)) (m:Nat) (p ms:List Nat) (σ:St):=evAt Tryz.prog env (ct m) J (m+1) 134 49 Tryz.f134 d74 p ms σ
noncomputable def l74 (J:Nat→Nat→Nat→St→Option (Int×Bool)→Option (Int×Bool)) (m:Nat) (p ms:List Nat) (M:Nat) (σ:St):=loopAt Tryz.prog env (ct m) J (m+1) 134 49 Tryz.f134 d74 p ms M σ
noncomputable def s74_7 (x0:ByteArray) (x1 x2 x3:Int):St:=⟨tsOf [(0,(.dat 9 (.str x0))),(4,(.dat 3 (.int x1))),(25,(.dat 3 (.int x2))),(26,(.dat 3 (.int x3)))],[],0⟩
noncomputable def s74_6 (x0:ByteArray) (x1 x2 x3 x4:Int):St:=⟨tsOf [(0,(.dat 9 (.str x0))),(4,(.dat 3 (.int x1))),(5,(.dat 3 (.int x2))),(25,(.dat 3 (.int x3))),(26,(.dat 3 (.int x4)))],[],0⟩
noncomputable def s74_5 (x0:ByteArray) (x1 x2 x3 x4:Int) (x5:Bool):St:=⟨tsOf [(0,(.dat 9 (.str x0))),(4,(.dat 3 (.int x1))),(5,(.dat 3 (.int x2))),(25,(.dat 3 (.int x3))),(26,(.dat 3 (.int x4))),(38,(.dat 4 (.bool x5)))],[],0⟩
noncomputable def s74_8 (x0:Int):St:=⟨tsOf [(4,(.dat 3 (.int x0)))],[],0⟩
noncomputable def s74_1 (x0:ByteArray):St:=⟨tsOf [(0,(.dat 9 (.str x0)))],[],0⟩
noncomputable def s74_0 (x0:ByteArray) (x1:Bool):St:=⟨tsOf [(0,(.dat 9 (.str x0))),(23,(.dat 4 (.bool x1)))],[],0⟩
abbrev H74_3 (m M3:Nat) (rec3:ByteArray→Int→Int→Int→Option (Int×Bool)):Prop:=∀x0 x1 x2 x3,l74 jn m w74_0 [] M3 (s74_7 x0 x1 x2 x3)=rec3 x0 x1 x2 x3
theorem zD_j7_eq m M3 rec3 (h3:H74_3 m M3 rec3) x0 x1 x2 x3:e74 jn m w74_1 [M3] (s74_7 x0 x1 x2 x3)=zD_j7 m rec3 x0 x1 x2 x3:=
 tq (g:=fun J=>(jj J 1 5 M3 (s74_7 x0 x1 x2 (IntKind.wrap .i64 (x3+1))) (l74 J m w74_0 [] M3))) (by simp only[jj_eq,h3];rfl)
theorem zD_j6_eq m M3 rec3 (h3:H74_3 m M3 rec3) x0 x1 x2 x3 x4:e74 jn m w74_2 [M3] (s74_6 x0 x1 x2 x3 x4)=zD_j6 m rec3 x0 x1 x2 x3 x4:=
 tq (g:=fun J=>((idxS x0 x2).bind fun v1=>
  (jj J 0 10 0 (s74_7 x0 (IntKind.wrap .i64 ((IntKind.wrap .i64 (10*x1))+(IntKind.wrap .i64 (IntKind.wrap IntKind.u8 (v1-48))))) x3 x4) (e74 J m w74_1 [M3])))) (by simp only[jj_eq,zD_j7_eq m M3 rec3 h3];rfl)
theorem zD_j5_eq m M3 rec3 (h3:H74_3 m M3 rec3) x0 x1 x2 x3 x4 x5:e74 jn m w74_3 [M3] (s74_5 x0 x1 x2 x3 x4 x5)=zD_j5 m rec3 x0 x1 x2 x3 x4 x5:=
 tq (g:=fun J=>(bif x5 then
  some (0,false)
   else
  (jj J 0 9 0 (s74_6 x0 x1 x2 x3 x4) (e74 J m w74_2 [M3])))) (by simp only[jj_eq,zD_j6_eq m M3 rec3 h3];rfl)
theorem zD_j4_eq m M3 rec3 (h3:H74_3 m M3 rec3) x0 x1 x2 x3:e74 jn m w74_4 [M3] (s74_7 x0 x1 x2 x3)=zD_j4 m rec3 x0 x1 x2 x3:=
 tq (g:=fun J=>((idxS x0 x3).bind fun v0=>
  (bif (decide (v0<48)) then
  (jj J 0 8 0 (s74_5 x0 x1 x3 x2 x3 true) (e74 J m w74_3 [M3]))
  else
  ((idxS x0 x3).bind fun v2=>
  (jj J 0 8 0 (s74_5 x0 x1 x3 x2 x3 (decide (57<v2))) (e74 J m w74_3 [M3])))))) (by simp only[jj_eq,zD_j5_eq m M3 rec3 h3];rfl)
theorem zD_j8_eq m x0:e74 jn m [1,1,1,1] [] (s74_8 x0)=zD_j8 m x0:=
 tq (g:=fun J=>some (x0,true)) (by rfl)
theorem zD_l3_eq m:∀M3 x0 x1 x2 x3,l74 jn m w74_0 [] M3 (s74_7 x0 x1 x2 x3)=zD_l3 m M3 x0 x1 x2 x3
 |0,_,_,_,_=>rfl
 | M3+1,x0,x1,x2,x3=>
   tl (g:=fun J=>(bif (decide (x3<x2)) then
  (jj J 0 6 0 (s74_7 x0 x1 x2 x3) (e74 J m w74_4 [M3]))
   else
  (jj J 0 11 0 (s74_8 x1) (e74 J m [1,1,1,1] [])))) (by simp only[jj_eq,zD_j4_eq m M3 (zD_l3 m M3) (zD_l3_eq m M3),zD_j8_eq m];rfl)
theorem zD_j2_eq m x0 x1 x2 x3:e74 jn m w74_5 [] (s74_7 x0 x1 x2 x3)=zD_j2 m x0 x1 x2 x3:=
 tq (g:=fun J=>(jj J 1 5 (Nat.succ m) (s74_7 x0 x1 x2 x3) (l74 J m w74_0 [] (Nat.succ m)))) (by simp only[jj_eq,zD_l3_eq m];rfl)
theorem zD_j1_eq m x0:e74 jn m [1,1] [] (s74_1 x0)=zD_j1 m x0:=
 tq (g:=fun J=>(jj J 0 5 0 (s74_7 x0 0 (ByteArray.size x0:Int) 0) (e74 J m w74_5 []))) (by simp only[jj_eq,zD_j2_eq m];rfl)
theorem zD_j0_eq m x0 x1:e74 jn m [1,0,1] [] (s74_0 x0 x1)=zD_j0 m x0 x1:=
 tq (g:=fun J=>(bif x1 then
  some (0,false)
   else
  (jj J 0 3 0 (s74_1 x0) (e74 J m [1,1] [])))) (by simp only[jj_eq,zD_j1_eq m];rfl)
theorem zD_eq m a0:e74 jn m [] [] ⟨[(.dat 9 (.str a0))],[],0⟩=zD (m+1) a0:=
 tq (g:=fun J=>(bif (decide ((ByteArray.size a0:Int)<1)) then
  (jj J 0 2 0 (s74_0 a0 true) (e74 J m [1,0,1] []))
   else
  (bif (decide (4<(ByteArray.size a0:Int))) then
  (jj J 0 2 0 (s74_0 a0 true) (e74 J m [1,0,1] []))
  else
  ((idxS a0 0).bind fun v3=>
  (bif (v3==48) then
  (jj J 0 2 0 (s74_0 a0 (decide (1<(ByteArray.size a0:Int)))) (e74 J m [1,0,1] []))
  else
  (jj J 0 2 0 (s74_0 a0 false) (e74 J m [1,0,1] []))))))) (by simp only[jj_eq,zD_j0_eq m];rfl)
def w72_4:List Nat:=[1,1,0,1,0,1,1,1,0,1]
def w72_5:List Nat:=[1,1,0,1,0,1,1,1,0,0,1]
def w72_0:List Nat:=w72_5++[0]
def w72_3:List Nat:=w72_4++[1,1]
def w72_2:List Nat:=w72_0++[0,1,1]
def w72_1:List Nat:=w72_2++[1]
noncomputable def e72 (J:Nat→Nat→Nat→St→Option (List Dt)→Option (List Dt)) (m:Nat) (p ms:List Nat) (σ:St):=evAt Tryz.prog env (ct m) J (m+1) 115 83 Tryz.f115 d72 p ms σ
noncomputable def l72 (J:Nat→Nat→Nat→St→Option (List Dt)→Option (List Dt)) (m:Nat) (p ms:List Nat) (M:Nat) (σ:St):=loopAt Tryz.prog env (ct m) J (m+1) 115 83 Tryz.f115 d72 p ms M σ
noncomputable def s72_1 (x0:List Dt):St:=⟨tsOf [(0,(.row 1))],[.gone,(.row 23 x0)],1⟩
noncomputable def s72_5 (x0 x1:List Dt) (x2 x3:Int) (x4:List Dt) (x5:Dt):St:=⟨tsOf [(0,(.row 1)),(2,(.dat 38 (.lst x0))),(4,(.ptr 2 [] 0)),(44,(.dat 23 (.lst x1))),(45,(.dat 3 (.int x2))),(46,(.dat 3 (.int x3)))],[.gone,(.row 23 x4),(.box 36 (.dat 36 x5))],1⟩
noncomputable def s72_7 (x0:List Dt) (x1:Int) (x2:Bool) (x3:List Dt) (x4:Dt):St:=⟨tsOf [(0,(.row 1)),(2,(.dat 38 (.lst x0))),(4,(.ptr 2 [] 0)),(10,(.dat 3 (.int x1))),(72,(.dat 4 (.bool x2)))],[.gone,(.row 23 x3),(.box 36 (.dat 36 x4))],1⟩
noncomputable def s72_6 (x0 x1:List Dt) (x2:Dt):St:=⟨tsOf [(0,(.row 1)),(2,(.dat 38 (.lst x0))),(4,(.ptr 2 [] 0))],[.gone,(.row 23 x1),(.box 36 (.dat 36 x2))],1⟩
theorem i72_j1_eq m x0:e72 jn m [1,1,1] [] (s72_1 x0)=i72_j1 m (i72 m) x0:=
 tq (g:=fun J=>some x0) (by rfl)
abbrev H72_3 (m M3:Nat) (rec3:List Dt→List Dt→Int→Int→List Dt→Dt→Option (List Dt)):Prop:=∀x0 x1 x2 x3 x4 x5,l72 jn m w72_0 [] M3 (s72_5 x0 x1 x2 x3 x4 x5)=rec3 x0 x1 x2 x3 x4 x5
theorem i72_j5_eq m M3 rec3 (h3:H72_3 m M3 rec3) x0 x1 x2 x3 x4 x5:e72 jn m w72_1 [M3] (s72_5 x0 x1 x2 x3 x4 x5)=i72_j5 m (i72 m) rec3 x0 x1 x2 x3 x4 x5:=
 tq (g:=fun J=>(jj J 1 10 M3 (s72_5 x0 x1 x2 (IntKind.wrap .i64 (x3+1)) x4 x5) (l72 J m w72_0 [] M3))) (by simp only[jj_eq,h3];rfl)
theorem i72_j4_eq m M3 rec3 (h3:H72_3 m M3 rec3) x0 x1 x2 x3 x4 x5:e72 jn m w72_2 [M3] (s72_5 x0 x1 x2 x3 x4 x5)=i72_j4 m (i72 m) rec3 x0 x1 x2 x3 x4 x5:=
 tq (g:=fun J=>((idx x1 x3).bind fun v6=>
  (bif ((Dt.I v6 0)==5) then
  ((i72 m v6 x0 x4).bind fun r7=>
  (jj J 0 14 0 (s72_5 x0 x1 x2 x3 r7 x5) (e72 J m w72_1 [M3])))
  else
  (jj J 0 14 0 (s72_5 x0 x1 x2 x3 x4 x5) (e72 J m w72_1 [M3]))))) (by simp only[jj_eq,i72_j5_eq m M3 rec3 h3];rfl)
theorem i72_j7_eq m x0 x1 x2 x3 x4:e72 jn m w72_3 [] (s72_7 x0 x1 x2 x3 x4)=i72_j7 m (i72 m) x0 x1 x2 x3 x4:=
 tq (g:=fun J=>(bif x2 then
  ((idx (Dt.L x4 3) x1).bind fun v10=>
  ((cutL x0 1 (List.length x0:Int)).bind fun v11=>
  ((i72 m v10 v11 x3).bind fun r12=>
  (jj J 0 18 0 (s72_1 r12) (e72 J m [1,1,1] [])))))
   else
  (jj J 0 18 0 (s72_1 x3) (e72 J m [1,1,1] [])))) (by simp only[jj_eq,i72_j1_eq m];rfl)
theorem i72_j6_eq m x0 x1 x2:e72 jn m w72_4 [] (s72_6 x0 x1 x2)=i72_j6 m (i72 m) x0 x1 x2:=
 tq (g:=fun J=>((idx x0 0).bind fun v8=>
  ((zD m (Dt.toStr v8)).bind fun r9=>
  (bif r9.2 then
  (jj J 0 17 0 (s72_7 x0 r9.1 (decide (r9.1<(List.length (Dt.L x2 3):Int))) x1 x2) (e72 J m w72_3 []))
  else
  (jj J 0 17 0 (s72_7 x0 r9.1 false x1 x2) (e72 J m w72_3 [])))))) (by simp only[jj_eq,i72_j7_eq m];rfl)
theorem i72_l3_eq m:∀M3 x0 x1 x2 x3 x4 x5,l72 jn m w72_0 [] M3 (s72_5 x0 x1 x2 x3 x4 x5)=i72_l3 m (i72 m) M3 x0 x1 x2 x3 x4 x5
 |0,_,_,_,_,_,_=>rfl
 | M3+1,x0,x1,x2,x3,x4,x5=>
   tl (g:=fun J=>(bif (decide (x3<x2)) then
  (jj J 0 11 0 (s72_5 x0 x1 x2 x3 x4 x5) (e72 J m w72_2 [M3]))
   else
  (jj J 0 15 0 (s72_6 x0 x4 x5) (e72 J m w72_4 [])))) (by simp only[jj_eq,i72_j4_eq m M3 (i72_l3 m (i72 m) M3) (i72_l3_eq m M3),i72_j6_eq m];rfl)
theorem i72_j2_eq m x0 x1 x2 x3 x4 x5:e72 jn m w72_5 [] (s72_5 x0 x1 x2 x3 x4 x5)=i72_j2 m (i72 m) x0 x1 x2 x3 x4 x5:=
 tq (g:=fun J=>(jj J 1 10 (Nat.succ m) (s72_5 x0 x1 x2 x3 x4 x5) (l72 J m w72_0 [] (Nat.succ m)))) (by simp only[jj_eq,i72_l3_eq m];rfl)
theorem i72_j0_eq m x0 x1 x2:e72 jn m [1,1] [] (s72_6 x0 x1 x2)=i72_j0 m (i72 m) x0 x1 x2:=
 tq (g:=fun J=>(bif ((Dt.I x2 0)==5) then
  ((idx x0 0).bind fun v1=>
  ((zR m (Dt.L x2 4) (Dt.toStr v1)).bind fun r2=>
  (bif (decide (0≤r2)) then
  ((idx (Dt.L x2 4) r2).bind fun v3=>
  ((cutL x0 1 (List.length x0:Int)).bind fun v4=>
  ((i72 m (Dt.fld v3 1) v4 x1).bind fun r5=>
  (jj J 0 18 0 (s72_1 r5) (e72 J m [1,1,1] [])))))
  else
  (jj J 0 18 0 (s72_1 x1) (e72 J m [1,1,1] [])))))
   else
  (bif ((Dt.I x2 0)==6) then
  (jj J 0 10 0 (s72_5 x0 (Dt.L x2 3) (List.length (Dt.L x2 3):Int) 0 x1 x2) (e72 J m w72_5 []))
  else
  (jj J 0 18 0 (s72_1 x1) (e72 J m [1,1,1] []))))) (by simp only[jj_eq,i72_j1_eq m,i72_j2_eq m];rfl)
theorem i72_eq m a0 a1 a2:e72 jn m [] [] ⟨[(.row 0),(.dat 36 a0),(.dat 38 (.lst a1))],[(.row 23 a2)],1⟩=i72 (m+1) a0 a1 a2:=
 tq (g:=fun J=>(bif ((List.length a1:Int)==0) then
  ((app a2 [a0]).bind fun v0=>
  some v0)
   else
  (jj J 0 3 0 (s72_6 a1 a2 a0) (e72 J m [1,1] [])))) (by simp only[jj_eq,i72_j0_eq m];rfl)
def w75_7:List Nat:=[1,1,0,1,0,1,1]
def w75_0:List Nat:=w75_7++[0]
def w75_6:List Nat:=[1,1,1,0,1,0,1,1]
def w75_3:List Nat:=w75_6++[0]
def w75_2:List Nat:=w75_0++[0,1,1]
def w75_1:List Nat:=w75_2++[1]
def w75_5:List Nat:=w75_3++[0,1,1]
def w75_4:List Nat:=w75_5++[1]
noncomputable def e75 (J:Nat→Nat→Nat→St→Option (Int×Int×ByteArray×List Dt×List Dt)→Option (Int×Int×ByteArray×List Dt×List Dt)) (m:Nat) (p ms:List Nat) (σ:St):=evAt Tryz.prog env (ct m) J (m+1) 116 68 Tryz.f116 d75 p ms σ
noncomputable def l75 (J:Nat→Nat→Nat→St→Option (Int×Int×ByteArray×List Dt×List Dt)→Option (Int×Int×ByteArray×List Dt×List Dt)) (m:Nat) (p ms:List Nat) (M:Nat) (σ:St):=loopAt Tryz.prog env (ct m) J (m+1) 116 68 Tryz.f116 d75 p ms M σ
noncomputable def s75_3 (x0:List Dt) (x1 x2:Int) (x3 x4:Dt) (x5 x6:Int) (x7:ByteArray) (x8 x9:List Dt):St:=⟨tsOf [(1,(.ptr 0 [] 0)),(2,(.ptr 1 [] 0)),(3,(.ptr 2 [] 0)),(25,(.dat 23 (.lst x0))),(26,(.dat 3 (.int x1))),(27,(.dat 3 (.int x2)))],[(.box 36 (.dat 36 x3)),(.box 36 (.dat 36 x4)),(.box 36 (.agg 36 [(.dat 3 (.int x5)),(.dat 3 (.int x6)),(.dat 9 (.str x7)),(.row 3),(.row 4)])),(.row 23 x8),(.row 34 x9)],0⟩
noncomputable def s75_8 (x0:List Dt) (x1 x2:Int) (x3:Dt) (x4 x5:Int) (x6:ByteArray) (x7 x8:List Dt):St:=⟨tsOf [(2,(.ptr 0 [] 0)),(3,(.ptr 1 [] 0)),(49,(.dat 34 (.lst x0))),(50,(.dat 3 (.int x1))),(51,(.dat 3 (.int x2)))],[(.box 36 (.dat 36 x3)),(.box 36 (.agg 36 [(.dat 3 (.int x4)),(.dat 3 (.int x5)),(.dat 9 (.str x6)),(.row 2),(.row 3)])),(.row 23 x7),(.row 34 x8)],0⟩
noncomputable def s75_9 (x0:Dt) (x1 x2:Int) (x3:ByteArray) (x4 x5:List Dt):St:=⟨tsOf [(2,(.ptr 0 [] 0)),(3,(.ptr 1 [] 0))],[(.box 36 (.dat 36 x0)),(.box 36 (.agg 36 [(.dat 3 (.int x1)),(.dat 3 (.int x2)),(.dat 9 (.str x3)),(.row 2),(.row 3)])),(.row 23 x4),(.row 34 x5)],0⟩
noncomputable def s75_4 (x0 x1:Dt) (x2 x3:Int) (x4:ByteArray) (x5 x6:List Dt):St:=⟨tsOf [(1,(.ptr 0 [] 0)),(2,(.ptr 1 [] 0)),(3,(.ptr 2 [] 0))],[(.box 36 (.dat 36 x0)),(.box 36 (.dat 36 x1)),(.box 36 (.agg 36 [(.dat 3 (.int x2)),(.dat 3 (.int x3)),(.dat 9 (.str x4)),(.row 3),(.row 4)])),(.row 23 x5),(.row 34 x6)],0⟩
abbrev H75_1 (m M1:Nat) (rec1:List Dt→Int→Int→Dt→Dt→Int→Int→ByteArray→List Dt→List Dt→Option (Int×Int×ByteArray×List Dt×List Dt)):Prop:=∀x0 x1 x2 x3 x4 x5 x6 x7 x8 x9,l75 jn m w75_0 [] M1 (s75_3 x0 x1 x2 x3 x4 x5 x6 x7 x8 x9)=rec1 x0 x1 x2 x3 x4 x5 x6 x7 x8 x9
theorem qN_j3_eq m M1 rec1 (h1:H75_1 m M1 rec1) x0 x1 x2 x3 x4 x5 x6 x7 x8 x9:e75 jn m w75_1 [M1] (s75_3 x0 x1 x2 x3 x4 x5 x6 x7 x8 x9)=qN_j3 m (qN m) rec1 x0 x1 x2 x3 x4 x5 x6 x7 x8 x9:=
 tq (g:=fun J=>(jj J 1 5 M1 (s75_3 x0 x1 (IntKind.wrap .i64 (x2+1)) x3 x4 x5 x6 x7 x8 x9) (l75 J m w75_0 [] M1))) (by simp only[jj_eq,h1];rfl)
theorem qN_j2_eq m M1 rec1 (h1:H75_1 m M1 rec1) x0 x1 x2 x3 x4 x5 x6 x7 x8 x9:e75 jn m w75_2 [M1] (s75_3 x0 x1 x2 x3 x4 x5 x6 x7 x8 x9)=qN_j2 m (qN m) rec1 x0 x1 x2 x3 x4 x5 x6 x7 x8 x9:=
 tq (g:=fun J=>((idx x0 x2).bind fun v1=>
  ((qN m v1).bind fun r2=>
  ((inL x8 x2).bind fun v3=>
  ((x8[(Int.toNat x2)]?).bind fun v4=>
  (jj J 0 8 0 (s75_3 x0 x1 x2 x3 x4 x5 x6 x7 (List.set x8 (Int.toNat x2) (Dt.agg [(Dt.int r2.1),(Dt.int r2.2.1),(Dt.str r2.2.2.1),(Dt.lst r2.2.2.2.1),(Dt.lst r2.2.2.2.2)])) x9) (e75 J m w75_1 [M1]))))))) (by simp only[jj_eq,qN_j3_eq m M1 rec1 h1];rfl)
abbrev H75_6 (m M6:Nat) (rec6:List Dt→Int→Int→Dt→Int→Int→ByteArray→List Dt→List Dt→Option (Int×Int×ByteArray×List Dt×List Dt)):Prop:=∀x0 x1 x2 x3 x4 x5 x6 x7 x8,l75 jn m w75_3 [] M6 (s75_8 x0 x1 x2 x3 x4 x5 x6 x7 x8)=rec6 x0 x1 x2 x3 x4 x5 x6 x7 x8
theorem qN_j8_eq m M6 rec6 (h6:H75_6 m M6 rec6) x0 x1 x2 x3 x4 x5 x6 x7 x8:e75 jn m w75_4 [M6] (s75_8 x0 x1 x2 x3 x4 x5 x6 x7 x8)=qN_j8 m (qN m) rec6 x0 x1 x2 x3 x4 x5 x6 x7 x8:=
 tq (g:=fun J=>(jj J 1 12 M6 (s75_8 x0 x1 (IntKind.wrap .i64 (x2+1)) x3 x4 x5 x6 x7 x8) (l75 J m w75_3 [] M6))) (by simp only[jj_eq,h6];rfl)
theorem qN_j7_eq m M6 rec6 (h6:H75_6 m M6 rec6) x0 x1 x2 x3 x4 x5 x6 x7 x8:e75 jn m w75_5 [M6] (s75_8 x0 x1 x2 x3 x4 x5 x6 x7 x8)=qN_j7 m (qN m) rec6 x0 x1 x2 x3 x4 x5 x6 x7 x8:=
 tq (g:=fun J=>((idx x0 x2).bind fun v6=>
  ((qN m (Dt.fld v6 1)).bind fun r7=>
  ((inL x8 x2).bind fun v8=>
  ((x8[(Int.toNat x2)]?).bind fun v9=>
  (jj J 0 15 0 (s75_8 x0 x1 x2 x3 x4 x5 x6 x7 (List.set x8 (Int.toNat x2) (Dt.agg [(Dt.str (Dt.S v6 0)),(Dt.agg [(Dt.int r7.1),(Dt.int r7.2.1),(Dt.str r7.2.2.1),(Dt.lst r7.2.2.2.1),(Dt.lst r7.2.2.2.2)])]))) (e75 J m w75_4 [M6]))))))) (by simp only[jj_eq,qN_j8_eq m M6 rec6 h6];rfl)
theorem qN_j9_eq m x0 x1 x2 x3 x4 x5:e75 jn m [1,1,1,1] [] (s75_9 x0 x1 x2 x3 x4 x5)=qN_j9 m (qN m) x0 x1 x2 x3 x4 x5:=
 tq (g:=fun J=>some (x1,x2,x3,x4,x5)) (by rfl)
theorem qN_l6_eq m:∀M6 x0 x1 x2 x3 x4 x5 x6 x7 x8,l75 jn m w75_3 [] M6 (s75_8 x0 x1 x2 x3 x4 x5 x6 x7 x8)=qN_l6 m (qN m) M6 x0 x1 x2 x3 x4 x5 x6 x7 x8
 |0,_,_,_,_,_,_,_,_,_=>rfl
 | M6+1,x0,x1,x2,x3,x4,x5,x6,x7,x8=>
   tl (g:=fun J=>(bif (decide (x2<x1)) then
  (jj J 0 13 0 (s75_8 x0 x1 x2 x3 x4 x5 x6 x7 x8) (e75 J m w75_5 [M6]))
   else
  (jj J 0 16 0 (s75_9 x3 x4 x5 x6 x7 x8) (e75 J m [1,1,1,1] [])))) (by simp only[jj_eq,qN_j7_eq m M6 (qN_l6 m (qN m) M6) (qN_l6_eq m M6),qN_j9_eq m];rfl)
theorem qN_j5_eq m x0 x1 x2 x3 x4 x5 x6 x7 x8:e75 jn m w75_6 [] (s75_8 x0 x1 x2 x3 x4 x5 x6 x7 x8)=qN_j5 m (qN m) x0 x1 x2 x3 x4 x5 x6 x7 x8:=
 tq (g:=fun J=>(jj J 1 12 (Nat.succ m) (s75_8 x0 x1 x2 x3 x4 x5 x6 x7 x8) (l75 J m w75_3 [] (Nat.succ m)))) (by simp only[jj_eq,qN_l6_eq m];rfl)
theorem qN_j4_eq m x0 x1 x2 x3 x4 x5 x6:e75 jn m [1,1,1] [] (s75_4 x0 x1 x2 x3 x4 x5 x6)=qN_j4 m (qN m) x0 x1 x2 x3 x4 x5 x6:=
 tq (g:=fun J=>(bif (decide (0<(List.length (Dt.L x0 4):Int))) then
  ((mkL (List.length (Dt.L x0 4):Int) (List.length (Dt.L x0 4):Int) kzcda49).bind fun v5=>
  (jj J 0 12 0 (s75_8 (Dt.L x0 4) (List.length (Dt.L x0 4):Int) 0 x1 x2 x3 x4 x5 v5) (e75 J m w75_6 [])))
   else
  (jj J 0 16 0 (s75_9 x1 x2 x3 x4 x5 x6) (e75 J m [1,1,1,1] [])))) (by simp only[jj_eq,qN_j5_eq m,qN_j9_eq m];rfl)
theorem qN_l1_eq m:∀M1 x0 x1 x2 x3 x4 x5 x6 x7 x8 x9,l75 jn m w75_0 [] M1 (s75_3 x0 x1 x2 x3 x4 x5 x6 x7 x8 x9)=qN_l1 m (qN m) M1 x0 x1 x2 x3 x4 x5 x6 x7 x8 x9
 |0,_,_,_,_,_,_,_,_,_,_=>rfl
 | M1+1,x0,x1,x2,x3,x4,x5,x6,x7,x8,x9=>
   tl (g:=fun J=>(bif (decide (x2<x1)) then
  (jj J 0 6 0 (s75_3 x0 x1 x2 x3 x4 x5 x6 x7 x8 x9) (e75 J m w75_2 [M1]))
   else
  (jj J 0 9 0 (s75_4 x3 x4 x5 x6 x7 x8 x9) (e75 J m [1,1,1] [])))) (by simp only[jj_eq,qN_j2_eq m M1 (qN_l1 m (qN m) M1) (qN_l1_eq m M1),qN_j4_eq m];rfl)
theorem qN_j0_eq m x0 x1 x2 x3 x4 x5 x6 x7 x8 x9:e75 jn m w75_7 [] (s75_3 x0 x1 x2 x3 x4 x5 x6 x7 x8 x9)=qN_j0 m (qN m) x0 x1 x2 x3 x4 x5 x6 x7 x8 x9:=
 tq (g:=fun J=>(jj J 1 5 (Nat.succ m) (s75_3 x0 x1 x2 x3 x4 x5 x6 x7 x8 x9) (l75 J m w75_0 [] (Nat.succ m)))) (by simp only[jj_eq,qN_l1_eq m];rfl)
theorem qN_eq m a0:e75 jn m [] [] ⟨[(.dat 36 a0)],[],0⟩=qN (m+1) a0:=
 tq (g:=fun J=>(bif (decide (0<(List.length (Dt.L a0 3):Int))) then
  ((mkL (List.length (Dt.L a0 3):Int) (List.length (Dt.L a0 3):Int) kza2373).bind fun v0=>
  (jj J 0 5 0 (s75_3 (Dt.L a0 3) (List.length (Dt.L a0 3):Int) 0 a0 kza2373 (Dt.I a0 0) (Dt.I a0 1) (Dt.S a0 2) v0 []) (e75 J m w75_7 [])))
   else
  (jj J 0 9 0 (s75_4 a0 kza2373 (Dt.I a0 0) (Dt.I a0 1) (Dt.S a0 2) [] []) (e75 J m [1,1,1] [])))) (by simp only[jj_eq,qN_j0_eq m,qN_j4_eq m];rfl)
def w62_3:List Nat:=[1,1,1,0,1]
def w62_0:List Nat:=[1,1,1,0,1,0]
def w62_2:List Nat:=w62_0++[0,1,1]
def w62_1:List Nat:=w62_2++[1]
noncomputable def e62 (J:Nat→Nat→Nat→St→Option (List Dt)→Option (List Dt)) (m:Nat) (p ms:List Nat) (σ:St):=evAt Tryz.prog env (ct m) J (m+1) 99 30 Tryz.f99 d44 p ms σ
noncomputable def l62 (J:Nat→Nat→Nat→St→Option (List Dt)→Option (List Dt)) (m:Nat) (p ms:List Nat) (M:Nat) (σ:St):=loopAt Tryz.prog env (ct m) J (m+1) 99 30 Tryz.f99 d44 p ms M σ
noncomputable def s62_4 (x0 x1:Int) (x2:List Dt):St:=⟨tsOf [(5,(.row 0)),(16,(.row 0)),(17,(.dat 3 (.int x0))),(18,(.dat 3 (.int x1)))],[(.row 23 x2)],0⟩
noncomputable def s62_5 (x0:List Dt):St:=⟨tsOf [(5,(.row 0))],[(.row 23 x0)],0⟩
abbrev H62_2 (m M2:Nat) (rec2:Int→Int→List Dt→Option (List Dt)):Prop:=∀x0 x1 x2,l62 jn m w62_0 [] M2 (s62_4 x0 x1 x2)=rec2 x0 x1 x2
theorem zP_j4_eq m M2 rec2 (h2:H62_2 m M2 rec2) x0 x1 x2:e62 jn m w62_1 [M2] (s62_4 x0 x1 x2)=zP_j4 m rec2 x0 x1 x2:=
 tq (g:=fun J=>(jj J 1 5 M2 (s62_4 x0 (IntKind.wrap .i64 (x1+1)) x2) (l62 J m w62_0 [] M2))) (by simp only[jj_eq,h2];rfl)
theorem zP_j3_eq m M2 rec2 (h2:H62_2 m M2 rec2) x0 x1 x2:e62 jn m w62_2 [M2] (s62_4 x0 x1 x2)=zP_j3 m rec2 x0 x1 x2:=
 tq (g:=fun J=>((inL x2 x1).bind fun v1=>
  ((x2[(Int.toNat x1)]?).bind fun v2=>
  ((qN m v2).bind fun r3=>
  ((inL x2 x1).bind fun v4=>
  ((x2[(Int.toNat x1)]?).bind fun v5=>
  (jj J 0 8 0 (s62_4 x0 x1 (List.set x2 (Int.toNat x1) (Dt.agg [(Dt.int r3.1),(Dt.int r3.2.1),(Dt.str r3.2.2.1),(Dt.lst r3.2.2.2.1),(Dt.lst r3.2.2.2.2)]))) (e62 J m w62_1 [M2])))))))) (by simp only[jj_eq,zP_j4_eq m M2 rec2 h2];rfl)
theorem zP_j5_eq m x0:e62 jn m [1,1,1,1] [] (s62_5 x0)=zP_j5 m x0:=
 tq (g:=fun J=>some x0) (by rfl)
theorem zP_l2_eq m:∀M2 x0 x1 x2,l62 jn m w62_0 [] M2 (s62_4 x0 x1 x2)=zP_l2 m M2 x0 x1 x2
 |0,_,_,_=>rfl
 | M2+1,x0,x1,x2=>
   tl (g:=fun J=>(bif (decide (x1<x0)) then
  (jj J 0 6 0 (s62_4 x0 x1 x2) (e62 J m w62_2 [M2]))
   else
  (jj J 0 9 0 (s62_5 x2) (e62 J m [1,1,1,1] [])))) (by simp only[jj_eq,zP_j3_eq m M2 (zP_l2 m M2) (zP_l2_eq m M2),zP_j5_eq m];rfl)
theorem zP_j1_eq m x0 x1 x2:e62 jn m w62_3 [] (s62_4 x0 x1 x2)=zP_j1 m x0 x1 x2:=
 tq (g:=fun J=>(jj J 1 5 (Nat.succ m) (s62_4 x0 x1 x2) (l62 J m w62_0 [] (Nat.succ m)))) (by simp only[jj_eq,zP_l2_eq m];rfl)
theorem zP_j0_eq m x0:e62 jn m [1,1,1] [] (s62_5 x0)=zP_j0 m x0:=
 tq (g:=fun J=>(jj J 0 5 0 (s62_4 (List.length x0:Int) 0 x0) (e62 J m w62_3 []))) (by simp only[jj_eq,zP_j1_eq m];rfl)
theorem zP_eq m a0 a1:e62 jn m [] [] ⟨[(.dat 36 a0),(.dat 38 (.lst a1))],[],0⟩=zP (m+1) a0 a1:=
 tq (g:=fun J=>((i72 m a0 a1 []).bind fun r0=>
  (bif ((List.length r0:Int)==0) then
  some [kza2373]
  else
  (jj J 0 4 0 (s62_5 r0) (e62 J m [1,1,1] []))))) (by simp only[jj_eq,zP_j0_eq m];rfl)
noncomputable def e76 (J:Nat→Nat→Nat→St→Option Bool→Option Bool) (m:Nat) (p ms:List Nat) (σ:St):=evAt Tryz.prog env (ct m) J (m+1) 107 6 Tryz.f107 d13 p ms σ
theorem yL_eq m a0:e76 jn m [] [] ⟨[(.dat 3 (.int a0))],[],0⟩=yL (m+1) a0:=
 tq (g:=fun J=>some (a0 !=a0)) (by rfl)
def w63_3:List Nat:=[1,1,1,1,1]
def w63_2:List Nat:=[1,1,1,1,1,1]
def w63_0:List Nat:=[1,1,1,0,1,0,1]
def w63_1:List Nat:=w63_2++[1]
noncomputable def e63 (J:Nat→Nat→Nat→St→Option Int→Option Int) (m:Nat) (p ms:List Nat) (σ:St):=evAt Tryz.prog env (ct m) J (m+1) 90 20 Tryz.f90 d25 p ms σ
noncomputable def s63_0:St:=⟨tsOf [],[],0⟩
noncomputable def s63_3 (x0 x1:Int):St:=⟨tsOf [(0,(.dat 3 (.int x0))),(1,(.dat 3 (.int x1)))],[],0⟩
noncomputable def s63_1 (x0 x1:Int) (x2:Bool):St:=⟨tsOf [(0,(.dat 3 (.int x0))),(1,(.dat 3 (.int x1))),(6,(.dat 4 (.bool x2)))],[],0⟩
theorem zM_j0_eq m:e63 jn m w63_0 [] s63_0=zM_j0 m:=
 tq (g:=fun J=>some (-1)) (by rfl)
theorem zM_j4_eq m:e63 jn m w63_1 [] s63_0=zM_j4 m:=
 tq (g:=fun J=>some 0) (by rfl)
theorem zM_j3_eq m x0 x1:e63 jn m w63_2 [] (s63_3 x0 x1)=zM_j3 m x0 x1:=
 tq (g:=fun J=>(bif (decide (x1<x0)) then
  some 1
   else
  (jj J 0 13 0 s63_0 (e63 J m w63_1 [])))) (by simp only[jj_eq,zM_j4_eq m];rfl)
theorem zM_j2_eq m x0 x1:e63 jn m w63_3 [] (s63_3 x0 x1)=zM_j2 m x0 x1:=
 tq (g:=fun J=>(bif (decide (x0<x1)) then
  some (-1)
   else
  (jj J 0 11 0 (s63_3 x0 x1) (e63 J m w63_2 [])))) (by simp only[jj_eq,zM_j3_eq m];rfl)
theorem zM_j1_eq m x0 x1 x2:e63 jn m [1,1,1,1] [] (s63_1 x0 x1 x2)=zM_j1 m x0 x1 x2:=
 tq (g:=fun J=>(bif x2 then
  some 1
   else
  (jj J 0 9 0 (s63_3 x0 x1) (e63 J m w63_3 [])))) (by simp only[jj_eq,zM_j2_eq m];rfl)
theorem zM_eq m a0 a1:e63 jn m [] [] ⟨[(.dat 3 (.int a0)),(.dat 3 (.int a1))],[],0⟩=zM (m+1) a0 a1:=
 tq (g:=fun J=>((yL m a0).bind fun r0=>
  ((yL m a1).bind fun r1=>
  (bif r0 then
  (bif r1 then
  some 0
  else
  (jj J 0 6 0 s63_0 (e63 J m w63_0 [])))
  else
  (jj J 0 7 0 (s63_1 a0 a1 r1) (e63 J m [1,1,1,1] [])))))) (by simp only[jj_eq,zM_j0_eq m,zM_j1_eq m];rfl)
end Go.Proofs.YtpifchdngodgjaaGreatDoor
