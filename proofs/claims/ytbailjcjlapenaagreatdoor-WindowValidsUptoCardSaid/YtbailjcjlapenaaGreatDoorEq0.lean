/- Generated: each function's run in the abstract machine is its shallow function. -/
import Derived.Test.YtbailjcjlapenaaGreatDoorCt
import Derived.Test.YtbailjcjlapenaaGreatDoorAmEnv
import Derived.KernelRfl
set_option linter.unusedVariables false
set_option linter.unusedSimpArgs false
namespace Go.Proofs.YtbailjcjlapenaaGreatDoor
open Go.Am
set_option maxRecDepth 100000
def w7_5:List Nat:=[1,0,1,0,1]
def w7_3:List Nat:=[1,0,1,0,1,1,1,0,1,1]
def w7_4:List Nat:=[1,0,1,0,1,1,1,0,1,0,1]
def w7_0:List Nat:=w7_4++[0]
def w7_2:List Nat:=w7_0++[0,1,1]
def w7_1:List Nat:=w7_2++[1]
noncomputable def e7 (J:Nat→Nat→Nat→St→Option (List Dt)→Option (List Dt)) (m:Nat) (p ms:List Nat) (σ:St):=evAt Tryz.prog env (ct m) J (m+1) 22 37 Tryz.f22 d7 p ms σ
noncomputable def l7 (J:Nat→Nat→Nat→St→Option (List Dt)→Option (List Dt)) (m:Nat) (p ms:List Nat) (M:Nat) (σ:St):=loopAt Tryz.prog env (ct m) J (m+1) 22 37 Tryz.f22 d7 p ms M σ
noncomputable def s7_4 (x0:List Dt) (x1 x2:Int) (x3:List Dt):St:=⟨tsOf [(3,(.row 0)),(24,(.dat 56 (.lst x0))),(25,(.dat 3 (.int x1))),(26,(.dat 3 (.int x2)))],[(.row 80 x3)],0⟩
noncomputable def s7_5 (x0:List Dt):St:=⟨tsOf [(3,(.row 0))],[(.row 80 x0)],0⟩
noncomputable def s7_6:St:=⟨tsOf [],[],0⟩
noncomputable def s7_0 (x0:Dt) (x1:Int) (x2:Bool):St:=⟨tsOf [(0,(.rptr 60 x0)),(9,(.dat 3 (.int x1))),(10,(.dat 4 (.bool x2)))],[],0⟩
abbrev H7_2 (m M2:Nat) (rec2:List Dt→Int→Int→List Dt→Option (List Dt)):Prop:=∀x0 x1 x2 x3,l7 jn m w7_0 [] M2 (s7_4 x0 x1 x2 x3)=rec2 x0 x1 x2 x3
theorem i7_j4_eq m M2 rec2 (h2:H7_2 m M2 rec2) x0 x1 x2 x3:e7 jn m w7_1 [M2] (s7_4 x0 x1 x2 x3)=i7_j4 m rec2 x0 x1 x2 x3:=
 tre (g:=fun J=>(jj J 1 8 M2 (s7_4 x0 x1 (IntKind.wrap .i64 (x2+1)) x3) (l7 J m w7_0 [] M2))) (fun J=>by kernel_rfl) (by simp only[jj_eq,h2];rfl)
theorem i7_j3_eq m M2 rec2 (h2:H7_2 m M2 rec2) x0 x1 x2 x3:e7 jn m w7_2 [M2] (s7_4 x0 x1 x2 x3)=i7_j3 m rec2 x0 x1 x2 x3:=
 tre (g:=fun J=>((idx x0 x2).bind fun v0=>
  ((app x3 [(Dt.lst (Dt.L v0 1))]).bind fun v1=>
  (jj J 0 11 0 (s7_4 x0 x1 x2 v1) (e7 J m w7_1 [M2]))))) (fun J=>by kernel_rfl) (by simp only[jj_eq,i7_j4_eq m M2 rec2 h2];rfl)
theorem i7_j5_eq m x0:e7 jn m w7_3 [] (s7_5 x0)=i7_j5 m x0:=
 tre (g:=fun J=>some x0) (fun J=>by kernel_rfl) (by rfl)
theorem i7_l2_eq m:∀M2 x0 x1 x2 x3,l7 jn m w7_0 [] M2 (s7_4 x0 x1 x2 x3)=i7_l2 m M2 x0 x1 x2 x3
 |0,_,_,_,_=>rfl
 | M2+1,x0,x1,x2,x3=>
   trl (g:=fun J=>(bif (decide (x2<x1)) then
  (jj J 0 9 0 (s7_4 x0 x1 x2 x3) (e7 J m w7_2 [M2]))
   else
  (jj J 0 12 0 (s7_5 x3) (e7 J m w7_3 [])))) (fun J=>by kernel_rfl) (by simp only[jj_eq,i7_j3_eq m M2 (i7_l2 m M2) (i7_l2_eq m M2),i7_j5_eq m];rfl)
theorem i7_j1_eq m x0 x1 x2 x3:e7 jn m w7_4 [] (s7_4 x0 x1 x2 x3)=i7_j1 m x0 x1 x2 x3:=
 tre (g:=fun J=>(jj J 1 8 (Nat.succ m) (s7_4 x0 x1 x2 x3) (l7 J m w7_0 [] (Nat.succ m)))) (fun J=>by kernel_rfl) (by simp only[jj_eq,i7_l2_eq m];rfl)
theorem i7_j6_eq m:e7 jn m [1,1] [] s7_6=i7_j6 m:=
 tre (g:=fun J=>some []) (fun J=>by kernel_rfl) (by rfl)
theorem i7_j0_eq m x0 x1 x2:e7 jn m w7_5 [] (s7_0 x0 x1 x2)=i7_j0 m x0 x1 x2:=
 tre (g:=fun J=>(bif x2 then
  some [(Dt.lst (Dt.L (Dt.fld x0 12) 4))]
   else
  (bif (x1==11) then
  (jj J 0 8 0 (s7_4 (Dt.L x0 13) (List.length (Dt.L x0 13):Int) 0 []) (e7 J m w7_4 []))
  else
  (jj J 0 13 0 s7_6 (e7 J m [1,1] []))))) (fun J=>by kernel_rfl) (by simp only[jj_eq,i7_j1_eq m,i7_j6_eq m];rfl)
theorem i7_eq m a0:e7 jn m [] [] ⟨[(.rptr 60 a0)],[],0⟩=i7 (m+1) a0:=
 tre (g:=fun J=>(bif ((Dt.I a0 0)==10) then
  (jj J 0 4 0 (s7_0 a0 (Dt.I a0 0) ((Dt.I a0 0)==10)) (e7 J m w7_5 []))
   else
  (jj J 0 4 0 (s7_0 a0 (Dt.I a0 0) ((Dt.I a0 0)==15)) (e7 J m w7_5 [])))) (fun J=>by kernel_rfl) (by simp only[jj_eq,i7_j0_eq m];rfl)
def w6_0:List Nat:=[1,1,0,1,0]
def w6_7:List Nat:=[1,1,0,1,0,0,1,1]
def w6_4:List Nat:=w6_7++[1]
def w6_6:List Nat:=w6_7++[0,0,1,1,1]
def w6_5:List Nat:=w6_6++[1]
def w6_1:List Nat:=w6_5++[0]
def w6_3:List Nat:=w6_1++[0,1,1]
def w6_2:List Nat:=w6_3++[1]
noncomputable def e6 (J:Nat→Nat→Nat→St→Option (Bool×Int)→Option (Bool×Int)) (m:Nat) (p ms:List Nat) (σ:St):=evAt Tryz.prog env (ct m) J (m+1) 11 47 Tryz.f11 d6 p ms σ
noncomputable def l6 (J:Nat→Nat→Nat→St→Option (Bool×Int)→Option (Bool×Int)) (m:Nat) (p ms:List Nat) (M:Nat) (σ:St):=loopAt Tryz.prog env (ct m) J (m+1) 11 47 Tryz.f11 d6 p ms M σ
noncomputable def s6_9 (x0:List Dt) (x1 x2 x3:Int) (x4:List Dt) (x5 x6 x7:Int):St:=⟨tsOf [(0,(.dat 53 (.lst x0))),(1,(.dat 3 (.int x1))),(2,(.ptr 0 [] 0)),(18,(.dat 3 (.int x2))),(19,(.dat 3 (.int x3))),(34,(.dat 80 (.lst x4))),(35,(.dat 3 (.int x5))),(36,(.dat 3 (.int x6)))],[(.box 3 (.dat 3 (.int x7)))],1⟩
noncomputable def s6_10 (x0:List Dt) (x1 x2 x3 x4:Int):St:=⟨tsOf [(0,(.dat 53 (.lst x0))),(1,(.dat 3 (.int x1))),(2,(.ptr 0 [] 0)),(18,(.dat 3 (.int x2))),(19,(.dat 3 (.int x3)))],[(.box 3 (.dat 3 (.int x4)))],1⟩
noncomputable def s6_5 (x0:List Dt) (x1 x2 x3 x4 x5:Int):St:=⟨tsOf [(0,(.dat 53 (.lst x0))),(1,(.dat 3 (.int x1))),(2,(.ptr 0 [] 0)),(7,(.dat 3 (.int x2))),(18,(.dat 3 (.int x3))),(19,(.dat 3 (.int x4)))],[(.box 3 (.dat 3 (.int x5)))],1⟩
noncomputable def s6_11 (x0:Int):St:=⟨tsOf [],[(.box 3 (.dat 3 (.int x0)))],1⟩
noncomputable def s6_1 (x0:List Dt) (x1 x2:Int):St:=⟨tsOf [(0,(.dat 53 (.lst x0))),(1,(.dat 3 (.int x1))),(2,(.ptr 0 [] 0))],[(.box 3 (.dat 3 (.int x2)))],1⟩
noncomputable def s6_0 (x0:List Dt) (x1:Int) (x2:Bool) (x3:Int):St:=⟨tsOf [(0,(.dat 53 (.lst x0))),(1,(.dat 3 (.int x1))),(2,(.ptr 0 [] 0)),(16,(.dat 4 (.bool x2)))],[(.box 3 (.dat 3 (.int x3)))],1⟩
abbrev H6_3 (m M3:Nat) (rec3:List Dt→Int→Int→Int→Int→Option (Bool×Int)):Prop:=∀x0 x1 x2 x3 x4,l6 jn m w6_0 [] M3 (s6_10 x0 x1 x2 x3 x4)=rec3 x0 x1 x2 x3 x4
abbrev H6_7 (m M3 M7:Nat) (rec7:List Dt→Int→Int→Int→List Dt→Int→Int→Int→Option (Bool×Int)):Prop:=∀x0 x1 x2 x3 x4 x5 x6 x7,l6 jn m w6_1 [M3] M7 (s6_9 x0 x1 x2 x3 x4 x5 x6 x7)=rec7 x0 x1 x2 x3 x4 x5 x6 x7
theorem i6_j9_eq m M3 rec3 (h3:H6_3 m M3 rec3) M7 rec7 (h7:H6_7 m M3 M7 rec7) x0 x1 x2 x3 x4 x5 x6 x7:e6 jn m w6_2 [M3,M7] (s6_9 x0 x1 x2 x3 x4 x5 x6 x7)=i6_j9 m (i6 m) rec3 rec7 x0 x1 x2 x3 x4 x5 x6 x7:=
 tre (g:=fun J=>(jj J 1 10 M7 (s6_9 x0 x1 x2 x3 x4 x5 (IntKind.wrap .i64 (x6+1)) x7) (l6 J m w6_1 [M3] M7))) (fun J=>by kernel_rfl) (by simp only[jj_eq,h7];rfl)
theorem i6_j8_eq m M3 rec3 (h3:H6_3 m M3 rec3) M7 rec7 (h7:H6_7 m M3 M7 rec7) x0 x1 x2 x3 x4 x5 x6 x7:e6 jn m w6_3 [M3,M7] (s6_9 x0 x1 x2 x3 x4 x5 x6 x7)=i6_j8 m (i6 m) rec3 rec7 x0 x1 x2 x3 x4 x5 x6 x7:=
 tre (g:=fun J=>((idx x4 x6).bind fun v2=>
  ((i6 m (Dt.toLst v2) (IntKind.wrap .i64 (x1+1)) x7).bind fun r3=>
  (bif r3.1 then
  some (true,r3.2)
  else
  (jj J 0 14 0 (s6_9 x0 x1 x2 x3 x4 x5 x6 r3.2) (e6 J m w6_2 [M3,M7])))))) (fun J=>by kernel_rfl) (by simp only[jj_eq,i6_j9_eq m M3 rec3 h3 M7 rec7 h7];rfl)
theorem i6_j10_eq m M3 rec3 (h3:H6_3 m M3 rec3) x0 x1 x2 x3 x4:e6 jn m w6_4 [M3] (s6_10 x0 x1 x2 x3 x4)=i6_j10 m (i6 m) rec3 x0 x1 x2 x3 x4:=
 tre (g:=fun J=>(jj J 1 4 M3 (s6_10 x0 x1 x2 (IntKind.wrap .i64 (x3+1)) x4) (l6 J m w6_0 [] M3))) (fun J=>by kernel_rfl) (by simp only[jj_eq,h3];rfl)
theorem i6_l7_eq m M3 rec3 (h3:H6_3 m M3 rec3):∀M7 x0 x1 x2 x3 x4 x5 x6 x7,l6 jn m w6_1 [M3] M7 (s6_9 x0 x1 x2 x3 x4 x5 x6 x7)=i6_l7 m (i6 m) rec3 M7 x0 x1 x2 x3 x4 x5 x6 x7
 |0,_,_,_,_,_,_,_,_=>rfl
 | M7+1,x0,x1,x2,x3,x4,x5,x6,x7=>
   trl (g:=fun J=>(bif (decide (x6<x5)) then
  (jj J 0 11 0 (s6_9 x0 x1 x2 x3 x4 x5 x6 x7) (e6 J m w6_3 [M3,M7]))
   else
  (jj J 0 15 0 (s6_10 x0 x1 x2 x3 x7) (e6 J m w6_4 [M3])))) (fun J=>by kernel_rfl) (by simp only[jj_eq,i6_j8_eq m M3 rec3 h3 M7 (i6_l7 m (i6 m) rec3 M7) (i6_l7_eq m M3 rec3 h3 M7),i6_j10_eq m M3 rec3 h3];rfl)
theorem i6_j6_eq m M3 rec3 (h3:H6_3 m M3 rec3) x0 x1 x2 x3 x4 x5 x6 x7:e6 jn m w6_5 [M3] (s6_9 x0 x1 x2 x3 x4 x5 x6 x7)=i6_j6 m (i6 m) rec3 x0 x1 x2 x3 x4 x5 x6 x7:=
 tre (g:=fun J=>(jj J 1 10 (Nat.succ m) (s6_9 x0 x1 x2 x3 x4 x5 x6 x7) (l6 J m w6_1 [M3] (Nat.succ m)))) (fun J=>by kernel_rfl) (by simp only[jj_eq,i6_l7_eq m M3 rec3 h3];rfl)
theorem i6_j5_eq m M3 rec3 (h3:H6_3 m M3 rec3) x0 x1 x2 x3 x4 x5:e6 jn m w6_6 [M3] (s6_5 x0 x1 x2 x3 x4 x5)=i6_j5 m (i6 m) rec3 x0 x1 x2 x3 x4 x5:=
 tre (g:=fun J=>((idx x0 x2).bind fun v0=>
  ((i7 m v0).bind fun r1=>
  (jj J 0 10 0 (s6_9 x0 x1 x3 x4 r1 (List.length r1:Int) 0 x5) (e6 J m w6_5 [M3]))))) (fun J=>by kernel_rfl) (by simp only[jj_eq,i6_j6_eq m M3 rec3 h3];rfl)
theorem i6_j4_eq m M3 rec3 (h3:H6_3 m M3 rec3) x0 x1 x2 x3 x4:e6 jn m w6_7 [M3] (s6_10 x0 x1 x2 x3 x4)=i6_j4 m (i6 m) rec3 x0 x1 x2 x3 x4:=
 tre (g:=fun J=>(bif (decide (32<(IntKind.wrap .i64 (x4+1)))) then
  some (true,(IntKind.wrap .i64 (x4+1)))
   else
  (jj J 0 9 0 (s6_5 x0 x1 x3 x2 x3 (IntKind.wrap .i64 (x4+1))) (e6 J m w6_6 [M3])))) (fun J=>by kernel_rfl) (by simp only[jj_eq,i6_j5_eq m M3 rec3 h3];rfl)
theorem i6_j11_eq m x0:e6 jn m [1,1,1] [] (s6_11 x0)=i6_j11 m (i6 m) x0:=
 tre (g:=fun J=>some (false,x0)) (fun J=>by kernel_rfl) (by rfl)
theorem i6_l3_eq m:∀M3 x0 x1 x2 x3 x4,l6 jn m w6_0 [] M3 (s6_10 x0 x1 x2 x3 x4)=i6_l3 m (i6 m) M3 x0 x1 x2 x3 x4
 |0,_,_,_,_,_=>rfl
 | M3+1,x0,x1,x2,x3,x4=>
   trl (g:=fun J=>(bif (decide (x3<x2)) then
  (jj J 0 5 0 (s6_10 x0 x1 x2 x3 x4) (e6 J m w6_7 [M3]))
   else
  (jj J 0 16 0 (s6_11 x4) (e6 J m [1,1,1] [])))) (fun J=>by kernel_rfl) (by simp only[jj_eq,i6_j4_eq m M3 (i6_l3 m (i6 m) M3) (i6_l3_eq m M3),i6_j11_eq m];rfl)
theorem i6_j2_eq m x0 x1 x2 x3 x4:e6 jn m [1,1,0,1] [] (s6_10 x0 x1 x2 x3 x4)=i6_j2 m (i6 m) x0 x1 x2 x3 x4:=
 tre (g:=fun J=>(jj J 1 4 (Nat.succ m) (s6_10 x0 x1 x2 x3 x4) (l6 J m w6_0 [] (Nat.succ m)))) (fun J=>by kernel_rfl) (by simp only[jj_eq,i6_l3_eq m];rfl)
theorem i6_j1_eq m x0 x1 x2:e6 jn m [1,1] [] (s6_1 x0 x1 x2)=i6_j1 m (i6 m) x0 x1 x2:=
 tre (g:=fun J=>(jj J 0 4 0 (s6_10 x0 x1 (List.length x0:Int) 0 x2) (e6 J m [1,1,0,1] []))) (fun J=>by kernel_rfl) (by simp only[jj_eq,i6_j2_eq m];rfl)
theorem i6_j0_eq m x0 x1 x2 x3:e6 jn m [1,0,1] [] (s6_0 x0 x1 x2 x3)=i6_j0 m (i6 m) x0 x1 x2 x3:=
 tre (g:=fun J=>(bif x2 then
  some (true,x3)
   else
  (jj J 0 3 0 (s6_1 x0 x1 x3) (e6 J m [1,1] [])))) (fun J=>by kernel_rfl) (by simp only[jj_eq,i6_j1_eq m];rfl)
theorem i6_eq m a0 a1 a2:e6 jn m [] [] ⟨[(.dat 53 (.lst a0)),(.dat 3 (.int a1)),(.ptr 0 [] 0)],[(.box 3 (.dat 3 (.int a2)))],1⟩=i6 (m+1) a0 a1 a2:=
 tre (g:=fun J=>(bif (decide (0<(List.length a0:Int))) then
  (jj J 0 2 0 (s6_0 a0 a1 (decide (16<a1)) a2) (e6 J m [1,0,1] []))
   else
  (jj J 0 2 0 (s6_0 a0 a1 false a2) (e6 J m [1,0,1] [])))) (fun J=>by kernel_rfl) (by simp only[jj_eq,i6_j0_eq m];rfl)
def w17_0:List Nat:=[1,1,0,1,0]
def w17_2:List Nat:=[1,1,0,1,0,0,1]
def w17_1:List Nat:=w17_2++[1]
noncomputable def e17 (J:Nat→Nat→Nat→St→Option Bool→Option Bool) (m:Nat) (p ms:List Nat) (σ:St):=evAt Tryz.prog env (ct m) J (m+1) 27 26 Tryz.f27 d17 p ms σ
noncomputable def l17 (J:Nat→Nat→Nat→St→Option Bool→Option Bool) (m:Nat) (p ms:List Nat) (M:Nat) (σ:St):=loopAt Tryz.prog env (ct m) J (m+1) 27 26 Tryz.f27 d17 p ms M σ
noncomputable def s17_4 (x0 x1:List Dt) (x2:Int):St:=⟨tsOf [(0,(.dat 22 (.lst x0))),(1,(.dat 22 (.lst x1))),(5,(.dat 3 (.int x2)))],[],0⟩
noncomputable def s17_5:St:=⟨tsOf [],[],0⟩
noncomputable def s17_0 (x0 x1:List Dt):St:=⟨tsOf [(0,(.dat 22 (.lst x0))),(1,(.dat 22 (.lst x1)))],[],0⟩
abbrev H17_2 (m M2:Nat) (rec2:List Dt→List Dt→Int→Option Bool):Prop:=∀x0 x1 x2,l17 jn m w17_0 [] M2 (s17_4 x0 x1 x2)=rec2 x0 x1 x2
theorem ref12_same_j4_eq m M2 rec2 (h2:H17_2 m M2 rec2) x0 x1 x2:e17 jn m w17_1 [M2] (s17_4 x0 x1 x2)=ref12_same_j4 m rec2 x0 x1 x2:=
 tre (g:=fun J=>(jj J 1 4 M2 (s17_4 x0 x1 (IntKind.wrap .i64 (x2+1))) (l17 J m w17_0 [] M2))) (fun J=>by kernel_rfl) (by simp only[jj_eq,h2];rfl)
theorem ref12_same_j3_eq m M2 rec2 (h2:H17_2 m M2 rec2) x0 x1 x2:e17 jn m w17_2 [M2] (s17_4 x0 x1 x2)=ref12_same_j3 m rec2 x0 x1 x2:=
 tre (g:=fun J=>((idx x0 x2).bind fun v0=>
  ((idx x1 x2).bind fun v1=>
  (bif (Bool.not ((ByteArray.toList (Dt.toStr v0))==(ByteArray.toList (Dt.toStr v1)))) then
  some false
  else
  (jj J 0 5 0 (s17_4 x0 x1 x2) (e17 J m w17_1 [M2])))))) (fun J=>by kernel_rfl) (by simp only[jj_eq,ref12_same_j4_eq m M2 rec2 h2];rfl)
theorem ref12_same_j5_eq m:e17 jn m [1,1,1] [] s17_5=ref12_same_j5 m:=
 tre (g:=fun J=>some true) (fun J=>by kernel_rfl) (by rfl)
theorem ref12_same_l2_eq m:∀M2 x0 x1 x2,l17 jn m w17_0 [] M2 (s17_4 x0 x1 x2)=ref12_same_l2 m M2 x0 x1 x2
 |0,_,_,_=>rfl
 | M2+1,x0,x1,x2=>
   trl (g:=fun J=>(bif (decide (x2<(List.length x0:Int))) then
  (jj J 0 6 0 (s17_4 x0 x1 x2) (e17 J m w17_2 [M2]))
   else
  (jj J 0 8 0 s17_5 (e17 J m [1,1,1] [])))) (fun J=>by kernel_rfl) (by simp only[jj_eq,ref12_same_j3_eq m M2 (ref12_same_l2 m M2) (ref12_same_l2_eq m M2),ref12_same_j5_eq m];rfl)
theorem ref12_same_j1_eq m x0 x1 x2:e17 jn m [1,1,0,1] [] (s17_4 x0 x1 x2)=ref12_same_j1 m x0 x1 x2:=
 tre (g:=fun J=>(jj J 1 4 (Nat.succ m) (s17_4 x0 x1 x2) (l17 J m w17_0 [] (Nat.succ m)))) (fun J=>by kernel_rfl) (by simp only[jj_eq,ref12_same_l2_eq m];rfl)
theorem ref12_same_j0_eq m x0 x1:e17 jn m [1,1] [] (s17_0 x0 x1)=ref12_same_j0 m x0 x1:=
 tre (g:=fun J=>(jj J 0 4 0 (s17_4 x0 x1 0) (e17 J m [1,1,0,1] []))) (fun J=>by kernel_rfl) (by simp only[jj_eq,ref12_same_j1_eq m];rfl)
theorem ref12_same_eq m a0 a1:e17 jn m [] [] ⟨[(.dat 22 (.lst a0)),(.dat 22 (.lst a1))],[],0⟩=ref12_same (m+1) a0 a1:=
 tre (g:=fun J=>(bif ((List.length a0:Int) !=(List.length a1:Int)) then
  some false
   else
  (jj J 0 3 0 (s17_0 a0 a1) (e17 J m [1,1] [])))) (fun J=>by kernel_rfl) (by simp only[jj_eq,ref12_same_j0_eq m];rfl)
def w18_0:List Nat:=[1,1,0,1,0]
def w18_3:List Nat:=[1,1,0,1,0,0,1]
def w18_1:List Nat:=w18_3++[1]
def w18_2:List Nat:=w18_3++[0,0,1]
noncomputable def e18 (J:Nat→Nat→Nat→St→Option Bool→Option Bool) (m:Nat) (p ms:List Nat) (σ:St):=evAt Tryz.prog env (ct m) J (m+1) 28 39 Tryz.f28 d17 p ms σ
noncomputable def l18 (J:Nat→Nat→Nat→St→Option Bool→Option Bool) (m:Nat) (p ms:List Nat) (M:Nat) (σ:St):=loopAt Tryz.prog env (ct m) J (m+1) 28 39 Tryz.f28 d17 p ms M σ
noncomputable def s18_6 (x0:ByteArray) (x1:Int):St:=⟨tsOf [(0,(.dat 9 (.str x0))),(3,(.dat 3 (.int x1)))],[],0⟩
noncomputable def s18_5 (x0:ByteArray) (x1:Int) (x2:Bool):St:=⟨tsOf [(0,(.dat 9 (.str x0))),(3,(.dat 3 (.int x1))),(38,(.dat 4 (.bool x2)))],[],0⟩
noncomputable def s18_7:St:=⟨tsOf [],[],0⟩
noncomputable def s18_1 (x0:ByteArray):St:=⟨tsOf [(0,(.dat 9 (.str x0)))],[],0⟩
noncomputable def s18_0 (x0:ByteArray) (x1:Bool):St:=⟨tsOf [(0,(.dat 9 (.str x0))),(16,(.dat 4 (.bool x1)))],[],0⟩
abbrev H18_3 (m M3:Nat) (rec3:ByteArray→Int→Option Bool):Prop:=∀x0 x1,l18 jn m w18_0 [] M3 (s18_6 x0 x1)=rec3 x0 x1
theorem ref01_Name_j6_eq m M3 rec3 (h3:H18_3 m M3 rec3) x0 x1:e18 jn m w18_1 [M3] (s18_6 x0 x1)=ref01_Name_j6 m rec3 x0 x1:=
 tre (g:=fun J=>(jj J 1 4 M3 (s18_6 x0 (IntKind.wrap .i64 (x1+1))) (l18 J m w18_0 [] M3))) (fun J=>by kernel_rfl) (by simp only[jj_eq,h3];rfl)
theorem ref01_Name_j5_eq m M3 rec3 (h3:H18_3 m M3 rec3) x0 x1 x2:e18 jn m w18_2 [M3] (s18_5 x0 x1 x2)=ref01_Name_j5 m rec3 x0 x1 x2:=
 tre (g:=fun J=>(bif x2 then
  some false
   else
  (jj J 0 5 0 (s18_6 x0 x1) (e18 J m w18_1 [M3])))) (fun J=>by kernel_rfl) (by simp only[jj_eq,ref01_Name_j6_eq m M3 rec3 h3];rfl)
theorem ref01_Name_j4_eq m M3 rec3 (h3:H18_3 m M3 rec3) x0 x1:e18 jn m w18_3 [M3] (s18_6 x0 x1)=ref01_Name_j4 m rec3 x0 x1:=
 tre (g:=fun J=>((idxS x0 x1).bind fun v0=>
  (bif (decide (v0<33)) then
  (jj J 0 7 0 (s18_5 x0 x1 true) (e18 J m w18_2 [M3]))
  else
  ((idxS x0 x1).bind fun v1=>
  (bif (decide (126<v1)) then
  (jj J 0 7 0 (s18_5 x0 x1 true) (e18 J m w18_2 [M3]))
  else
  ((idxS x0 x1).bind fun v2=>
  (jj J 0 7 0 (s18_5 x0 x1 (v2==46)) (e18 J m w18_2 [M3])))))))) (fun J=>by kernel_rfl) (by simp only[jj_eq,ref01_Name_j5_eq m M3 rec3 h3];rfl)
theorem ref01_Name_j7_eq m:e18 jn m [1,1,1] [] s18_7=ref01_Name_j7 m:=
 tre (g:=fun J=>some true) (fun J=>by kernel_rfl) (by rfl)
theorem ref01_Name_l3_eq m:∀M3 x0 x1,l18 jn m w18_0 [] M3 (s18_6 x0 x1)=ref01_Name_l3 m M3 x0 x1
 |0,_,_=>rfl
 | M3+1,x0,x1=>
   trl (g:=fun J=>(bif (decide (x1<(ByteArray.size x0:Int))) then
  (jj J 0 6 0 (s18_6 x0 x1) (e18 J m w18_3 [M3]))
   else
  (jj J 0 8 0 s18_7 (e18 J m [1,1,1] [])))) (fun J=>by kernel_rfl) (by simp only[jj_eq,ref01_Name_j4_eq m M3 (ref01_Name_l3 m M3) (ref01_Name_l3_eq m M3),ref01_Name_j7_eq m];rfl)
theorem ref01_Name_j2_eq m x0 x1:e18 jn m [1,1,0,1] [] (s18_6 x0 x1)=ref01_Name_j2 m x0 x1:=
 tre (g:=fun J=>(jj J 1 4 (Nat.succ m) (s18_6 x0 x1) (l18 J m w18_0 [] (Nat.succ m)))) (fun J=>by kernel_rfl) (by simp only[jj_eq,ref01_Name_l3_eq m];rfl)
theorem ref01_Name_j1_eq m x0:e18 jn m [1,1] [] (s18_1 x0)=ref01_Name_j1 m x0:=
 tre (g:=fun J=>(jj J 0 4 0 (s18_6 x0 0) (e18 J m [1,1,0,1] []))) (fun J=>by kernel_rfl) (by simp only[jj_eq,ref01_Name_j2_eq m];rfl)
theorem ref01_Name_j0_eq m x0 x1:e18 jn m [1,0,1] [] (s18_0 x0 x1)=ref01_Name_j0 m x0 x1:=
 tre (g:=fun J=>(bif x1 then
  some false
   else
  (jj J 0 3 0 (s18_1 x0) (e18 J m [1,1] [])))) (fun J=>by kernel_rfl) (by simp only[jj_eq,ref01_Name_j1_eq m];rfl)
theorem ref01_Name_eq m a0:e18 jn m [] [] ⟨[(.dat 9 (.str a0))],[],0⟩=ref01_Name (m+1) a0:=
 tre (g:=fun J=>(bif (decide ((ByteArray.size a0:Int)<1)) then
  (jj J 0 2 0 (s18_0 a0 true) (e18 J m [1,0,1] []))
   else
  (bif (decide (32<(ByteArray.size a0:Int))) then
  (jj J 0 2 0 (s18_0 a0 true) (e18 J m [1,0,1] []))
  else
  ((idxS a0 0).bind fun v3=>
  (jj J 0 2 0 (s18_0 a0 (v3==36)) (e18 J m [1,0,1] [])))))) (fun J=>by kernel_rfl) (by simp only[jj_eq,ref01_Name_j0_eq m];rfl)
noncomputable def e11 (J:Nat→Nat→Nat→St→Option Bool→Option Bool) (m:Nat) (p ms:List Nat) (σ:St):=evAt Tryz.prog env (ct m) J (m+1) 15 9 Tryz.f15 d17 p ms σ
noncomputable def l11 (J:Nat→Nat→Nat→St→Option Bool→Option Bool) (m:Nat) (p ms:List Nat) (M:Nat) (σ:St):=loopAt Tryz.prog env (ct m) J (m+1) 15 9 Tryz.f15 d17 p ms M σ
theorem ref31_output_eq m a0:e11 jn m [] [] ⟨[(.dat 9 (.str a0))],[],0⟩=ref31_output (m+1) a0:=
 tre (g:=fun J=>((ref01_Name m a0).bind fun r0=>
  (bif r0 then
  some (Bool.not ((ByteArray.toList a0)==[95,105,100]))
  else
  some false))) (fun J=>by kernel_rfl) (by rfl)
def w16_0:List Nat:=[1,1,0,1,0]
def w16_2:List Nat:=[1,1,0,1,0,0,1]
def w16_1:List Nat:=w16_2++[1]
noncomputable def e16 (J:Nat→Nat→Nat→St→Option Bool→Option Bool) (m:Nat) (p ms:List Nat) (σ:St):=evAt Tryz.prog env (ct m) J (m+1) 26 24 Tryz.f26 d17 p ms σ
noncomputable def l16 (J:Nat→Nat→Nat→St→Option Bool→Option Bool) (m:Nat) (p ms:List Nat) (M:Nat) (σ:St):=loopAt Tryz.prog env (ct m) J (m+1) 26 24 Tryz.f26 d17 p ms M σ
noncomputable def s16_5 (x0:List Dt) (x1:Int):St:=⟨tsOf [(0,(.dat 22 (.lst x0))),(3,(.dat 3 (.int x1)))],[],0⟩
noncomputable def s16_6:St:=⟨tsOf [],[],0⟩
noncomputable def s16_1 (x0:List Dt):St:=⟨tsOf [(0,(.dat 22 (.lst x0)))],[],0⟩
noncomputable def s16_0 (x0:List Dt) (x1:Bool):St:=⟨tsOf [(0,(.dat 22 (.lst x0))),(11,(.dat 4 (.bool x1)))],[],0⟩
abbrev H16_3 (m M3:Nat) (rec3:List Dt→Int→Option Bool):Prop:=∀x0 x1,l16 jn m w16_0 [] M3 (s16_5 x0 x1)=rec3 x0 x1
theorem ref04_Valid_j5_eq m M3 rec3 (h3:H16_3 m M3 rec3) x0 x1:e16 jn m w16_1 [M3] (s16_5 x0 x1)=ref04_Valid_j5 m rec3 x0 x1:=
 tre (g:=fun J=>(jj J 1 4 M3 (s16_5 x0 (IntKind.wrap .i64 (x1+1))) (l16 J m w16_0 [] M3))) (fun J=>by kernel_rfl) (by simp only[jj_eq,h3];rfl)
theorem ref04_Valid_j4_eq m M3 rec3 (h3:H16_3 m M3 rec3) x0 x1:e16 jn m w16_2 [M3] (s16_5 x0 x1)=ref04_Valid_j4 m rec3 x0 x1:=
 tre (g:=fun J=>((idx x0 x1).bind fun v0=>
  ((ref01_Name m (Dt.toStr v0)).bind fun r1=>
  (bif (Bool.not r1) then
  some false
  else
  (jj J 0 5 0 (s16_5 x0 x1) (e16 J m w16_1 [M3])))))) (fun J=>by kernel_rfl) (by simp only[jj_eq,ref04_Valid_j5_eq m M3 rec3 h3];rfl)
theorem ref04_Valid_j6_eq m:e16 jn m [1,1,1] [] s16_6=ref04_Valid_j6 m:=
 tre (g:=fun J=>some true) (fun J=>by kernel_rfl) (by rfl)
theorem ref04_Valid_l3_eq m:∀M3 x0 x1,l16 jn m w16_0 [] M3 (s16_5 x0 x1)=ref04_Valid_l3 m M3 x0 x1
 |0,_,_=>rfl
 | M3+1,x0,x1=>
   trl (g:=fun J=>(bif (decide (x1<(List.length x0:Int))) then
  (jj J 0 6 0 (s16_5 x0 x1) (e16 J m w16_2 [M3]))
   else
  (jj J 0 8 0 s16_6 (e16 J m [1,1,1] [])))) (fun J=>by kernel_rfl) (by simp only[jj_eq,ref04_Valid_j4_eq m M3 (ref04_Valid_l3 m M3) (ref04_Valid_l3_eq m M3),ref04_Valid_j6_eq m];rfl)
theorem ref04_Valid_j2_eq m x0 x1:e16 jn m [1,1,0,1] [] (s16_5 x0 x1)=ref04_Valid_j2 m x0 x1:=
 tre (g:=fun J=>(jj J 1 4 (Nat.succ m) (s16_5 x0 x1) (l16 J m w16_0 [] (Nat.succ m)))) (fun J=>by kernel_rfl) (by simp only[jj_eq,ref04_Valid_l3_eq m];rfl)
theorem ref04_Valid_j1_eq m x0:e16 jn m [1,1] [] (s16_1 x0)=ref04_Valid_j1 m x0:=
 tre (g:=fun J=>(jj J 0 4 0 (s16_5 x0 0) (e16 J m [1,1,0,1] []))) (fun J=>by kernel_rfl) (by simp only[jj_eq,ref04_Valid_j2_eq m];rfl)
theorem ref04_Valid_j0_eq m x0 x1:e16 jn m [1,0,1] [] (s16_0 x0 x1)=ref04_Valid_j0 m x0 x1:=
 tre (g:=fun J=>(bif x1 then
  some false
   else
  (jj J 0 3 0 (s16_1 x0) (e16 J m [1,1] [])))) (fun J=>by kernel_rfl) (by simp only[jj_eq,ref04_Valid_j1_eq m];rfl)
theorem ref04_Valid_eq m a0:e16 jn m [] [] ⟨[(.dat 22 (.lst a0))],[],0⟩=ref04_Valid (m+1) a0:=
 tre (g:=fun J=>(bif (decide ((List.length a0:Int)<1)) then
  (jj J 0 2 0 (s16_0 a0 true) (e16 J m [1,0,1] []))
   else
  (jj J 0 2 0 (s16_0 a0 (decide (16<(List.length a0:Int)))) (e16 J m [1,0,1] [])))) (fun J=>by kernel_rfl) (by simp only[jj_eq,ref04_Valid_j0_eq m];rfl)
def w10_0:List Nat:=[1,1,0,1,0]
def w10_7:List Nat:=[1,1,0,1,0,0,1]
def w10_4:List Nat:=w10_7++[1]
def w10_6:List Nat:=w10_7++[0,0,1]
def w10_5:List Nat:=w10_6++[1]
def w10_1:List Nat:=w10_5++[0]
def w10_3:List Nat:=w10_1++[0,1]
def w10_2:List Nat:=w10_3++[1]
noncomputable def e10 (J:Nat→Nat→Nat→St→Option Int→Option Int) (m:Nat) (p ms:List Nat) (σ:St):=evAt Tryz.prog env (ct m) J (m+1) 14 37 Tryz.f14 d10 p ms σ
noncomputable def l10 (J:Nat→Nat→Nat→St→Option Int→Option Int) (m:Nat) (p ms:List Nat) (M:Nat) (σ:St):=loopAt Tryz.prog env (ct m) J (m+1) 14 37 Tryz.f14 d10 p ms M σ
noncomputable def s10_8 (x0:List Dt) (x1 x2:Int):St:=⟨tsOf [(0,(.dat 30 (.lst x0))),(3,(.dat 3 (.int x1))),(4,(.dat 3 (.int x2)))],[],0⟩
noncomputable def s10_9 (x0:List Dt) (x1:Int):St:=⟨tsOf [(0,(.dat 30 (.lst x0))),(3,(.dat 3 (.int x1)))],[],0⟩
noncomputable def s10_10:St:=⟨tsOf [],[],0⟩
noncomputable def s10_0 (x0:List Dt):St:=⟨tsOf [(0,(.dat 30 (.lst x0)))],[],0⟩
abbrev H10_2 (m M2:Nat) (rec2:List Dt→Int→Option Int):Prop:=∀x0 x1,l10 jn m w10_0 [] M2 (s10_9 x0 x1)=rec2 x0 x1
abbrev H10_6 (m M2 M6:Nat) (rec6:List Dt→Int→Int→Option Int):Prop:=∀x0 x1 x2,l10 jn m w10_1 [M2] M6 (s10_8 x0 x1 x2)=rec6 x0 x1 x2
theorem ref12_Valid_j8_eq m M2 rec2 (h2:H10_2 m M2 rec2) M6 rec6 (h6:H10_6 m M2 M6 rec6) x0 x1 x2:e10 jn m w10_2 [M2,M6] (s10_8 x0 x1 x2)=ref12_Valid_j8 m rec2 rec6 x0 x1 x2:=
 tre (g:=fun J=>(jj J 1 9 M6 (s10_8 x0 x1 (IntKind.wrap .i64 (x2+1))) (l10 J m w10_1 [M2] M6))) (fun J=>by kernel_rfl) (by simp only[jj_eq,h6];rfl)
theorem ref12_Valid_j7_eq m M2 rec2 (h2:H10_2 m M2 rec2) M6 rec6 (h6:H10_6 m M2 M6 rec6) x0 x1 x2:e10 jn m w10_3 [M2,M6] (s10_8 x0 x1 x2)=ref12_Valid_j7 m rec2 rec6 x0 x1 x2:=
 tre (g:=fun J=>((idx x0 x1).bind fun v2=>
  ((idx x0 x2).bind fun v3=>
  ((ref12_same m (Dt.L v2 0) (Dt.L v3 0)).bind fun r4=>
  (bif r4 then
  some 12
  else
  (jj J 0 10 0 (s10_8 x0 x1 x2) (e10 J m w10_2 [M2,M6]))))))) (fun J=>by kernel_rfl) (by simp only[jj_eq,ref12_Valid_j8_eq m M2 rec2 h2 M6 rec6 h6];rfl)
theorem ref12_Valid_j9_eq m M2 rec2 (h2:H10_2 m M2 rec2) x0 x1:e10 jn m w10_4 [M2] (s10_9 x0 x1)=ref12_Valid_j9 m rec2 x0 x1:=
 tre (g:=fun J=>(jj J 1 4 M2 (s10_9 x0 (IntKind.wrap .i64 (x1+1))) (l10 J m w10_0 [] M2))) (fun J=>by kernel_rfl) (by simp only[jj_eq,h2];rfl)
theorem ref12_Valid_l6_eq m M2 rec2 (h2:H10_2 m M2 rec2):∀M6 x0 x1 x2,l10 jn m w10_1 [M2] M6 (s10_8 x0 x1 x2)=ref12_Valid_l6 m rec2 M6 x0 x1 x2
 |0,_,_,_=>rfl
 | M6+1,x0,x1,x2=>
   trl (g:=fun J=>(bif (decide (x2<x1)) then
  (jj J 0 11 0 (s10_8 x0 x1 x2) (e10 J m w10_3 [M2,M6]))
   else
  (jj J 0 5 0 (s10_9 x0 x1) (e10 J m w10_4 [M2])))) (fun J=>by kernel_rfl) (by simp only[jj_eq,ref12_Valid_j7_eq m M2 rec2 h2 M6 (ref12_Valid_l6 m rec2 M6) (ref12_Valid_l6_eq m M2 rec2 h2 M6),ref12_Valid_j9_eq m M2 rec2 h2];rfl)
theorem ref12_Valid_j5_eq m M2 rec2 (h2:H10_2 m M2 rec2) x0 x1 x2:e10 jn m w10_5 [M2] (s10_8 x0 x1 x2)=ref12_Valid_j5 m rec2 x0 x1 x2:=
 tre (g:=fun J=>(jj J 1 9 (Nat.succ m) (s10_8 x0 x1 x2) (l10 J m w10_1 [M2] (Nat.succ m)))) (fun J=>by kernel_rfl) (by simp only[jj_eq,ref12_Valid_l6_eq m M2 rec2 h2];rfl)
theorem ref12_Valid_j4_eq m M2 rec2 (h2:H10_2 m M2 rec2) x0 x1:e10 jn m w10_6 [M2] (s10_9 x0 x1)=ref12_Valid_j4 m rec2 x0 x1:=
 tre (g:=fun J=>(jj J 0 9 0 (s10_8 x0 x1 0) (e10 J m w10_5 [M2]))) (fun J=>by kernel_rfl) (by simp only[jj_eq,ref12_Valid_j5_eq m M2 rec2 h2];rfl)
theorem ref12_Valid_j3_eq m M2 rec2 (h2:H10_2 m M2 rec2) x0 x1:e10 jn m w10_7 [M2] (s10_9 x0 x1)=ref12_Valid_j3 m rec2 x0 x1:=
 tre (g:=fun J=>((idx x0 x1).bind fun v0=>
  ((ref04_Valid m (Dt.L v0 0)).bind fun r1=>
  (bif (Bool.not r1) then
  some 10
  else
  (jj J 0 8 0 (s10_9 x0 x1) (e10 J m w10_6 [M2])))))) (fun J=>by kernel_rfl) (by simp only[jj_eq,ref12_Valid_j4_eq m M2 rec2 h2];rfl)
theorem ref12_Valid_j10_eq m:e10 jn m [1,1,1] [] s10_10=ref12_Valid_j10 m:=
 tre (g:=fun J=>some 0) (fun J=>by kernel_rfl) (by rfl)
theorem ref12_Valid_l2_eq m:∀M2 x0 x1,l10 jn m w10_0 [] M2 (s10_9 x0 x1)=ref12_Valid_l2 m M2 x0 x1
 |0,_,_=>rfl
 | M2+1,x0,x1=>
   trl (g:=fun J=>(bif (decide (x1<(List.length x0:Int))) then
  (jj J 0 6 0 (s10_9 x0 x1) (e10 J m w10_7 [M2]))
   else
  (jj J 0 13 0 s10_10 (e10 J m [1,1,1] [])))) (fun J=>by kernel_rfl) (by simp only[jj_eq,ref12_Valid_j3_eq m M2 (ref12_Valid_l2 m M2) (ref12_Valid_l2_eq m M2),ref12_Valid_j10_eq m];rfl)
theorem ref12_Valid_j1_eq m x0 x1:e10 jn m [1,1,0,1] [] (s10_9 x0 x1)=ref12_Valid_j1 m x0 x1:=
 tre (g:=fun J=>(jj J 1 4 (Nat.succ m) (s10_9 x0 x1) (l10 J m w10_0 [] (Nat.succ m)))) (fun J=>by kernel_rfl) (by simp only[jj_eq,ref12_Valid_l2_eq m];rfl)
theorem ref12_Valid_j0_eq m x0:e10 jn m [1,1] [] (s10_0 x0)=ref12_Valid_j0 m x0:=
 tre (g:=fun J=>(jj J 0 4 0 (s10_9 x0 0) (e10 J m [1,1,0,1] []))) (fun J=>by kernel_rfl) (by simp only[jj_eq,ref12_Valid_j1_eq m];rfl)
theorem ref12_Valid_eq m a0:e10 jn m [] [] ⟨[(.dat 30 (.lst a0))],[],0⟩=ref12_Valid (m+1) a0:=
 tre (g:=fun J=>(bif (decide (8<(List.length a0:Int))) then
  some 2
   else
  (jj J 0 3 0 (s10_0 a0) (e10 J m [1,1] [])))) (fun J=>by kernel_rfl) (by simp only[jj_eq,ref12_Valid_j0_eq m];rfl)
noncomputable def e24 (J:Nat→Nat→Nat→St→Option Int→Option Int) (m:Nat) (p ms:List Nat) (σ:St):=evAt Tryz.prog env (ct m) J (m+1) 47 7 Tryz.f47 d10 p ms σ
noncomputable def l24 (J:Nat→Nat→Nat→St→Option Int→Option Int) (m:Nat) (p ms:List Nat) (M:Nat) (σ:St):=loopAt Tryz.prog env (ct m) J (m+1) 47 7 Tryz.f47 d10 p ms M σ
noncomputable def s24_0 (x0:Int):St:=⟨tsOf [(1,(.dat 34 (.int x0)))],[],0⟩
theorem pipeline_unless_j0_eq m x0:e24 jn m [1,1] [] (s24_0 x0)=pipeline_unless_j0 m x0:=
 tre (g:=fun J=>some x0) (fun J=>by kernel_rfl) (by rfl)
theorem pipeline_unless_eq m a0 a1:e24 jn m [] [] ⟨[(.dat 4 (.bool a0)),(.dat 34 (.int a1))],[],0⟩=pipeline_unless (m+1) a0 a1:=
 tre (g:=fun J=>(bif a0 then
  some 0
   else
  (jj J 0 3 0 (s24_0 a1) (e24 J m [1,1] [])))) (fun J=>by kernel_rfl) (by simp only[jj_eq,pipeline_unless_j0_eq m];rfl)
def w37_0:List Nat:=[1,1,0,1,0]
def w37_2:List Nat:=[1,1,0,1,0,0,1,1]
def w37_1:List Nat:=w37_2++[1]
noncomputable def e37 (J:Nat→Nat→Nat→St→Option Bool→Option Bool) (m:Nat) (p ms:List Nat) (σ:St):=evAt Tryz.prog env (ct m) J (m+1) 89 26 Tryz.f89 d17 p ms σ
noncomputable def l37 (J:Nat→Nat→Nat→St→Option Bool→Option Bool) (m:Nat) (p ms:List Nat) (M:Nat) (σ:St):=loopAt Tryz.prog env (ct m) J (m+1) 89 26 Tryz.f89 d17 p ms M σ
noncomputable def s37_4 (x0 x1:List Dt) (x2 x3:Int):St:=⟨tsOf [(0,(.dat 22 (.lst x0))),(1,(.dat 22 (.lst x1))),(12,(.dat 3 (.int x2))),(13,(.dat 3 (.int x3)))],[],0⟩
noncomputable def s37_5:St:=⟨tsOf [],[],0⟩
noncomputable def s37_0 (x0 x1:List Dt):St:=⟨tsOf [(0,(.dat 22 (.lst x0))),(1,(.dat 22 (.lst x1)))],[],0⟩
abbrev H37_2 (m M2:Nat) (rec2:List Dt→List Dt→Int→Int→Option Bool):Prop:=∀x0 x1 x2 x3,l37 jn m w37_0 [] M2 (s37_4 x0 x1 x2 x3)=rec2 x0 x1 x2 x3
theorem slices_Equal_j4_eq m M2 rec2 (h2:H37_2 m M2 rec2) x0 x1 x2 x3:e37 jn m w37_1 [M2] (s37_4 x0 x1 x2 x3)=slices_Equal_j4 m rec2 x0 x1 x2 x3:=
 tre (g:=fun J=>(jj J 1 4 M2 (s37_4 x0 x1 x2 (IntKind.wrap .i64 (x3+1))) (l37 J m w37_0 [] M2))) (fun J=>by kernel_rfl) (by simp only[jj_eq,h2];rfl)
theorem slices_Equal_j3_eq m M2 rec2 (h2:H37_2 m M2 rec2) x0 x1 x2 x3:e37 jn m w37_2 [M2] (s37_4 x0 x1 x2 x3)=slices_Equal_j3 m rec2 x0 x1 x2 x3:=
 tre (g:=fun J=>((idx x0 x3).bind fun v0=>
  ((idx x1 x3).bind fun v1=>
  (bif (Bool.not ((ByteArray.toList (Dt.toStr v0))==(ByteArray.toList (Dt.toStr v1)))) then
  some false
  else
  (jj J 0 8 0 (s37_4 x0 x1 x2 x3) (e37 J m w37_1 [M2])))))) (fun J=>by kernel_rfl) (by simp only[jj_eq,slices_Equal_j4_eq m M2 rec2 h2];rfl)
theorem slices_Equal_j5_eq m:e37 jn m [1,1,1] [] s37_5=slices_Equal_j5 m:=
 tre (g:=fun J=>some true) (fun J=>by kernel_rfl) (by rfl)
theorem slices_Equal_l2_eq m:∀M2 x0 x1 x2 x3,l37 jn m w37_0 [] M2 (s37_4 x0 x1 x2 x3)=slices_Equal_l2 m M2 x0 x1 x2 x3
 |0,_,_,_,_=>rfl
 | M2+1,x0,x1,x2,x3=>
   trl (g:=fun J=>(bif (decide (x3<x2)) then
  (jj J 0 5 0 (s37_4 x0 x1 x2 x3) (e37 J m w37_2 [M2]))
   else
  (jj J 0 9 0 s37_5 (e37 J m [1,1,1] [])))) (fun J=>by kernel_rfl) (by simp only[jj_eq,slices_Equal_j3_eq m M2 (slices_Equal_l2 m M2) (slices_Equal_l2_eq m M2),slices_Equal_j5_eq m];rfl)
theorem slices_Equal_j1_eq m x0 x1 x2 x3:e37 jn m [1,1,0,1] [] (s37_4 x0 x1 x2 x3)=slices_Equal_j1 m x0 x1 x2 x3:=
 tre (g:=fun J=>(jj J 1 4 (Nat.succ m) (s37_4 x0 x1 x2 x3) (l37 J m w37_0 [] (Nat.succ m)))) (fun J=>by kernel_rfl) (by simp only[jj_eq,slices_Equal_l2_eq m];rfl)
theorem slices_Equal_j0_eq m x0 x1:e37 jn m [1,1] [] (s37_0 x0 x1)=slices_Equal_j0 m x0 x1:=
 tre (g:=fun J=>(jj J 0 4 0 (s37_4 x0 x1 (List.length x0:Int) 0) (e37 J m [1,1,0,1] []))) (fun J=>by kernel_rfl) (by simp only[jj_eq,slices_Equal_j1_eq m];rfl)
theorem slices_Equal_eq m a0 a1:e37 jn m [] [] ⟨[(.dat 22 (.lst a0)),(.dat 22 (.lst a1))],[],0⟩=slices_Equal (m+1) a0 a1:=
 tre (g:=fun J=>(bif ((List.length a0:Int) !=(List.length a1:Int)) then
  some false
   else
  (jj J 0 3 0 (s37_0 a0 a1) (e37 J m [1,1] [])))) (fun J=>by kernel_rfl) (by simp only[jj_eq,slices_Equal_j0_eq m];rfl)
def w40_0:List Nat:=[1,1,0,1,0]
def w40_3:List Nat:=[1,1,0,1,0,0,1,1]
def w40_1:List Nat:=w40_3++[1]
def w40_2:List Nat:=w40_3++[0,0,1,1]
noncomputable def e40 (J:Nat→Nat→Nat→St→Option Bool→Option Bool) (m:Nat) (p ms:List Nat) (σ:St):=evAt Tryz.prog env (ct m) J (m+1) 91 39 Tryz.f91 d17 p ms σ
noncomputable def l40 (J:Nat→Nat→Nat→St→Option Bool→Option Bool) (m:Nat) (p ms:List Nat) (M:Nat) (σ:St):=loopAt Tryz.prog env (ct m) J (m+1) 91 39 Tryz.f91 d17 p ms M σ
noncomputable def s40_6 (x0:ByteArray) (x1 x2:Int):St:=⟨tsOf [(0,(.dat 9 (.str x0))),(18,(.dat 3 (.int x1))),(19,(.dat 3 (.int x2)))],[],0⟩
noncomputable def s40_5 (x0:ByteArray) (x1 x2:Int) (x3:Bool):St:=⟨tsOf [(0,(.dat 9 (.str x0))),(18,(.dat 3 (.int x1))),(19,(.dat 3 (.int x2))),(37,(.dat 4 (.bool x3)))],[],0⟩
noncomputable def s40_7:St:=⟨tsOf [],[],0⟩
noncomputable def s40_1 (x0:ByteArray):St:=⟨tsOf [(0,(.dat 9 (.str x0)))],[],0⟩
noncomputable def s40_0 (x0:ByteArray) (x1:Bool):St:=⟨tsOf [(0,(.dat 9 (.str x0))),(16,(.dat 4 (.bool x1)))],[],0⟩
abbrev H40_3 (m M3:Nat) (rec3:ByteArray→Int→Int→Option Bool):Prop:=∀x0 x1 x2,l40 jn m w40_0 [] M3 (s40_6 x0 x1 x2)=rec3 x0 x1 x2
theorem path_notName_j6_eq m M3 rec3 (h3:H40_3 m M3 rec3) x0 x1 x2:e40 jn m w40_1 [M3] (s40_6 x0 x1 x2)=path_notName_j6 m rec3 x0 x1 x2:=
 tre (g:=fun J=>(jj J 1 4 M3 (s40_6 x0 x1 (IntKind.wrap .i64 (x2+1))) (l40 J m w40_0 [] M3))) (fun J=>by kernel_rfl) (by simp only[jj_eq,h3];rfl)
theorem path_notName_j5_eq m M3 rec3 (h3:H40_3 m M3 rec3) x0 x1 x2 x3:e40 jn m w40_2 [M3] (s40_5 x0 x1 x2 x3)=path_notName_j5 m rec3 x0 x1 x2 x3:=
 tre (g:=fun J=>(bif x3 then
  some true
   else
  (jj J 0 8 0 (s40_6 x0 x1 x2) (e40 J m w40_1 [M3])))) (fun J=>by kernel_rfl) (by simp only[jj_eq,path_notName_j6_eq m M3 rec3 h3];rfl)
theorem path_notName_j4_eq m M3 rec3 (h3:H40_3 m M3 rec3) x0 x1 x2:e40 jn m w40_3 [M3] (s40_6 x0 x1 x2)=path_notName_j4 m rec3 x0 x1 x2:=
 tre (g:=fun J=>((idxS x0 x2).bind fun v0=>
  (bif (decide (v0<33)) then
  (jj J 0 7 0 (s40_5 x0 x1 x2 true) (e40 J m w40_2 [M3]))
  else
  ((idxS x0 x2).bind fun v1=>
  (bif (decide (126<v1)) then
  (jj J 0 7 0 (s40_5 x0 x1 x2 true) (e40 J m w40_2 [M3]))
  else
  ((idxS x0 x2).bind fun v2=>
  (jj J 0 7 0 (s40_5 x0 x1 x2 (v2==46)) (e40 J m w40_2 [M3])))))))) (fun J=>by kernel_rfl) (by simp only[jj_eq,path_notName_j5_eq m M3 rec3 h3];rfl)
theorem path_notName_j7_eq m:e40 jn m [1,1,1] [] s40_7=path_notName_j7 m:=
 tre (g:=fun J=>some false) (fun J=>by kernel_rfl) (by rfl)
theorem path_notName_l3_eq m:∀M3 x0 x1 x2,l40 jn m w40_0 [] M3 (s40_6 x0 x1 x2)=path_notName_l3 m M3 x0 x1 x2
 |0,_,_,_=>rfl
 | M3+1,x0,x1,x2=>
   trl (g:=fun J=>(bif (decide (x2<x1)) then
  (jj J 0 5 0 (s40_6 x0 x1 x2) (e40 J m w40_3 [M3]))
   else
  (jj J 0 9 0 s40_7 (e40 J m [1,1,1] [])))) (fun J=>by kernel_rfl) (by simp only[jj_eq,path_notName_j4_eq m M3 (path_notName_l3 m M3) (path_notName_l3_eq m M3),path_notName_j7_eq m];rfl)
theorem path_notName_j2_eq m x0 x1 x2:e40 jn m [1,1,0,1] [] (s40_6 x0 x1 x2)=path_notName_j2 m x0 x1 x2:=
 tre (g:=fun J=>(jj J 1 4 (Nat.succ m) (s40_6 x0 x1 x2) (l40 J m w40_0 [] (Nat.succ m)))) (fun J=>by kernel_rfl) (by simp only[jj_eq,path_notName_l3_eq m];rfl)
theorem path_notName_j1_eq m x0:e40 jn m [1,1] [] (s40_1 x0)=path_notName_j1 m x0:=
 tre (g:=fun J=>(jj J 0 4 0 (s40_6 x0 (ByteArray.size x0:Int) 0) (e40 J m [1,1,0,1] []))) (fun J=>by kernel_rfl) (by simp only[jj_eq,path_notName_j2_eq m];rfl)
theorem path_notName_j0_eq m x0 x1:e40 jn m [1,0,1] [] (s40_0 x0 x1)=path_notName_j0 m x0 x1:=
 tre (g:=fun J=>(bif x1 then
  some true
   else
  (jj J 0 3 0 (s40_1 x0) (e40 J m [1,1] [])))) (fun J=>by kernel_rfl) (by simp only[jj_eq,path_notName_j1_eq m];rfl)
theorem path_notName_eq m a0:e40 jn m [] [] ⟨[(.dat 9 (.str a0))],[],0⟩=path_notName (m+1) a0:=
 tre (g:=fun J=>(bif (decide ((ByteArray.size a0:Int)<1)) then
  (jj J 0 2 0 (s40_0 a0 true) (e40 J m [1,0,1] []))
   else
  (bif (decide (32<(ByteArray.size a0:Int))) then
  (jj J 0 2 0 (s40_0 a0 true) (e40 J m [1,0,1] []))
  else
  ((idxS a0 0).bind fun v3=>
  (jj J 0 2 0 (s40_0 a0 (v3==36)) (e40 J m [1,0,1] [])))))) (fun J=>by kernel_rfl) (by simp only[jj_eq,path_notName_j0_eq m];rfl)
def w39_1:List Nat:=[1,0,1,0,0,1,1]
def w39_0:List Nat:=w39_1++[1]
noncomputable def e39 (J:Nat→Nat→Nat→St→Option Int→Option Int) (m:Nat) (p ms:List Nat) (σ:St):=evAt Tryz.prog env (ct m) J (m+1) 117 19 Tryz.f117 d39 p ms σ
noncomputable def l39 (J:Nat→Nat→Nat→St→Option Int→Option Int) (m:Nat) (p ms:List Nat) (M:Nat) (σ:St):=loopAt Tryz.prog env (ct m) J (m+1) 117 19 Tryz.f117 d39 p ms M σ
noncomputable def s39_3 (x0:List Dt) (x1 x2:Int):St:=⟨tsOf [(0,(.dat 22 (.lst x0))),(1,(.fn 91 [])),(7,(.dat 3 (.int x1))),(8,(.dat 3 (.int x2)))],[],0⟩
noncomputable def s39_4:St:=⟨tsOf [],[],0⟩
abbrev H39_1 (m M1:Nat) (rec1:List Dt→Int→Int→Option Int):Prop:=∀x0 x1 x2,l39 jn m [1,0,1,0] [] M1 (s39_3 x0 x1 x2)=rec1 x0 x1 x2
theorem i39_j3_eq m M1 rec1 (h1:H39_1 m M1 rec1) x0 x1 x2:e39 jn m w39_0 [M1] (s39_3 x0 x1 x2)=i39_j3 m rec1 x0 x1 x2:=
 tre (g:=fun J=>(jj J 1 2 M1 (s39_3 x0 x1 (IntKind.wrap .i64 (x2+1))) (l39 J m [1,0,1,0] [] M1))) (fun J=>by kernel_rfl) (by simp only[jj_eq,h1];rfl)
theorem i39_j2_eq m M1 rec1 (h1:H39_1 m M1 rec1) x0 x1 x2:e39 jn m w39_1 [M1] (s39_3 x0 x1 x2)=i39_j2 m rec1 x0 x1 x2:=
 tre (g:=fun J=>((idx x0 x2).bind fun v0=>
  ((path_notName m (Dt.toStr v0)).bind fun r1=>
  (bif r1 then
  some x2
  else
  (jj J 0 6 0 (s39_3 x0 x1 x2) (e39 J m w39_0 [M1])))))) (fun J=>by kernel_rfl) (by simp only[jj_eq,i39_j3_eq m M1 rec1 h1];rfl)
theorem i39_j4_eq m:e39 jn m [1,1] [] s39_4=i39_j4 m:=
 tre (g:=fun J=>some (-1)) (fun J=>by kernel_rfl) (by rfl)
theorem i39_l1_eq m:∀M1 x0 x1 x2,l39 jn m [1,0,1,0] [] M1 (s39_3 x0 x1 x2)=i39_l1 m M1 x0 x1 x2
 |0,_,_,_=>rfl
 | M1+1,x0,x1,x2=>
   trl (g:=fun J=>(bif (decide (x2<x1)) then
  (jj J 0 3 0 (s39_3 x0 x1 x2) (e39 J m w39_1 [M1]))
   else
  (jj J 0 7 0 s39_4 (e39 J m [1,1] [])))) (fun J=>by kernel_rfl) (by simp only[jj_eq,i39_j2_eq m M1 (i39_l1 m M1) (i39_l1_eq m M1),i39_j4_eq m];rfl)
theorem i39_j0_eq m x0 x1 x2:e39 jn m [1,0,1] [] (s39_3 x0 x1 x2)=i39_j0 m x0 x1 x2:=
 tre (g:=fun J=>(jj J 1 2 (Nat.succ m) (s39_3 x0 x1 x2) (l39 J m [1,0,1,0] [] (Nat.succ m)))) (fun J=>by kernel_rfl) (by simp only[jj_eq,i39_l1_eq m];rfl)
theorem i39_eq m a0:e39 jn m [] [] ⟨[(.dat 22 (.lst a0)),(.fn 91 [])],[],0⟩=i39 (m+1) a0:=
 tre (g:=fun J=>(jj J 0 2 0 (s39_3 a0 (List.length a0:Int) 0) (e39 J m [1,0,1] []))) (fun J=>by kernel_rfl) (by simp only[jj_eq,i39_j0_eq m];rfl)
noncomputable def e38 (J:Nat→Nat→Nat→St→Option Bool→Option Bool) (m:Nat) (p ms:List Nat) (σ:St):=evAt Tryz.prog env (ct m) J (m+1) 90 9 Tryz.f90 d17 p ms σ
noncomputable def l38 (J:Nat→Nat→Nat→St→Option Bool→Option Bool) (m:Nat) (p ms:List Nat) (M:Nat) (σ:St):=loopAt Tryz.prog env (ct m) J (m+1) 90 9 Tryz.f90 d17 p ms M σ
theorem i38_eq m a0:e38 jn m [] [] ⟨[(.dat 22 (.lst a0)),(.fn 91 [])],[],0⟩=i38 (m+1) a0:=
 tre (g:=fun J=>((i39 m a0).bind fun r0=>
  some (decide (0≤r0)))) (fun J=>by kernel_rfl) (by rfl)
noncomputable def e25 (J:Nat→Nat→Nat→St→Option Bool→Option Bool) (m:Nat) (p ms:List Nat) (σ:St):=evAt Tryz.prog env (ct m) J (m+1) 48 16 Tryz.f48 d17 p ms σ
noncomputable def l25 (J:Nat→Nat→Nat→St→Option Bool→Option Bool) (m:Nat) (p ms:List Nat) (M:Nat) (σ:St):=loopAt Tryz.prog env (ct m) J (m+1) 48 16 Tryz.f48 d17 p ms M σ
theorem path_Valid_eq m a0:e25 jn m [] [] ⟨[(.dat 22 (.lst a0))],[],0⟩=path_Valid (m+1) a0:=
 tre (g:=fun J=>(bif (decide (1≤(List.length a0:Int))) then
  (bif (decide ((List.length a0:Int)≤16)) then
  ((i38 m a0).bind fun r0=>
  some (Bool.not r0))
  else
  some false)
   else
  some false)) (fun J=>by kernel_rfl) (by rfl)
def w23_0:List Nat:=[1,1,0,1,0]
def w23_7:List Nat:=[1,1,0,1,0,0,1,1]
def w23_4:List Nat:=w23_7++[1]
def w23_6:List Nat:=w23_7++[0,0,1,1]
def w23_5:List Nat:=w23_6++[1]
def w23_1:List Nat:=w23_5++[0]
def w23_3:List Nat:=w23_1++[0,1,1]
def w23_2:List Nat:=w23_3++[1]
noncomputable def e23 (J:Nat→Nat→Nat→St→Option Int→Option Int) (m:Nat) (p ms:List Nat) (σ:St):=evAt Tryz.prog env (ct m) J (m+1) 46 36 Tryz.f46 d10 p ms σ
noncomputable def l23 (J:Nat→Nat→Nat→St→Option Int→Option Int) (m:Nat) (p ms:List Nat) (M:Nat) (σ:St):=loopAt Tryz.prog env (ct m) J (m+1) 46 36 Tryz.f46 d10 p ms M σ
noncomputable def s23_8 (x0 x1:List Dt) (x2 x3:Int) (x4:List Dt) (x5 x6:Int) (x7:Dt):St:=⟨tsOf [(0,(.dat 30 (.lst x0))),(4,(.ptr 0 [] 0)),(10,(.dat 30 (.lst x1))),(11,(.dat 3 (.int x2))),(12,(.dat 3 (.int x3))),(23,(.dat 30 (.lst x4))),(24,(.dat 3 (.int x5))),(25,(.dat 3 (.int x6)))],[(.box 89 (.dat 89 x7))],0⟩
noncomputable def s23_9 (x0 x1:List Dt) (x2 x3:Int):St:=⟨tsOf [(0,(.dat 30 (.lst x0))),(10,(.dat 30 (.lst x1))),(11,(.dat 3 (.int x2))),(12,(.dat 3 (.int x3)))],[],0⟩
noncomputable def s23_4 (x0:List Dt) (x1:Int) (x2:List Dt) (x3 x4:Int) (x5:Dt):St:=⟨tsOf [(0,(.dat 30 (.lst x0))),(3,(.dat 3 (.int x1))),(4,(.ptr 0 [] 0)),(10,(.dat 30 (.lst x2))),(11,(.dat 3 (.int x3))),(12,(.dat 3 (.int x4)))],[(.box 89 (.dat 89 x5))],0⟩
noncomputable def s23_10:St:=⟨tsOf [],[],0⟩
noncomputable def s23_0 (x0:List Dt):St:=⟨tsOf [(0,(.dat 30 (.lst x0)))],[],0⟩
abbrev H23_2 (m M2:Nat) (rec2:List Dt→List Dt→Int→Int→Option Int):Prop:=∀x0 x1 x2 x3,l23 jn m w23_0 [] M2 (s23_9 x0 x1 x2 x3)=rec2 x0 x1 x2 x3
abbrev H23_6 (m M2 M6:Nat) (rec6:List Dt→List Dt→Int→Int→List Dt→Int→Int→Dt→Option Int):Prop:=∀x0 x1 x2 x3 x4 x5 x6 x7,l23 jn m w23_1 [M2] M6 (s23_8 x0 x1 x2 x3 x4 x5 x6 x7)=rec6 x0 x1 x2 x3 x4 x5 x6 x7
theorem order_Valid_j8_eq m M2 rec2 (h2:H23_2 m M2 rec2) M6 rec6 (h6:H23_6 m M2 M6 rec6) x0 x1 x2 x3 x4 x5 x6 x7:e23 jn m w23_2 [M2,M6] (s23_8 x0 x1 x2 x3 x4 x5 x6 x7)=order_Valid_j8 m rec2 rec6 x0 x1 x2 x3 x4 x5 x6 x7:=
 tre (g:=fun J=>(jj J 1 9 M6 (s23_8 x0 x1 x2 x3 x4 x5 (IntKind.wrap .i64 (x6+1)) x7) (l23 J m w23_1 [M2] M6))) (fun J=>by kernel_rfl) (by simp only[jj_eq,h6];rfl)
theorem order_Valid_j7_eq m M2 rec2 (h2:H23_2 m M2 rec2) M6 rec6 (h6:H23_6 m M2 M6 rec6) x0 x1 x2 x3 x4 x5 x6 x7:e23 jn m w23_3 [M2,M6] (s23_8 x0 x1 x2 x3 x4 x5 x6 x7)=order_Valid_j7 m rec2 rec6 x0 x1 x2 x3 x4 x5 x6 x7:=
 tre (g:=fun J=>((idx x4 x6).bind fun v3=>
  ((slices_Equal m (Dt.L v3 0) (Dt.L x7 0)).bind fun r4=>
  (bif r4 then
  some 12
  else
  (jj J 0 13 0 (s23_8 x0 x1 x2 x3 x4 x5 x6 x7) (e23 J m w23_2 [M2,M6])))))) (fun J=>by kernel_rfl) (by simp only[jj_eq,order_Valid_j8_eq m M2 rec2 h2 M6 rec6 h6];rfl)
theorem order_Valid_j9_eq m M2 rec2 (h2:H23_2 m M2 rec2) x0 x1 x2 x3:e23 jn m w23_4 [M2] (s23_9 x0 x1 x2 x3)=order_Valid_j9 m rec2 x0 x1 x2 x3:=
 tre (g:=fun J=>(jj J 1 4 M2 (s23_9 x0 x1 x2 (IntKind.wrap .i64 (x3+1))) (l23 J m w23_0 [] M2))) (fun J=>by kernel_rfl) (by simp only[jj_eq,h2];rfl)
theorem order_Valid_l6_eq m M2 rec2 (h2:H23_2 m M2 rec2):∀M6 x0 x1 x2 x3 x4 x5 x6 x7,l23 jn m w23_1 [M2] M6 (s23_8 x0 x1 x2 x3 x4 x5 x6 x7)=order_Valid_l6 m rec2 M6 x0 x1 x2 x3 x4 x5 x6 x7
 |0,_,_,_,_,_,_,_,_=>rfl
 | M6+1,x0,x1,x2,x3,x4,x5,x6,x7=>
   trl (g:=fun J=>(bif (decide (x6<x5)) then
  (jj J 0 10 0 (s23_8 x0 x1 x2 x3 x4 x5 x6 x7) (e23 J m w23_3 [M2,M6]))
   else
  (jj J 0 14 0 (s23_9 x0 x1 x2 x3) (e23 J m w23_4 [M2])))) (fun J=>by kernel_rfl) (by simp only[jj_eq,order_Valid_j7_eq m M2 rec2 h2 M6 (order_Valid_l6 m rec2 M6) (order_Valid_l6_eq m M2 rec2 h2 M6),order_Valid_j9_eq m M2 rec2 h2];rfl)
theorem order_Valid_j5_eq m M2 rec2 (h2:H23_2 m M2 rec2) x0 x1 x2 x3 x4 x5 x6 x7:e23 jn m w23_5 [M2] (s23_8 x0 x1 x2 x3 x4 x5 x6 x7)=order_Valid_j5 m rec2 x0 x1 x2 x3 x4 x5 x6 x7:=
 tre (g:=fun J=>(jj J 1 9 (Nat.succ m) (s23_8 x0 x1 x2 x3 x4 x5 x6 x7) (l23 J m w23_1 [M2] (Nat.succ m)))) (fun J=>by kernel_rfl) (by simp only[jj_eq,order_Valid_l6_eq m M2 rec2 h2];rfl)
theorem order_Valid_j4_eq m M2 rec2 (h2:H23_2 m M2 rec2) x0 x1 x2 x3 x4 x5:e23 jn m w23_6 [M2] (s23_4 x0 x1 x2 x3 x4 x5)=order_Valid_j4 m rec2 x0 x1 x2 x3 x4 x5:=
 tre (g:=fun J=>((cutL x0 0 x1).bind fun v2=>
  (jj J 0 9 0 (s23_8 x0 x2 x3 x4 v2 (List.length v2:Int) 0 x5) (e23 J m w23_5 [M2])))) (fun J=>by kernel_rfl) (by simp only[jj_eq,order_Valid_j5_eq m M2 rec2 h2];rfl)
theorem order_Valid_j3_eq m M2 rec2 (h2:H23_2 m M2 rec2) x0 x1 x2 x3:e23 jn m w23_7 [M2] (s23_9 x0 x1 x2 x3)=order_Valid_j3 m rec2 x0 x1 x2 x3:=
 tre (g:=fun J=>((idx x1 x3).bind fun v0=>
  ((path_Valid m (Dt.L v0 0)).bind fun r1=>
  (bif (Bool.not r1) then
  some 10
  else
  (jj J 0 8 0 (s23_4 x0 x3 x1 x2 x3 v0) (e23 J m w23_6 [M2])))))) (fun J=>by kernel_rfl) (by simp only[jj_eq,order_Valid_j4_eq m M2 rec2 h2];rfl)
theorem order_Valid_j10_eq m:e23 jn m [1,1,1] [] s23_10=order_Valid_j10 m:=
 tre (g:=fun J=>some 0) (fun J=>by kernel_rfl) (by rfl)
theorem order_Valid_l2_eq m:∀M2 x0 x1 x2 x3,l23 jn m w23_0 [] M2 (s23_9 x0 x1 x2 x3)=order_Valid_l2 m M2 x0 x1 x2 x3
 |0,_,_,_,_=>rfl
 | M2+1,x0,x1,x2,x3=>
   trl (g:=fun J=>(bif (decide (x3<x2)) then
  (jj J 0 5 0 (s23_9 x0 x1 x2 x3) (e23 J m w23_7 [M2]))
   else
  (jj J 0 15 0 s23_10 (e23 J m [1,1,1] [])))) (fun J=>by kernel_rfl) (by simp only[jj_eq,order_Valid_j3_eq m M2 (order_Valid_l2 m M2) (order_Valid_l2_eq m M2),order_Valid_j10_eq m];rfl)
theorem order_Valid_j1_eq m x0 x1 x2 x3:e23 jn m [1,1,0,1] [] (s23_9 x0 x1 x2 x3)=order_Valid_j1 m x0 x1 x2 x3:=
 tre (g:=fun J=>(jj J 1 4 (Nat.succ m) (s23_9 x0 x1 x2 x3) (l23 J m w23_0 [] (Nat.succ m)))) (fun J=>by kernel_rfl) (by simp only[jj_eq,order_Valid_l2_eq m];rfl)
theorem order_Valid_j0_eq m x0:e23 jn m [1,1] [] (s23_0 x0)=order_Valid_j0 m x0:=
 tre (g:=fun J=>(jj J 0 4 0 (s23_9 x0 x0 (List.length x0:Int) 0) (e23 J m [1,1,0,1] []))) (fun J=>by kernel_rfl) (by simp only[jj_eq,order_Valid_j1_eq m];rfl)
theorem order_Valid_eq m a0:e23 jn m [] [] ⟨[(.dat 30 (.lst a0))],[],0⟩=order_Valid (m+1) a0:=
 tre (g:=fun J=>(bif (decide (8<(List.length a0:Int))) then
  some 2
   else
  (jj J 0 3 0 (s23_0 a0) (e23 J m [1,1] [])))) (fun J=>by kernel_rfl) (by simp only[jj_eq,order_Valid_j0_eq m];rfl)
def w41_0:List Nat:=[1,1,0,1,0]
def w41_3:List Nat:=[1,1,0,1,0,0,1,1]
def w41_1:List Nat:=w41_3++[1]
def w41_2:List Nat:=w41_3++[0,0,1,1]
noncomputable def e41 (J:Nat→Nat→Nat→St→Option Bool→Option Bool) (m:Nat) (p ms:List Nat) (σ:St):=evAt Tryz.prog env (ct m) J (m+1) 92 39 Tryz.f92 d17 p ms σ
noncomputable def l41 (J:Nat→Nat→Nat→St→Option Bool→Option Bool) (m:Nat) (p ms:List Nat) (M:Nat) (σ:St):=loopAt Tryz.prog env (ct m) J (m+1) 92 39 Tryz.f92 d17 p ms M σ
noncomputable def s41_6 (x0:ByteArray) (x1 x2:Int):St:=⟨tsOf [(0,(.dat 9 (.str x0))),(18,(.dat 3 (.int x1))),(19,(.dat 3 (.int x2)))],[],0⟩
noncomputable def s41_5 (x0:ByteArray) (x1 x2:Int) (x3:Bool):St:=⟨tsOf [(0,(.dat 9 (.str x0))),(18,(.dat 3 (.int x1))),(19,(.dat 3 (.int x2))),(37,(.dat 4 (.bool x3)))],[],0⟩
noncomputable def s41_7:St:=⟨tsOf [],[],0⟩
noncomputable def s41_1 (x0:ByteArray):St:=⟨tsOf [(0,(.dat 9 (.str x0)))],[],0⟩
noncomputable def s41_0 (x0:ByteArray) (x1:Bool):St:=⟨tsOf [(0,(.dat 9 (.str x0))),(16,(.dat 4 (.bool x1)))],[],0⟩
abbrev H41_3 (m M3:Nat) (rec3:ByteArray→Int→Int→Option Bool):Prop:=∀x0 x1 x2,l41 jn m w41_0 [] M3 (s41_6 x0 x1 x2)=rec3 x0 x1 x2
theorem pipeline_isName_j6_eq m M3 rec3 (h3:H41_3 m M3 rec3) x0 x1 x2:e41 jn m w41_1 [M3] (s41_6 x0 x1 x2)=pipeline_isName_j6 m rec3 x0 x1 x2:=
 tre (g:=fun J=>(jj J 1 4 M3 (s41_6 x0 x1 (IntKind.wrap .i64 (x2+1))) (l41 J m w41_0 [] M3))) (fun J=>by kernel_rfl) (by simp only[jj_eq,h3];rfl)
theorem pipeline_isName_j5_eq m M3 rec3 (h3:H41_3 m M3 rec3) x0 x1 x2 x3:e41 jn m w41_2 [M3] (s41_5 x0 x1 x2 x3)=pipeline_isName_j5 m rec3 x0 x1 x2 x3:=
 tre (g:=fun J=>(bif x3 then
  some false
   else
  (jj J 0 8 0 (s41_6 x0 x1 x2) (e41 J m w41_1 [M3])))) (fun J=>by kernel_rfl) (by simp only[jj_eq,pipeline_isName_j6_eq m M3 rec3 h3];rfl)
theorem pipeline_isName_j4_eq m M3 rec3 (h3:H41_3 m M3 rec3) x0 x1 x2:e41 jn m w41_3 [M3] (s41_6 x0 x1 x2)=pipeline_isName_j4 m rec3 x0 x1 x2:=
 tre (g:=fun J=>((idxS x0 x2).bind fun v0=>
  (bif (decide (v0<33)) then
  (jj J 0 7 0 (s41_5 x0 x1 x2 true) (e41 J m w41_2 [M3]))
  else
  ((idxS x0 x2).bind fun v1=>
  (bif (decide (126<v1)) then
  (jj J 0 7 0 (s41_5 x0 x1 x2 true) (e41 J m w41_2 [M3]))
  else
  ((idxS x0 x2).bind fun v2=>
  (jj J 0 7 0 (s41_5 x0 x1 x2 (v2==46)) (e41 J m w41_2 [M3])))))))) (fun J=>by kernel_rfl) (by simp only[jj_eq,pipeline_isName_j5_eq m M3 rec3 h3];rfl)
theorem pipeline_isName_j7_eq m:e41 jn m [1,1,1] [] s41_7=pipeline_isName_j7 m:=
 tre (g:=fun J=>some true) (fun J=>by kernel_rfl) (by rfl)
theorem pipeline_isName_l3_eq m:∀M3 x0 x1 x2,l41 jn m w41_0 [] M3 (s41_6 x0 x1 x2)=pipeline_isName_l3 m M3 x0 x1 x2
 |0,_,_,_=>rfl
 | M3+1,x0,x1,x2=>
   trl (g:=fun J=>(bif (decide (x2<x1)) then
  (jj J 0 5 0 (s41_6 x0 x1 x2) (e41 J m w41_3 [M3]))
   else
  (jj J 0 9 0 s41_7 (e41 J m [1,1,1] [])))) (fun J=>by kernel_rfl) (by simp only[jj_eq,pipeline_isName_j4_eq m M3 (pipeline_isName_l3 m M3) (pipeline_isName_l3_eq m M3),pipeline_isName_j7_eq m];rfl)
theorem pipeline_isName_j2_eq m x0 x1 x2:e41 jn m [1,1,0,1] [] (s41_6 x0 x1 x2)=pipeline_isName_j2 m x0 x1 x2:=
 tre (g:=fun J=>(jj J 1 4 (Nat.succ m) (s41_6 x0 x1 x2) (l41 J m w41_0 [] (Nat.succ m)))) (fun J=>by kernel_rfl) (by simp only[jj_eq,pipeline_isName_l3_eq m];rfl)
theorem pipeline_isName_j1_eq m x0:e41 jn m [1,1] [] (s41_1 x0)=pipeline_isName_j1 m x0:=
 tre (g:=fun J=>(jj J 0 4 0 (s41_6 x0 (ByteArray.size x0:Int) 0) (e41 J m [1,1,0,1] []))) (fun J=>by kernel_rfl) (by simp only[jj_eq,pipeline_isName_j2_eq m];rfl)
theorem pipeline_isName_j0_eq m x0 x1:e41 jn m [1,0,1] [] (s41_0 x0 x1)=pipeline_isName_j0 m x0 x1:=
 tre (g:=fun J=>(bif x1 then
  some false
   else
  (jj J 0 3 0 (s41_1 x0) (e41 J m [1,1] [])))) (fun J=>by kernel_rfl) (by simp only[jj_eq,pipeline_isName_j1_eq m];rfl)
theorem pipeline_isName_eq m a0:e41 jn m [] [] ⟨[(.dat 9 (.str a0))],[],0⟩=pipeline_isName (m+1) a0:=
 tre (g:=fun J=>(bif (decide ((ByteArray.size a0:Int)<1)) then
  (jj J 0 2 0 (s41_0 a0 true) (e41 J m [1,0,1] []))
   else
  (bif (decide (32<(ByteArray.size a0:Int))) then
  (jj J 0 2 0 (s41_0 a0 true) (e41 J m [1,0,1] []))
  else
  ((idxS a0 0).bind fun v3=>
  (jj J 0 2 0 (s41_0 a0 (v3==36)) (e41 J m [1,0,1] [])))))) (fun J=>by kernel_rfl) (by simp only[jj_eq,pipeline_isName_j0_eq m];rfl)
noncomputable def e26 (J:Nat→Nat→Nat→St→Option Bool→Option Bool) (m:Nat) (p ms:List Nat) (σ:St):=evAt Tryz.prog env (ct m) J (m+1) 49 9 Tryz.f49 d17 p ms σ
noncomputable def l26 (J:Nat→Nat→Nat→St→Option Bool→Option Bool) (m:Nat) (p ms:List Nat) (M:Nat) (σ:St):=loopAt Tryz.prog env (ct m) J (m+1) 49 9 Tryz.f49 d17 p ms M σ
theorem pipeline_isOutput_eq m a0:e26 jn m [] [] ⟨[(.dat 9 (.str a0))],[],0⟩=pipeline_isOutput (m+1) a0:=
 tre (g:=fun J=>((pipeline_isName m a0).bind fun r0=>
  (bif r0 then
  some (Bool.not ((ByteArray.toList a0)==[95,105,100]))
  else
  some false))) (fun J=>by kernel_rfl) (by rfl)
def w46_0:List Nat:=[1,1,0,1,0]
def w46_7:List Nat:=[1,1,1,0,1]
def w46_3:List Nat:=[1,1,1,0,1,0]
def w46_2:List Nat:=[1,1,0,1,0,0,1]
def w46_1:List Nat:=w46_2++[1]
def w46_6:List Nat:=w46_3++[0,1]
def w46_4:List Nat:=w46_6++[1]
def w46_5:List Nat:=w46_6++[0,0,1]
noncomputable def e46 (J:Nat→Nat→Nat→St→Option Bool→Option Bool) (m:Nat) (p ms:List Nat) (σ:St):=evAt Tryz.prog env (ct m) J (m+1) 101 99 Tryz.f101 d17 p ms σ
noncomputable def l46 (J:Nat→Nat→Nat→St→Option Bool→Option Bool) (m:Nat) (p ms:List Nat) (M:Nat) (σ:St):=loopAt Tryz.prog env (ct m) J (m+1) 101 99 Tryz.f101 d17 p ms M σ
noncomputable def s46_5 (x0:Int) (x1 x2:Dt):St:=⟨tsOf [(2,(.ptr 0 [] 0)),(3,(.ptr 1 [] 0)),(5,(.dat 3 (.int x0)))],[(.box 26 (.dat 26 x1)),(.box 26 (.dat 26 x2))],0⟩
noncomputable def s46_11 (x0:Int) (x1 x2:Dt):St:=⟨tsOf [(2,(.ptr 0 [] 0)),(3,(.ptr 1 [] 0)),(6,(.dat 3 (.int x0)))],[(.box 26 (.dat 26 x1)),(.box 26 (.dat 26 x2))],0⟩
noncomputable def s46_10 (x0:Int) (x1:Bool) (x2 x3:Dt):St:=⟨tsOf [(2,(.ptr 0 [] 0)),(3,(.ptr 1 [] 0)),(6,(.dat 3 (.int x0))),(98,(.dat 4 (.bool x1)))],[(.box 26 (.dat 26 x2)),(.box 26 (.dat 26 x3))],0⟩
noncomputable def s46_12:St:=⟨tsOf [],[],0⟩
noncomputable def s46_6 (x0 x1:Dt):St:=⟨tsOf [(2,(.ptr 0 [] 0)),(3,(.ptr 1 [] 0))],[(.box 26 (.dat 26 x0)),(.box 26 (.dat 26 x1))],0⟩
noncomputable def s46_0 (x0:Bool) (x1 x2:Dt):St:=⟨tsOf [(2,(.ptr 0 [] 0)),(3,(.ptr 1 [] 0)),(43,(.dat 4 (.bool x0)))],[(.box 26 (.dat 26 x1)),(.box 26 (.dat 26 x2))],0⟩
abbrev H46_3 (m M3:Nat) (rec3:Int→Dt→Dt→Option Bool):Prop:=∀x0 x1 x2,l46 jn m w46_0 [] M3 (s46_5 x0 x1 x2)=rec3 x0 x1 x2
theorem ref01_Same_j5_eq m M3 rec3 (h3:H46_3 m M3 rec3) x0 x1 x2:e46 jn m w46_1 [M3] (s46_5 x0 x1 x2)=ref01_Same_j5 m (ref01_Same m) rec3 x0 x1 x2:=
 tre (g:=fun J=>(jj J 1 4 M3 (s46_5 (IntKind.wrap .i64 (x0+1)) x1 x2) (l46 J m w46_0 [] M3))) (fun J=>by kernel_rfl) (by simp only[jj_eq,h3];rfl)
theorem ref01_Same_j4_eq m M3 rec3 (h3:H46_3 m M3 rec3) x0 x1 x2:e46 jn m w46_2 [M3] (s46_5 x0 x1 x2)=ref01_Same_j4 m (ref01_Same m) rec3 x0 x1 x2:=
 tre (g:=fun J=>((idx (Dt.L x1 3) x0).bind fun v0=>
  ((idx (Dt.L x2 3) x0).bind fun v1=>
  ((ref01_Same m v0 v1).bind fun r2=>
  (bif (Bool.not r2) then
  some false
  else
  (jj J 0 5 0 (s46_5 x0 x1 x2) (e46 J m w46_1 [M3]))))))) (fun J=>by kernel_rfl) (by simp only[jj_eq,ref01_Same_j5_eq m M3 rec3 h3];rfl)
abbrev H46_8 (m M8:Nat) (rec8:Int→Dt→Dt→Option Bool):Prop:=∀x0 x1 x2,l46 jn m w46_3 [] M8 (s46_11 x0 x1 x2)=rec8 x0 x1 x2
theorem ref01_Same_j11_eq m M8 rec8 (h8:H46_8 m M8 rec8) x0 x1 x2:e46 jn m w46_4 [M8] (s46_11 x0 x1 x2)=ref01_Same_j11 m (ref01_Same m) rec8 x0 x1 x2:=
 tre (g:=fun J=>(jj J 1 9 M8 (s46_11 (IntKind.wrap .i64 (x0+1)) x1 x2) (l46 J m w46_3 [] M8))) (fun J=>by kernel_rfl) (by simp only[jj_eq,h8];rfl)
theorem ref01_Same_j10_eq m M8 rec8 (h8:H46_8 m M8 rec8) x0 x1 x2 x3:e46 jn m w46_5 [M8] (s46_10 x0 x1 x2 x3)=ref01_Same_j10 m (ref01_Same m) rec8 x0 x1 x2 x3:=
 tre (g:=fun J=>(bif x1 then
  some false
   else
  (jj J 0 10 0 (s46_11 x0 x2 x3) (e46 J m w46_4 [M8])))) (fun J=>by kernel_rfl) (by simp only[jj_eq,ref01_Same_j11_eq m M8 rec8 h8];rfl)
theorem ref01_Same_j9_eq m M8 rec8 (h8:H46_8 m M8 rec8) x0 x1 x2:e46 jn m w46_6 [M8] (s46_11 x0 x1 x2)=ref01_Same_j9 m (ref01_Same m) rec8 x0 x1 x2:=
 tre (g:=fun J=>((idx (Dt.L x1 4) x0).bind fun v3=>
  ((idx (Dt.L x2 4) x0).bind fun v4=>
  (bif (Bool.not ((ByteArray.toList (Dt.S v3 0))==(ByteArray.toList (Dt.S v4 0)))) then
  (jj J 0 12 0 (s46_10 x0 true x1 x2) (e46 J m w46_5 [M8]))
  else
  ((idx (Dt.L x1 4) x0).bind fun v5=>
  ((idx (Dt.L x2 4) x0).bind fun v6=>
  ((ref01_Same m (Dt.fld v5 1) (Dt.fld v6 1)).bind fun r7=>
  (jj J 0 12 0 (s46_10 x0 (Bool.not r7) x1 x2) (e46 J m w46_5 [M8]))))))))) (fun J=>by kernel_rfl) (by simp only[jj_eq,ref01_Same_j10_eq m M8 rec8 h8];rfl)
theorem ref01_Same_j12_eq m:e46 jn m [1,1,1,1] [] s46_12=ref01_Same_j12 m (ref01_Same m):=
 tre (g:=fun J=>some true) (fun J=>by kernel_rfl) (by rfl)
theorem ref01_Same_l8_eq m:∀M8 x0 x1 x2,l46 jn m w46_3 [] M8 (s46_11 x0 x1 x2)=ref01_Same_l8 m (ref01_Same m) M8 x0 x1 x2
 |0,_,_,_=>rfl
 | M8+1,x0,x1,x2=>
   trl (g:=fun J=>(bif (decide (x0<(List.length (Dt.L x1 4):Int))) then
  (jj J 0 11 0 (s46_11 x0 x1 x2) (e46 J m w46_6 [M8]))
   else
  (jj J 0 13 0 s46_12 (e46 J m [1,1,1,1] [])))) (fun J=>by kernel_rfl) (by simp only[jj_eq,ref01_Same_j9_eq m M8 (ref01_Same_l8 m (ref01_Same m) M8) (ref01_Same_l8_eq m M8),ref01_Same_j12_eq m];rfl)
theorem ref01_Same_j7_eq m x0 x1 x2:e46 jn m w46_7 [] (s46_11 x0 x1 x2)=ref01_Same_j7 m (ref01_Same m) x0 x1 x2:=
 tre (g:=fun J=>(jj J 1 9 (Nat.succ m) (s46_11 x0 x1 x2) (l46 J m w46_3 [] (Nat.succ m)))) (fun J=>by kernel_rfl) (by simp only[jj_eq,ref01_Same_l8_eq m];rfl)
theorem ref01_Same_j6_eq m x0 x1:e46 jn m [1,1,1] [] (s46_6 x0 x1)=ref01_Same_j6 m (ref01_Same m) x0 x1:=
 tre (g:=fun J=>(jj J 0 9 0 (s46_11 0 x0 x1) (e46 J m w46_7 []))) (fun J=>by kernel_rfl) (by simp only[jj_eq,ref01_Same_j7_eq m];rfl)
theorem ref01_Same_l3_eq m:∀M3 x0 x1 x2,l46 jn m w46_0 [] M3 (s46_5 x0 x1 x2)=ref01_Same_l3 m (ref01_Same m) M3 x0 x1 x2
 |0,_,_,_=>rfl
 | M3+1,x0,x1,x2=>
   trl (g:=fun J=>(bif (decide (x0<(List.length (Dt.L x1 3):Int))) then
  (jj J 0 6 0 (s46_5 x0 x1 x2) (e46 J m w46_2 [M3]))
   else
  (jj J 0 8 0 (s46_6 x1 x2) (e46 J m [1,1,1] [])))) (fun J=>by kernel_rfl) (by simp only[jj_eq,ref01_Same_j4_eq m M3 (ref01_Same_l3 m (ref01_Same m) M3) (ref01_Same_l3_eq m M3),ref01_Same_j6_eq m];rfl)
theorem ref01_Same_j2_eq m x0 x1 x2:e46 jn m [1,1,0,1] [] (s46_5 x0 x1 x2)=ref01_Same_j2 m (ref01_Same m) x0 x1 x2:=
 tre (g:=fun J=>(jj J 1 4 (Nat.succ m) (s46_5 x0 x1 x2) (l46 J m w46_0 [] (Nat.succ m)))) (fun J=>by kernel_rfl) (by simp only[jj_eq,ref01_Same_l3_eq m];rfl)
theorem ref01_Same_j1_eq m x0 x1:e46 jn m [1,1] [] (s46_6 x0 x1)=ref01_Same_j1 m (ref01_Same m) x0 x1:=
 tre (g:=fun J=>(jj J 0 4 0 (s46_5 0 x0 x1) (e46 J m [1,1,0,1] []))) (fun J=>by kernel_rfl) (by simp only[jj_eq,ref01_Same_j2_eq m];rfl)
theorem ref01_Same_j0_eq m x0 x1 x2:e46 jn m [1,0,1] [] (s46_0 x0 x1 x2)=ref01_Same_j0 m (ref01_Same m) x0 x1 x2:=
 tre (g:=fun J=>(bif x0 then
  some false
   else
  (jj J 0 3 0 (s46_6 x1 x2) (e46 J m [1,1] [])))) (fun J=>by kernel_rfl) (by simp only[jj_eq,ref01_Same_j1_eq m];rfl)
theorem ref01_Same_eq m a0 a1:e46 jn m [] [] ⟨[(.dat 26 a0),(.dat 26 a1)],[],0⟩=ref01_Same (m+1) a0 a1:=
 tre (g:=fun J=>(bif ((Dt.I a0 0) !=(Dt.I a1 0)) then
  (jj J 0 2 0 (s46_0 true a0 a1) (e46 J m [1,0,1] []))
   else
  (bif ((Dt.I a0 1) !=(Dt.I a1 1)) then
  (jj J 0 2 0 (s46_0 true a0 a1) (e46 J m [1,0,1] []))
  else
  (bif (Bool.not ((ByteArray.toList (Dt.S a0 2))==(ByteArray.toList (Dt.S a1 2)))) then
  (jj J 0 2 0 (s46_0 true a0 a1) (e46 J m [1,0,1] []))
  else
  (bif ((List.length (Dt.L a0 3):Int) !=(List.length (Dt.L a1 3):Int)) then
  (jj J 0 2 0 (s46_0 true a0 a1) (e46 J m [1,0,1] []))
  else
  (jj J 0 2 0 (s46_0 ((List.length (Dt.L a0 4):Int) !=(List.length (Dt.L a1 4):Int)) a0 a1) (e46 J m [1,0,1] []))))))) (fun J=>by kernel_rfl) (by simp only[jj_eq,ref01_Same_j0_eq m];rfl)
def w47_6:List Nat:=[1,0,1,0,0,1]
def w47_3:List Nat:=w47_6++[1]
def w47_5:List Nat:=w47_6++[0,0,1]
def w47_4:List Nat:=w47_5++[1]
def w47_0:List Nat:=w47_4++[0]
def w47_2:List Nat:=w47_0++[0,1]
def w47_1:List Nat:=w47_2++[1]
noncomputable def e47 (J:Nat→Nat→Nat→St→Option Bool→Option Bool) (m:Nat) (p ms:List Nat) (σ:St):=evAt Tryz.prog env (ct m) J (m+1) 99 31 Tryz.f99 d17 p ms σ
noncomputable def l47 (J:Nat→Nat→Nat→St→Option Bool→Option Bool) (m:Nat) (p ms:List Nat) (M:Nat) (σ:St):=loopAt Tryz.prog env (ct m) J (m+1) 99 31 Tryz.f99 d17 p ms M σ
noncomputable def s47_7 (x0:List Dt) (x1 x2:Int):St:=⟨tsOf [(0,(.dat 22 (.lst x0))),(3,(.dat 3 (.int x1))),(4,(.dat 3 (.int x2)))],[],0⟩
noncomputable def s47_8 (x0:List Dt) (x1:Int):St:=⟨tsOf [(0,(.dat 22 (.lst x0))),(3,(.dat 3 (.int x1)))],[],0⟩
noncomputable def s47_9:St:=⟨tsOf [],[],0⟩
abbrev H47_1 (m M1:Nat) (rec1:List Dt→Int→Option Bool):Prop:=∀x0 x1,l47 jn m [1,0,1,0] [] M1 (s47_8 x0 x1)=rec1 x0 x1
abbrev H47_5 (m M1 M5:Nat) (rec5:List Dt→Int→Int→Option Bool):Prop:=∀x0 x1 x2,l47 jn m w47_0 [M1] M5 (s47_7 x0 x1 x2)=rec5 x0 x1 x2
theorem ref08_named_j7_eq m M1 rec1 (h1:H47_1 m M1 rec1) M5 rec5 (h5:H47_5 m M1 M5 rec5) x0 x1 x2:e47 jn m w47_1 [M1,M5] (s47_7 x0 x1 x2)=ref08_named_j7 m rec1 rec5 x0 x1 x2:=
 tre (g:=fun J=>(jj J 1 7 M5 (s47_7 x0 x1 (IntKind.wrap .i64 (x2+1))) (l47 J m w47_0 [M1] M5))) (fun J=>by kernel_rfl) (by simp only[jj_eq,h5];rfl)
theorem ref08_named_j6_eq m M1 rec1 (h1:H47_1 m M1 rec1) M5 rec5 (h5:H47_5 m M1 M5 rec5) x0 x1 x2:e47 jn m w47_2 [M1,M5] (s47_7 x0 x1 x2)=ref08_named_j6 m rec1 rec5 x0 x1 x2:=
 tre (g:=fun J=>((idx x0 x2).bind fun v2=>
  ((idx x0 x1).bind fun v3=>
  (bif ((ByteArray.toList (Dt.toStr v2))==(ByteArray.toList (Dt.toStr v3))) then
  some false
  else
  (jj J 0 8 0 (s47_7 x0 x1 x2) (e47 J m w47_1 [M1,M5])))))) (fun J=>by kernel_rfl) (by simp only[jj_eq,ref08_named_j7_eq m M1 rec1 h1 M5 rec5 h5];rfl)
theorem ref08_named_j8_eq m M1 rec1 (h1:H47_1 m M1 rec1) x0 x1:e47 jn m w47_3 [M1] (s47_8 x0 x1)=ref08_named_j8 m rec1 x0 x1:=
 tre (g:=fun J=>(jj J 1 2 M1 (s47_8 x0 (IntKind.wrap .i64 (x1+1))) (l47 J m [1,0,1,0] [] M1))) (fun J=>by kernel_rfl) (by simp only[jj_eq,h1];rfl)
theorem ref08_named_l5_eq m M1 rec1 (h1:H47_1 m M1 rec1):∀M5 x0 x1 x2,l47 jn m w47_0 [M1] M5 (s47_7 x0 x1 x2)=ref08_named_l5 m rec1 M5 x0 x1 x2
 |0,_,_,_=>rfl
 | M5+1,x0,x1,x2=>
   trl (g:=fun J=>(bif (decide (x2<x1)) then
  (jj J 0 9 0 (s47_7 x0 x1 x2) (e47 J m w47_2 [M1,M5]))
   else
  (jj J 0 3 0 (s47_8 x0 x1) (e47 J m w47_3 [M1])))) (fun J=>by kernel_rfl) (by simp only[jj_eq,ref08_named_j6_eq m M1 rec1 h1 M5 (ref08_named_l5 m rec1 M5) (ref08_named_l5_eq m M1 rec1 h1 M5),ref08_named_j8_eq m M1 rec1 h1];rfl)
theorem ref08_named_j4_eq m M1 rec1 (h1:H47_1 m M1 rec1) x0 x1 x2:e47 jn m w47_4 [M1] (s47_7 x0 x1 x2)=ref08_named_j4 m rec1 x0 x1 x2:=
 tre (g:=fun J=>(jj J 1 7 (Nat.succ m) (s47_7 x0 x1 x2) (l47 J m w47_0 [M1] (Nat.succ m)))) (fun J=>by kernel_rfl) (by simp only[jj_eq,ref08_named_l5_eq m M1 rec1 h1];rfl)
theorem ref08_named_j3_eq m M1 rec1 (h1:H47_1 m M1 rec1) x0 x1:e47 jn m w47_5 [M1] (s47_8 x0 x1)=ref08_named_j3 m rec1 x0 x1:=
 tre (g:=fun J=>(jj J 0 7 0 (s47_7 x0 x1 0) (e47 J m w47_4 [M1]))) (fun J=>by kernel_rfl) (by simp only[jj_eq,ref08_named_j4_eq m M1 rec1 h1];rfl)
theorem ref08_named_j2_eq m M1 rec1 (h1:H47_1 m M1 rec1) x0 x1:e47 jn m w47_6 [M1] (s47_8 x0 x1)=ref08_named_j2 m rec1 x0 x1:=
 tre (g:=fun J=>((idx x0 x1).bind fun v0=>
  ((ref01_Name m (Dt.toStr v0)).bind fun r1=>
  (bif (Bool.not r1) then
  some false
  else
  (jj J 0 6 0 (s47_8 x0 x1) (e47 J m w47_5 [M1])))))) (fun J=>by kernel_rfl) (by simp only[jj_eq,ref08_named_j3_eq m M1 rec1 h1];rfl)
theorem ref08_named_j9_eq m:e47 jn m [1,1] [] s47_9=ref08_named_j9 m:=
 tre (g:=fun J=>some true) (fun J=>by kernel_rfl) (by rfl)
theorem ref08_named_l1_eq m:∀M1 x0 x1,l47 jn m [1,0,1,0] [] M1 (s47_8 x0 x1)=ref08_named_l1 m M1 x0 x1
 |0,_,_=>rfl
 | M1+1,x0,x1=>
   trl (g:=fun J=>(bif (decide (x1<(List.length x0:Int))) then
  (jj J 0 4 0 (s47_8 x0 x1) (e47 J m w47_6 [M1]))
   else
  (jj J 0 11 0 s47_9 (e47 J m [1,1] [])))) (fun J=>by kernel_rfl) (by simp only[jj_eq,ref08_named_j2_eq m M1 (ref08_named_l1 m M1) (ref08_named_l1_eq m M1),ref08_named_j9_eq m];rfl)
theorem ref08_named_j0_eq m x0 x1:e47 jn m [1,0,1] [] (s47_8 x0 x1)=ref08_named_j0 m x0 x1:=
 tre (g:=fun J=>(jj J 1 2 (Nat.succ m) (s47_8 x0 x1) (l47 J m [1,0,1,0] [] (Nat.succ m)))) (fun J=>by kernel_rfl) (by simp only[jj_eq,ref08_named_l1_eq m];rfl)
theorem ref08_named_eq m a0:e47 jn m [] [] ⟨[(.dat 22 (.lst a0))],[],0⟩=ref08_named (m+1) a0:=
 tre (g:=fun J=>(jj J 0 2 0 (s47_8 a0 0) (e47 J m [1,0,1] []))) (fun J=>by kernel_rfl) (by simp only[jj_eq,ref08_named_j0_eq m];rfl)
def w48_3:List Nat:=[1,0,1,0,1]
def w48_2:List Nat:=[1,0,1,0,1,1,1]
def w48_1:List Nat:=w48_2++[1,1]
def w48_0:List Nat:=w48_1++[1,1]
noncomputable def e48 (J:Nat→Nat→Nat→St→Option Int→Option Int) (m:Nat) (p ms:List Nat) (σ:St):=evAt Tryz.prog env (ct m) J (m+1) 98 30 Tryz.f98 d39 p ms σ
noncomputable def l48 (J:Nat→Nat→Nat→St→Option Int→Option Int) (m:Nat) (p ms:List Nat) (M:Nat) (σ:St):=loopAt Tryz.prog env (ct m) J (m+1) 98 30 Tryz.f98 d39 p ms M σ
noncomputable def s48_4:St:=⟨tsOf [],[],0⟩
noncomputable def s48_3 (x0:Bool):St:=⟨tsOf [(20,(.dat 4 (.bool x0)))],[],0⟩
noncomputable def s48_2 (x0:Int) (x1:Bool):St:=⟨tsOf [(3,(.dat 3 (.int x0))),(17,(.dat 4 (.bool x1)))],[],0⟩
noncomputable def s48_1 (x0:Int) (x1:Bool):St:=⟨tsOf [(3,(.dat 3 (.int x0))),(8,(.dat 4 (.bool x1)))],[],0⟩
noncomputable def s48_0 (x0:Int) (x1:Bool):St:=⟨tsOf [(3,(.dat 3 (.int x0))),(4,(.dat 4 (.bool x1)))],[],0⟩
theorem ref08_Kids_j4_eq m:e48 jn m [1,1] [] s48_4=ref08_Kids_j4 m:=
 tre (g:=fun J=>some 2) (fun J=>by kernel_rfl) (by rfl)
theorem ref08_Kids_j3_eq m x0:e48 jn m w48_0 [] (s48_3 x0)=ref08_Kids_j3 m x0:=
 tre (g:=fun J=>(bif x0 then
  some (-1)
   else
  (jj J 0 28 0 s48_4 (e48 J m [1,1] [])))) (fun J=>by kernel_rfl) (by simp only[jj_eq,ref08_Kids_j4_eq m];rfl)
theorem ref08_Kids_j2_eq m x0 x1:e48 jn m w48_1 [] (s48_2 x0 x1)=ref08_Kids_j2 m x0 x1:=
 tre (g:=fun J=>(bif x1 then
  some 3
   else
  (bif (x0==4) then
  (jj J 0 27 0 (s48_3 (x0==4)) (e48 J m w48_0 []))
  else
  (bif (x0==6) then
  (jj J 0 27 0 (s48_3 (x0==6)) (e48 J m w48_0 []))
  else
  (bif (x0==16) then
  (jj J 0 27 0 (s48_3 (x0==16)) (e48 J m w48_0 []))
  else
  (bif (x0==17) then
  (jj J 0 27 0 (s48_3 (x0==17)) (e48 J m w48_0 []))
  else
  (bif (x0==21) then
  (jj J 0 27 0 (s48_3 (x0==21)) (e48 J m w48_0 []))
  else
  (bif (x0==29) then
  (jj J 0 27 0 (s48_3 (x0==29)) (e48 J m w48_0 []))
  else
  (bif (x0==37) then
  (jj J 0 27 0 (s48_3 (x0==37)) (e48 J m w48_0 []))
  else
  (bif (x0==35) then
  (jj J 0 27 0 (s48_3 (x0==35)) (e48 J m w48_0 []))
  else
  (jj J 0 27 0 (s48_3 (x0==34)) (e48 J m w48_0 [])))))))))))) (fun J=>by kernel_rfl) (by simp only[jj_eq,ref08_Kids_j3_eq m];rfl)
theorem ref08_Kids_j1_eq m x0 x1:e48 jn m w48_2 [] (s48_1 x0 x1)=ref08_Kids_j1 m x0 x1:=
 tre (g:=fun J=>(bif x1 then
  some 1
   else
  (bif (x0==19) then
  (jj J 0 17 0 (s48_2 x0 (x0==19)) (e48 J m w48_1 []))
  else
  (jj J 0 17 0 (s48_2 x0 (x0==25)) (e48 J m w48_1 []))))) (fun J=>by kernel_rfl) (by simp only[jj_eq,ref08_Kids_j2_eq m];rfl)
theorem ref08_Kids_j0_eq m x0 x1:e48 jn m w48_3 [] (s48_0 x0 x1)=ref08_Kids_j0 m x0 x1:=
 tre (g:=fun J=>(bif x1 then
  some 0
   else
  (bif (x0==18) then
  (jj J 0 14 0 (s48_1 x0 (x0==18)) (e48 J m w48_2 []))
  else
  (bif (x0==22) then
  (jj J 0 14 0 (s48_1 x0 (x0==22)) (e48 J m w48_2 []))
  else
  (bif (x0==23) then
  (jj J 0 14 0 (s48_1 x0 (x0==23)) (e48 J m w48_2 []))
  else
  (bif (x0==24) then
  (jj J 0 14 0 (s48_1 x0 (x0==24)) (e48 J m w48_2 []))
  else
  (bif (x0==26) then
  (jj J 0 14 0 (s48_1 x0 (x0==26)) (e48 J m w48_2 []))
  else
  (bif (x0==30) then
  (jj J 0 14 0 (s48_1 x0 (x0==30)) (e48 J m w48_2 []))
  else
  (bif (x0==31) then
  (jj J 0 14 0 (s48_1 x0 (x0==31)) (e48 J m w48_2 []))
  else
  (jj J 0 14 0 (s48_1 x0 (x0==36)) (e48 J m w48_2 []))))))))))) (fun J=>by kernel_rfl) (by simp only[jj_eq,ref08_Kids_j1_eq m];rfl)
theorem ref08_Kids_eq m a0:e48 jn m [] [] ⟨[(.dat 3 (.int a0))],[],0⟩=ref08_Kids (m+1) a0:=
 tre (g:=fun J=>(bif (a0==1) then
  (jj J 0 5 0 (s48_0 a0 (a0==1)) (e48 J m w48_3 []))
   else
  (bif (a0==2) then
  (jj J 0 5 0 (s48_0 a0 (a0==2)) (e48 J m w48_3 []))
  else
  (jj J 0 5 0 (s48_0 a0 (a0==3)) (e48 J m w48_3 []))))) (fun J=>by kernel_rfl) (by simp only[jj_eq,ref08_Kids_j0_eq m];rfl)
noncomputable def e51 (J:Nat→Nat→Nat→St→Option Bool→Option Bool) (m:Nat) (p ms:List Nat) (σ:St):=evAt Tryz.prog env (ct m) J (m+1) 157 6 Tryz.f157 d17 p ms σ
noncomputable def l51 (J:Nat→Nat→Nat→St→Option Bool→Option Bool) (m:Nat) (p ms:List Nat) (M:Nat) (σ:St):=loopAt Tryz.prog env (ct m) J (m+1) 157 6 Tryz.f157 d17 p ms M σ
theorem expr_isName_eq m a0:e51 jn m [] [] ⟨[(.dat 9 (.str a0))],[],0⟩=expr_isName (m+1) a0:=
 tre (g:=fun J=>((path_Valid m [(Dt.str a0)]).bind fun r0=>
  some r0)) (fun J=>by kernel_rfl) (by rfl)
noncomputable def e53 (J:Nat→Nat→Nat→St→Option Bool→Option Bool) (m:Nat) (p ms:List Nat) (σ:St):=evAt Tryz.prog env (ct m) J (m+1) 159 28 Tryz.f159 d17 p ms σ
noncomputable def l53 (J:Nat→Nat→Nat→St→Option Bool→Option Bool) (m:Nat) (p ms:List Nat) (M:Nat) (σ:St):=loopAt Tryz.prog env (ct m) J (m+1) 159 28 Tryz.f159 d17 p ms M σ
theorem expr_isZero_eq m a0:e53 jn m [] [] ⟨[(.dat 26 a0)],[],0⟩=expr_isZero (m+1) a0:=
 tre (g:=fun J=>(bif ((Dt.I a0 0)==0) then
  (bif ((Dt.I a0 1)==0) then
  (bif ((ByteArray.toList (Dt.S a0 2))==[]) then
  (bif ((List.length (Dt.L a0 3):Int)==0) then
  some ((List.length (Dt.L a0 4):Int)==0)
  else
  some false)
  else
  some false)
  else
  some false)
   else
  some false)) (fun J=>by kernel_rfl) (by rfl)
def w54_0:List Nat:=[1,1,0,1,0]
def w54_4:List Nat:=[1,1,0,1,0,0,1,1]
def w54_1:List Nat:=w54_4++[1]
def w54_2:List Nat:=w54_4++[0,0,1,1]
def w54_3:List Nat:=w54_4++[0,0,1,0,1]
noncomputable def e54 (J:Nat→Nat→Nat→St→Option Bool→Option Bool) (m:Nat) (p ms:List Nat) (σ:St):=evAt Tryz.prog env (ct m) J (m+1) 158 24 Tryz.f158 d17 p ms σ
noncomputable def l54 (J:Nat→Nat→Nat→St→Option Bool→Option Bool) (m:Nat) (p ms:List Nat) (M:Nat) (σ:St):=loopAt Tryz.prog env (ct m) J (m+1) 158 24 Tryz.f158 d17 p ms M σ
noncomputable def s54_5 (x0:List Dt) (x1 x2:Int) (x3:List Dt):St:=⟨tsOf [(3,(.row 0)),(7,(.dat 22 (.lst x0))),(8,(.dat 3 (.int x1))),(9,(.dat 3 (.int x2)))],[(.map 226 x3)],0⟩
noncomputable def s54_4 (x0:ByteArray) (x1:List Dt) (x2 x3:Int) (x4:List Dt):St:=⟨tsOf [(3,(.row 0)),(5,(.dat 9 (.str x0))),(7,(.dat 22 (.lst x1))),(8,(.dat 3 (.int x2))),(9,(.dat 3 (.int x3)))],[(.map 226 x4)],0⟩
noncomputable def s54_3 (x0:ByteArray) (x1:List Dt) (x2 x3:Int) (x4:Bool) (x5:List Dt):St:=⟨tsOf [(3,(.row 0)),(5,(.dat 9 (.str x0))),(7,(.dat 22 (.lst x1))),(8,(.dat 3 (.int x2))),(9,(.dat 3 (.int x3))),(20,(.dat 4 (.bool x4)))],[(.map 226 x5)],0⟩
noncomputable def s54_6:St:=⟨tsOf [],[],0⟩
abbrev H54_1 (m M1:Nat) (rec1:List Dt→Int→Int→List Dt→Option Bool):Prop:=∀x0 x1 x2 x3,l54 jn m w54_0 [] M1 (s54_5 x0 x1 x2 x3)=rec1 x0 x1 x2 x3
theorem expr_distinctNames_j5_eq m M1 rec1 (h1:H54_1 m M1 rec1) x0 x1 x2 x3:e54 jn m w54_1 [M1] (s54_5 x0 x1 x2 x3)=expr_distinctNames_j5 m rec1 x0 x1 x2 x3:=
 tre (g:=fun J=>(jj J 1 3 M1 (s54_5 x0 x1 (IntKind.wrap .i64 (x2+1)) x3) (l54 J m w54_0 [] M1))) (fun J=>by kernel_rfl) (by simp only[jj_eq,h1];rfl)
theorem expr_distinctNames_j4_eq m M1 rec1 (h1:H54_1 m M1 rec1) x0 x1 x2 x3 x4:e54 jn m w54_2 [M1] (s54_4 x0 x1 x2 x3 x4)=expr_distinctNames_j4 m rec1 x0 x1 x2 x3 x4:=
 tre (g:=fun J=>(jj J 0 8 0 (s54_5 x1 x2 x3 (mput x4 x0 (Dt.bool true))) (e54 J m w54_1 [M1]))) (fun J=>by kernel_rfl) (by simp only[jj_eq,expr_distinctNames_j5_eq m M1 rec1 h1];rfl)
theorem expr_distinctNames_j3_eq m M1 rec1 (h1:H54_1 m M1 rec1) x0 x1 x2 x3 x4 x5:e54 jn m w54_3 [M1] (s54_3 x0 x1 x2 x3 x4 x5)=expr_distinctNames_j3 m rec1 x0 x1 x2 x3 x4 x5:=
 tre (g:=fun J=>(bif x4 then
  some false
   else
  (jj J 0 7 0 (s54_4 x0 x1 x2 x3 x5) (e54 J m w54_2 [M1])))) (fun J=>by kernel_rfl) (by simp only[jj_eq,expr_distinctNames_j4_eq m M1 rec1 h1];rfl)
theorem expr_distinctNames_j2_eq m M1 rec1 (h1:H54_1 m M1 rec1) x0 x1 x2 x3:e54 jn m w54_4 [M1] (s54_5 x0 x1 x2 x3)=expr_distinctNames_j2 m rec1 x0 x1 x2 x3:=
 tre (g:=fun J=>((idx x0 x2).bind fun v0=>
  ((expr_isName m (Dt.toStr v0)).bind fun r1=>
  (bif (Bool.not r1) then
  (jj J 0 6 0 (s54_3 (Dt.toStr v0) x0 x1 x2 true x3) (e54 J m w54_3 [M1]))
  else
  (jj J 0 6 0 (s54_3 (Dt.toStr v0) x0 x1 x2 (Dt.toBool (mgetD x3 (Dt.toStr v0) (Dt.bool false))) x3) (e54 J m w54_3 [M1])))))) (fun J=>by kernel_rfl) (by simp only[jj_eq,expr_distinctNames_j3_eq m M1 rec1 h1];rfl)
theorem expr_distinctNames_j6_eq m:e54 jn m [1,1,1] [] s54_6=expr_distinctNames_j6 m:=
 tre (g:=fun J=>some true) (fun J=>by kernel_rfl) (by rfl)
theorem expr_distinctNames_l1_eq m:∀M1 x0 x1 x2 x3,l54 jn m w54_0 [] M1 (s54_5 x0 x1 x2 x3)=expr_distinctNames_l1 m M1 x0 x1 x2 x3
 |0,_,_,_,_=>rfl
 | M1+1,x0,x1,x2,x3=>
   trl (g:=fun J=>(bif (decide (x2<x1)) then
  (jj J 0 4 0 (s54_5 x0 x1 x2 x3) (e54 J m w54_4 [M1]))
   else
  (jj J 0 9 0 s54_6 (e54 J m [1,1,1] [])))) (fun J=>by kernel_rfl) (by simp only[jj_eq,expr_distinctNames_j2_eq m M1 (expr_distinctNames_l1 m M1) (expr_distinctNames_l1_eq m M1),expr_distinctNames_j6_eq m];rfl)
theorem expr_distinctNames_j0_eq m x0 x1 x2 x3:e54 jn m [1,1,0,1] [] (s54_5 x0 x1 x2 x3)=expr_distinctNames_j0 m x0 x1 x2 x3:=
 tre (g:=fun J=>(jj J 1 3 (Nat.succ m) (s54_5 x0 x1 x2 x3) (l54 J m w54_0 [] (Nat.succ m)))) (fun J=>by kernel_rfl) (by simp only[jj_eq,expr_distinctNames_l1_eq m];rfl)
theorem expr_distinctNames_eq m a0:e54 jn m [] [] ⟨[(.dat 22 (.lst a0))],[],0⟩=expr_distinctNames (m+1) a0:=
 tre (g:=fun J=>(jj J 0 3 0 (s54_5 a0 (List.length a0:Int) 0 []) (e54 J m [1,1,0,1] []))) (fun J=>by kernel_rfl) (by simp only[jj_eq,expr_distinctNames_j0_eq m];rfl)
def w55_4:List Nat:=[1,0,1,0,1]
def w55_3:List Nat:=[1,0,1,0,1,1,1]
def w55_2:List Nat:=w55_3++[1,1]
def w55_1:List Nat:=w55_2++[1,1]
def w55_0:List Nat:=w55_1++[1,1]
noncomputable def e55 (J:Nat→Nat→Nat→St→Option Int→Option Int) (m:Nat) (p ms:List Nat) (σ:St):=evAt Tryz.prog env (ct m) J (m+1) 156 35 Tryz.f156 d39 p ms σ
noncomputable def l55 (J:Nat→Nat→Nat→St→Option Int→Option Int) (m:Nat) (p ms:List Nat) (M:Nat) (σ:St):=loopAt Tryz.prog env (ct m) J (m+1) 156 35 Tryz.f156 d39 p ms M σ
noncomputable def s55_5:St:=⟨tsOf [],[],0⟩
noncomputable def s55_4 (x0:Int) (x1:Bool):St:=⟨tsOf [(3,(.dat 3 (.int x0))),(23,(.dat 4 (.bool x1)))],[],0⟩
noncomputable def s55_3 (x0:Int) (x1:Bool):St:=⟨tsOf [(3,(.dat 3 (.int x0))),(20,(.dat 4 (.bool x1)))],[],0⟩
noncomputable def s55_2 (x0:Int) (x1:Bool):St:=⟨tsOf [(3,(.dat 3 (.int x0))),(17,(.dat 4 (.bool x1)))],[],0⟩
noncomputable def s55_1 (x0:Int) (x1:Bool):St:=⟨tsOf [(3,(.dat 3 (.int x0))),(8,(.dat 4 (.bool x1)))],[],0⟩
noncomputable def s55_0 (x0:Int) (x1:Bool):St:=⟨tsOf [(3,(.dat 3 (.int x0))),(4,(.dat 4 (.bool x1)))],[],0⟩
theorem expr_shape_j5_eq m:e55 jn m [1,1] [] s55_5=expr_shape_j5 m:=
 tre (g:=fun J=>some 2) (fun J=>by kernel_rfl) (by rfl)
theorem expr_shape_j4_eq m x0 x1:e55 jn m w55_0 [] (s55_4 x0 x1)=expr_shape_j4 m x0 x1:=
 tre (g:=fun J=>(bif x1 then
  some 5
   else
  (bif (x0==35) then
  some 6
  else
  (bif (x0==34) then
  some 7
  else
  (jj J 0 33 0 s55_5 (e55 J m [1,1] [])))))) (fun J=>by kernel_rfl) (by simp only[jj_eq,expr_shape_j5_eq m];rfl)
theorem expr_shape_j3_eq m x0 x1:e55 jn m w55_1 [] (s55_3 x0 x1)=expr_shape_j3 m x0 x1:=
 tre (g:=fun J=>(bif x1 then
  some 4
   else
  (bif (x0==4) then
  (jj J 0 28 0 (s55_4 x0 (x0==4)) (e55 J m w55_0 []))
  else
  (bif (x0==6) then
  (jj J 0 28 0 (s55_4 x0 (x0==6)) (e55 J m w55_0 []))
  else
  (bif (x0==16) then
  (jj J 0 28 0 (s55_4 x0 (x0==16)) (e55 J m w55_0 []))
  else
  (bif (x0==17) then
  (jj J 0 28 0 (s55_4 x0 (x0==17)) (e55 J m w55_0 []))
  else
  (bif (x0==21) then
  (jj J 0 28 0 (s55_4 x0 (x0==21)) (e55 J m w55_0 []))
  else
  (bif (x0==29) then
  (jj J 0 28 0 (s55_4 x0 (x0==29)) (e55 J m w55_0 []))
  else
  (jj J 0 28 0 (s55_4 x0 (x0==37)) (e55 J m w55_0 [])))))))))) (fun J=>by kernel_rfl) (by simp only[jj_eq,expr_shape_j4_eq m];rfl)
theorem expr_shape_j2_eq m x0 x1:e55 jn m w55_2 [] (s55_2 x0 x1)=expr_shape_j2 m x0 x1:=
 tre (g:=fun J=>(bif x1 then
  some 3
   else
  (bif (x0==19) then
  (jj J 0 20 0 (s55_3 x0 (x0==19)) (e55 J m w55_1 []))
  else
  (jj J 0 20 0 (s55_3 x0 (x0==25)) (e55 J m w55_1 []))))) (fun J=>by kernel_rfl) (by simp only[jj_eq,expr_shape_j3_eq m];rfl)
theorem expr_shape_j1_eq m x0 x1:e55 jn m w55_3 [] (s55_1 x0 x1)=expr_shape_j1 m x0 x1:=
 tre (g:=fun J=>(bif x1 then
  some 1
   else
  (bif (x0==32) then
  (jj J 0 17 0 (s55_2 x0 (x0==32)) (e55 J m w55_2 []))
  else
  (jj J 0 17 0 (s55_2 x0 (x0==33)) (e55 J m w55_2 []))))) (fun J=>by kernel_rfl) (by simp only[jj_eq,expr_shape_j2_eq m];rfl)
theorem expr_shape_j0_eq m x0 x1:e55 jn m w55_4 [] (s55_0 x0 x1)=expr_shape_j0 m x0 x1:=
 tre (g:=fun J=>(bif x1 then
  some 0
   else
  (bif (x0==18) then
  (jj J 0 14 0 (s55_1 x0 (x0==18)) (e55 J m w55_3 []))
  else
  (bif (x0==22) then
  (jj J 0 14 0 (s55_1 x0 (x0==22)) (e55 J m w55_3 []))
  else
  (bif (x0==23) then
  (jj J 0 14 0 (s55_1 x0 (x0==23)) (e55 J m w55_3 []))
  else
  (bif (x0==24) then
  (jj J 0 14 0 (s55_1 x0 (x0==24)) (e55 J m w55_3 []))
  else
  (bif (x0==26) then
  (jj J 0 14 0 (s55_1 x0 (x0==26)) (e55 J m w55_3 []))
  else
  (bif (x0==30) then
  (jj J 0 14 0 (s55_1 x0 (x0==30)) (e55 J m w55_3 []))
  else
  (bif (x0==31) then
  (jj J 0 14 0 (s55_1 x0 (x0==31)) (e55 J m w55_3 []))
  else
  (jj J 0 14 0 (s55_1 x0 (x0==36)) (e55 J m w55_3 []))))))))))) (fun J=>by kernel_rfl) (by simp only[jj_eq,expr_shape_j1_eq m];rfl)
theorem expr_shape_eq m a0:e55 jn m [] [] ⟨[(.dat 3 (.int a0))],[],0⟩=expr_shape (m+1) a0:=
 tre (g:=fun J=>(bif (a0==1) then
  (jj J 0 5 0 (s55_0 a0 (a0==1)) (e55 J m w55_4 []))
   else
  (bif (a0==2) then
  (jj J 0 5 0 (s55_0 a0 (a0==2)) (e55 J m w55_4 []))
  else
  (jj J 0 5 0 (s55_0 a0 (a0==3)) (e55 J m w55_4 []))))) (fun J=>by kernel_rfl) (by simp only[jj_eq,expr_shape_j0_eq m];rfl)
def w56_0:List Nat:=[1,0,1,0,1,1,1,1,1]
noncomputable def e56 (J:Nat→Nat→Nat→St→Option Bool→Option Bool) (m:Nat) (p ms:List Nat) (σ:St):=evAt Tryz.prog env (ct m) J (m+1) 155 27 Tryz.f155 d17 p ms σ
noncomputable def l56 (J:Nat→Nat→Nat→St→Option Bool→Option Bool) (m:Nat) (p ms:List Nat) (M:Nat) (σ:St):=loopAt Tryz.prog env (ct m) J (m+1) 155 27 Tryz.f155 d17 p ms M σ
noncomputable def s56_1:St:=⟨tsOf [],[],0⟩
noncomputable def s56_0 (x0 x1:Int) (x2:Bool):St:=⟨tsOf [(1,(.dat 3 (.int x0))),(5,(.dat 3 (.int x1))),(14,(.dat 4 (.bool x2)))],[],0⟩
theorem expr_hasKids_j1_eq m:e56 jn m [1,1] [] s56_1=expr_hasKids_j1 m:=
 tre (g:=fun J=>some true) (fun J=>by kernel_rfl) (by rfl)
theorem expr_hasKids_j0_eq m x0 x1 x2:e56 jn m w56_0 [] (s56_0 x0 x1 x2)=expr_hasKids_j0 m x0 x1 x2:=
 tre (g:=fun J=>(bif x2 then
  some (x0==2)
   else
  (bif (x1==4) then
  some (x0==3)
  else
  (bif (x1==7) then
  some (decide (1≤x0))
  else
  (jj J 0 13 0 s56_1 (e56 J m [1,1] [])))))) (fun J=>by kernel_rfl) (by simp only[jj_eq,expr_hasKids_j1_eq m];rfl)
theorem expr_hasKids_eq m a0 a1:e56 jn m [] [] ⟨[(.dat 3 (.int a0)),(.dat 3 (.int a1))],[],0⟩=expr_hasKids (m+1) a0 a1:=
 tre (g:=fun J=>(bif (a0==0) then
  some (a1==0)
   else
  (bif (a0==1) then
  some (a1==1)
  else
  (bif (a0==2) then
  (jj J 0 8 0 (s56_0 a1 a0 (a0==2)) (e56 J m w56_0 []))
  else
  (jj J 0 8 0 (s56_0 a1 a0 (a0==3)) (e56 J m w56_0 [])))))) (fun J=>by kernel_rfl) (by simp only[jj_eq,expr_hasKids_j0_eq m];rfl)
def w60_0:List Nat:=[1,1,0,1,0]
def w60_2:List Nat:=[1,1,0,1,0,0,1]
def w60_1:List Nat:=w60_2++[1]
noncomputable def e60 (J:Nat→Nat→Nat→St→Option Bool→Option Bool) (m:Nat) (p ms:List Nat) (σ:St):=evAt Tryz.prog env (ct m) J (m+1) 127 26 Tryz.f127 d17 p ms σ
noncomputable def l60 (J:Nat→Nat→Nat→St→Option Bool→Option Bool) (m:Nat) (p ms:List Nat) (M:Nat) (σ:St):=loopAt Tryz.prog env (ct m) J (m+1) 127 26 Tryz.f127 d17 p ms M σ
noncomputable def s60_4 (x0 x1:List Dt) (x2:Int):St:=⟨tsOf [(0,(.dat 22 (.lst x0))),(1,(.dat 22 (.lst x1))),(5,(.dat 3 (.int x2)))],[],0⟩
noncomputable def s60_5:St:=⟨tsOf [],[],0⟩
noncomputable def s60_0 (x0 x1:List Dt):St:=⟨tsOf [(0,(.dat 22 (.lst x0))),(1,(.dat 22 (.lst x1)))],[],0⟩
abbrev H60_2 (m M2:Nat) (rec2:List Dt→List Dt→Int→Option Bool):Prop:=∀x0 x1 x2,l60 jn m w60_0 [] M2 (s60_4 x0 x1 x2)=rec2 x0 x1 x2
theorem ref04_prefix_j4_eq m M2 rec2 (h2:H60_2 m M2 rec2) x0 x1 x2:e60 jn m w60_1 [M2] (s60_4 x0 x1 x2)=ref04_prefix_j4 m rec2 x0 x1 x2:=
 tre (g:=fun J=>(jj J 1 4 M2 (s60_4 x0 x1 (IntKind.wrap .i64 (x2+1))) (l60 J m w60_0 [] M2))) (fun J=>by kernel_rfl) (by simp only[jj_eq,h2];rfl)
theorem ref04_prefix_j3_eq m M2 rec2 (h2:H60_2 m M2 rec2) x0 x1 x2:e60 jn m w60_2 [M2] (s60_4 x0 x1 x2)=ref04_prefix_j3 m rec2 x0 x1 x2:=
 tre (g:=fun J=>((idx x0 x2).bind fun v0=>
  ((idx x1 x2).bind fun v1=>
  (bif (Bool.not ((ByteArray.toList (Dt.toStr v0))==(ByteArray.toList (Dt.toStr v1)))) then
  some false
  else
  (jj J 0 5 0 (s60_4 x0 x1 x2) (e60 J m w60_1 [M2])))))) (fun J=>by kernel_rfl) (by simp only[jj_eq,ref04_prefix_j4_eq m M2 rec2 h2];rfl)
theorem ref04_prefix_j5_eq m:e60 jn m [1,1,1] [] s60_5=ref04_prefix_j5 m:=
 tre (g:=fun J=>some true) (fun J=>by kernel_rfl) (by rfl)
theorem ref04_prefix_l2_eq m:∀M2 x0 x1 x2,l60 jn m w60_0 [] M2 (s60_4 x0 x1 x2)=ref04_prefix_l2 m M2 x0 x1 x2
 |0,_,_,_=>rfl
 | M2+1,x0,x1,x2=>
   trl (g:=fun J=>(bif (decide (x2<(List.length x0:Int))) then
  (jj J 0 6 0 (s60_4 x0 x1 x2) (e60 J m w60_2 [M2]))
   else
  (jj J 0 8 0 s60_5 (e60 J m [1,1,1] [])))) (fun J=>by kernel_rfl) (by simp only[jj_eq,ref04_prefix_j3_eq m M2 (ref04_prefix_l2 m M2) (ref04_prefix_l2_eq m M2),ref04_prefix_j5_eq m];rfl)
theorem ref04_prefix_j1_eq m x0 x1 x2:e60 jn m [1,1,0,1] [] (s60_4 x0 x1 x2)=ref04_prefix_j1 m x0 x1 x2:=
 tre (g:=fun J=>(jj J 1 4 (Nat.succ m) (s60_4 x0 x1 x2) (l60 J m w60_0 [] (Nat.succ m)))) (fun J=>by kernel_rfl) (by simp only[jj_eq,ref04_prefix_l2_eq m];rfl)
theorem ref04_prefix_j0_eq m x0 x1:e60 jn m [1,1] [] (s60_0 x0 x1)=ref04_prefix_j0 m x0 x1:=
 tre (g:=fun J=>(jj J 0 4 0 (s60_4 x0 x1 0) (e60 J m [1,1,0,1] []))) (fun J=>by kernel_rfl) (by simp only[jj_eq,ref04_prefix_j1_eq m];rfl)
theorem ref04_prefix_eq m a0 a1:e60 jn m [] [] ⟨[(.dat 22 (.lst a0)),(.dat 22 (.lst a1))],[],0⟩=ref04_prefix (m+1) a0 a1:=
 tre (g:=fun J=>(bif (decide ((List.length a1:Int)<(List.length a0:Int))) then
  some false
   else
  (jj J 0 3 0 (s60_0 a0 a1) (e60 J m [1,1] [])))) (fun J=>by kernel_rfl) (by simp only[jj_eq,ref04_prefix_j0_eq m];rfl)
noncomputable def e49 (J:Nat→Nat→Nat→St→Option Bool→Option Bool) (m:Nat) (p ms:List Nat) (σ:St):=evAt Tryz.prog env (ct m) J (m+1) 102 15 Tryz.f102 d17 p ms σ
noncomputable def l49 (J:Nat→Nat→Nat→St→Option Bool→Option Bool) (m:Nat) (p ms:List Nat) (M:Nat) (σ:St):=loopAt Tryz.prog env (ct m) J (m+1) 102 15 Tryz.f102 d17 p ms M σ
theorem ref04_Same_eq m a0 a1:e49 jn m [] [] ⟨[(.dat 22 (.lst a0)),(.dat 22 (.lst a1))],[],0⟩=ref04_Same (m+1) a0 a1:=
 tre (g:=fun J=>(bif ((List.length a0:Int)==(List.length a1:Int)) then
  ((ref04_prefix m a0 a1).bind fun r0=>
  some r0)
   else
  some false)) (fun J=>by kernel_rfl) (by rfl)
def w36_0:List Nat:=[1,1,0,1,0]
def w36_2:List Nat:=[1,1,0,1,0,0,1]
def w36_1:List Nat:=w36_2++[1]
noncomputable def e36 (J:Nat→Nat→Nat→St→Option Bool→Option Bool) (m:Nat) (p ms:List Nat) (σ:St):=evAt Tryz.prog env (ct m) J (m+1) 59 77 Tryz.f59 d17 p ms σ
noncomputable def l36 (J:Nat→Nat→Nat→St→Option Bool→Option Bool) (m:Nat) (p ms:List Nat) (M:Nat) (σ:St):=loopAt Tryz.prog env (ct m) J (m+1) 59 77 Tryz.f59 d17 p ms M σ
noncomputable def s36_5 (x0:Int) (x1 x2:Dt):St:=⟨tsOf [(2,(.ptr 0 [] 0)),(3,(.ptr 1 [] 0)),(5,(.dat 3 (.int x0)))],[(.box 29 (.dat 29 x1)),(.box 29 (.dat 29 x2))],0⟩
noncomputable def s36_6:St:=⟨tsOf [],[],0⟩
noncomputable def s36_1 (x0 x1:Dt):St:=⟨tsOf [(2,(.ptr 0 [] 0)),(3,(.ptr 1 [] 0))],[(.box 29 (.dat 29 x0)),(.box 29 (.dat 29 x1))],0⟩
noncomputable def s36_0 (x0:Bool) (x1 x2:Dt):St:=⟨tsOf [(2,(.ptr 0 [] 0)),(3,(.ptr 1 [] 0)),(57,(.dat 4 (.bool x0)))],[(.box 29 (.dat 29 x1)),(.box 29 (.dat 29 x2))],0⟩
abbrev H36_3 (m M3:Nat) (rec3:Int→Dt→Dt→Option Bool):Prop:=∀x0 x1 x2,l36 jn m w36_0 [] M3 (s36_5 x0 x1 x2)=rec3 x0 x1 x2
theorem ref23_SameExpr_j5_eq m M3 rec3 (h3:H36_3 m M3 rec3) x0 x1 x2:e36 jn m w36_1 [M3] (s36_5 x0 x1 x2)=ref23_SameExpr_j5 m (ref23_SameExpr m) rec3 x0 x1 x2:=
 tre (g:=fun J=>(jj J 1 4 M3 (s36_5 (IntKind.wrap .i64 (x0+1)) x1 x2) (l36 J m w36_0 [] M3))) (fun J=>by kernel_rfl) (by simp only[jj_eq,h3];rfl)
theorem ref23_SameExpr_j4_eq m M3 rec3 (h3:H36_3 m M3 rec3) x0 x1 x2:e36 jn m w36_2 [M3] (s36_5 x0 x1 x2)=ref23_SameExpr_j4 m (ref23_SameExpr m) rec3 x0 x1 x2:=
 tre (g:=fun J=>((idx (Dt.L x1 6) x0).bind fun v0=>
  ((idx (Dt.L x2 6) x0).bind fun v1=>
  ((ref23_SameExpr m v0 v1).bind fun r2=>
  (bif (Bool.not r2) then
  some false
  else
  (jj J 0 5 0 (s36_5 x0 x1 x2) (e36 J m w36_1 [M3]))))))) (fun J=>by kernel_rfl) (by simp only[jj_eq,ref23_SameExpr_j5_eq m M3 rec3 h3];rfl)
theorem ref23_SameExpr_j6_eq m:e36 jn m [1,1,1] [] s36_6=ref23_SameExpr_j6 m (ref23_SameExpr m):=
 tre (g:=fun J=>some true) (fun J=>by kernel_rfl) (by rfl)
theorem ref23_SameExpr_l3_eq m:∀M3 x0 x1 x2,l36 jn m w36_0 [] M3 (s36_5 x0 x1 x2)=ref23_SameExpr_l3 m (ref23_SameExpr m) M3 x0 x1 x2
 |0,_,_,_=>rfl
 | M3+1,x0,x1,x2=>
   trl (g:=fun J=>(bif (decide (x0<(List.length (Dt.L x1 6):Int))) then
  (jj J 0 6 0 (s36_5 x0 x1 x2) (e36 J m w36_2 [M3]))
   else
  (jj J 0 8 0 s36_6 (e36 J m [1,1,1] [])))) (fun J=>by kernel_rfl) (by simp only[jj_eq,ref23_SameExpr_j4_eq m M3 (ref23_SameExpr_l3 m (ref23_SameExpr m) M3) (ref23_SameExpr_l3_eq m M3),ref23_SameExpr_j6_eq m];rfl)
theorem ref23_SameExpr_j2_eq m x0 x1 x2:e36 jn m [1,1,0,1] [] (s36_5 x0 x1 x2)=ref23_SameExpr_j2 m (ref23_SameExpr m) x0 x1 x2:=
 tre (g:=fun J=>(jj J 1 4 (Nat.succ m) (s36_5 x0 x1 x2) (l36 J m w36_0 [] (Nat.succ m)))) (fun J=>by kernel_rfl) (by simp only[jj_eq,ref23_SameExpr_l3_eq m];rfl)
theorem ref23_SameExpr_j1_eq m x0 x1:e36 jn m [1,1] [] (s36_1 x0 x1)=ref23_SameExpr_j1 m (ref23_SameExpr m) x0 x1:=
 tre (g:=fun J=>(jj J 0 4 0 (s36_5 0 x0 x1) (e36 J m [1,1,0,1] []))) (fun J=>by kernel_rfl) (by simp only[jj_eq,ref23_SameExpr_j2_eq m];rfl)
theorem ref23_SameExpr_j0_eq m x0 x1 x2:e36 jn m [1,0,1] [] (s36_0 x0 x1 x2)=ref23_SameExpr_j0 m (ref23_SameExpr m) x0 x1 x2:=
 tre (g:=fun J=>(bif x0 then
  some false
   else
  (jj J 0 3 0 (s36_1 x1 x2) (e36 J m [1,1] [])))) (fun J=>by kernel_rfl) (by simp only[jj_eq,ref23_SameExpr_j1_eq m];rfl)
theorem ref23_SameExpr_eq m a0 a1:e36 jn m [] [] ⟨[(.dat 29 a0),(.dat 29 a1)],[],0⟩=ref23_SameExpr (m+1) a0 a1:=
 tre (g:=fun J=>(bif ((Dt.I a0 0) !=(Dt.I a1 0)) then
  (jj J 0 2 0 (s36_0 true a0 a1) (e36 J m [1,0,1] []))
   else
  ((ref04_Same m (Dt.L a0 1) (Dt.L a1 1)).bind fun r3=>
  (bif (Bool.not r3) then
  (jj J 0 2 0 (s36_0 true a0 a1) (e36 J m [1,0,1] []))
  else
  (bif (Bool.not ((ByteArray.toList (Dt.S a0 2))==(ByteArray.toList (Dt.S a1 2)))) then
  (jj J 0 2 0 (s36_0 true a0 a1) (e36 J m [1,0,1] []))
  else
  ((ref04_Same m (Dt.L a0 3) (Dt.L a1 3)).bind fun r4=>
  (bif (Bool.not r4) then
  (jj J 0 2 0 (s36_0 true a0 a1) (e36 J m [1,0,1] []))
  else
  ((ref01_Same m (Dt.fld a0 4) (Dt.fld a1 4)).bind fun r5=>
  (bif (Bool.not r5) then
  (jj J 0 2 0 (s36_0 true a0 a1) (e36 J m [1,0,1] []))
  else
  (bif ((Dt.I a0 5) !=(Dt.I a1 5)) then
  (jj J 0 2 0 (s36_0 true a0 a1) (e36 J m [1,0,1] []))
  else
  (jj J 0 2 0 (s36_0 ((List.length (Dt.L a0 6):Int) !=(List.length (Dt.L a1 6):Int)) a0 a1) (e36 J m [1,0,1] [])))))))))))) (fun J=>by kernel_rfl) (by simp only[jj_eq,ref23_SameExpr_j0_eq m];rfl)
noncomputable def e19 (J:Nat→Nat→Nat→St→Option Bool→Option Bool) (m:Nat) (p ms:List Nat) (σ:St):=evAt Tryz.prog env (ct m) J (m+1) 29 6 Tryz.f29 d17 p ms σ
noncomputable def l19 (J:Nat→Nat→Nat→St→Option Bool→Option Bool) (m:Nat) (p ms:List Nat) (M:Nat) (σ:St):=loopAt Tryz.prog env (ct m) J (m+1) 29 6 Tryz.f29 d17 p ms M σ
theorem ref31_zeroExpr_eq m a0:e19 jn m [] [] ⟨[(.dat 29 a0)],[],0⟩=ref31_zeroExpr (m+1) a0:=
 tre (g:=fun J=>((ref23_SameExpr m a0 kz6c2a1).bind fun r0=>
  some r0)) (fun J=>by kernel_rfl) (by rfl)
noncomputable def e61 (J:Nat→Nat→Nat→St→Option Bool→Option Bool) (m:Nat) (p ms:List Nat) (σ:St):=evAt Tryz.prog env (ct m) J (m+1) 115 28 Tryz.f115 d17 p ms σ
noncomputable def l61 (J:Nat→Nat→Nat→St→Option Bool→Option Bool) (m:Nat) (p ms:List Nat) (M:Nat) (σ:St):=loopAt Tryz.prog env (ct m) J (m+1) 115 28 Tryz.f115 d17 p ms M σ
theorem pipeline_zeroValue_eq m a0:e61 jn m [] [] ⟨[(.dat 26 a0)],[],0⟩=pipeline_zeroValue (m+1) a0:=
 tre (g:=fun J=>(bif ((Dt.I a0 0)==0) then
  (bif ((Dt.I a0 1)==0) then
  (bif ((ByteArray.toList (Dt.S a0 2))==[]) then
  (bif ((List.length (Dt.L a0 3):Int)==0) then
  some ((List.length (Dt.L a0 4):Int)==0)
  else
  some false)
  else
  some false)
  else
  some false)
   else
  some false)) (fun J=>by kernel_rfl) (by rfl)
noncomputable def e50 (J:Nat→Nat→Nat→St→Option Bool→Option Bool) (m:Nat) (p ms:List Nat) (σ:St):=evAt Tryz.prog env (ct m) J (m+1) 79 39 Tryz.f79 d17 p ms σ
noncomputable def l50 (J:Nat→Nat→Nat→St→Option Bool→Option Bool) (m:Nat) (p ms:List Nat) (M:Nat) (σ:St):=loopAt Tryz.prog env (ct m) J (m+1) 79 39 Tryz.f79 d17 p ms M σ
theorem pipeline_zeroExpr_eq m a0:e50 jn m [] [] ⟨[(.dat 29 a0)],[],0⟩=pipeline_zeroExpr (m+1) a0:=
 tre (g:=fun J=>(bif ((Dt.I a0 0)==0) then
  (bif ((List.length (Dt.L a0 1):Int)==0) then
  (bif ((ByteArray.toList (Dt.S a0 2))==[]) then
  (bif ((List.length (Dt.L a0 3):Int)==0) then
  ((pipeline_zeroValue m (Dt.fld a0 4)).bind fun r0=>
  (bif r0 then
  (bif ((Dt.I a0 5)==0) then
  some ((List.length (Dt.L a0 6):Int)==0)
  else
  some false)
  else
  some false))
  else
  some false)
  else
  some false)
  else
  some false)
   else
  some false)) (fun J=>by kernel_rfl) (by rfl)
noncomputable def e69 (J:Nat→Nat→Nat→St→Option Int→Option Int) (m:Nat) (p ms:List Nat) (σ:St):=evAt Tryz.prog env (ct m) J (m+1) 151 14 Tryz.f151 d39 p ms σ
noncomputable def l69 (J:Nat→Nat→Nat→St→Option Int→Option Int) (m:Nat) (p ms:List Nat) (M:Nat) (σ:St):=loopAt Tryz.prog env (ct m) J (m+1) 151 14 Tryz.f151 d39 p ms M σ
noncomputable def s69_0 (x0:Dt) (x1 x2:Int):St:=⟨tsOf [(2,(.ptr 0 [] 0)),(3,(.ptr 1 [] 0)),(5,(.ptr 2 [] 0))],[(.box 26 (.dat 26 x0)),(.box 3 (.dat 3 (.int x1))),(.box 3 (.dat 3 (.int x2)))],0⟩
theorem value_nodes_j0_eq m x0 x1 x2:e69 jn m [1,1,1] [] (s69_0 x0 x1 x2)=value_nodes_j0 m (i76 m) x0 x1 x2:=
 tre (g:=fun J=>((i76 m x0 x2 x1).bind fun r0=>
  some r0.1)) (fun J=>by kernel_rfl) (by rfl)
theorem value_nodes_eq m a0 a1:e69 jn m [] [] ⟨[(.dat 26 a0),(.dat 3 (.int a1))],[],0⟩=value_nodes (m+1) a0 a1:=
 tre (g:=fun J=>(bif (1==a1) then
  some 1
   else
  (jj J 0 4 0 (s69_0 a0 a1 1) (e69 J m [1,1,1] [])))) (fun J=>by kernel_rfl) (by simp only[jj_eq,value_nodes_j0_eq m];rfl)
def w76_3:List Nat:=[1,1,0,1,0,1]
def w76_0:List Nat:=w76_3++[0]
def w76_7:List Nat:=[1,1,0,1,1,1,0,1]
def w76_4:List Nat:=w76_7++[0]
def w76_2:List Nat:=w76_0++[0,1,1]
def w76_1:List Nat:=w76_2++[1]
def w76_6:List Nat:=w76_4++[0,1,1]
def w76_5:List Nat:=w76_6++[1]
noncomputable def e76 (J:Nat→Nat→Nat→St→Option (Int×Int)→Option (Int×Int)) (m:Nat) (p ms:List Nat) (σ:St):=evAt Tryz.prog env (ct m) J (m+1) 180 39 Tryz.f180 d76 p ms σ
noncomputable def l76 (J:Nat→Nat→Nat→St→Option (Int×Int)→Option (Int×Int)) (m:Nat) (p ms:List Nat) (M:Nat) (σ:St):=loopAt Tryz.prog env (ct m) J (m+1) 180 39 Tryz.f180 d76 p ms M σ
noncomputable def s76_3 (x0:List Dt) (x1 x2 x3 x4:Int):St:=⟨tsOf [(1,(.fn 181 [(.ptr 0 [] 0),(.ptr 1 [] 0)])),(13,(.dat 23 (.lst x0))),(14,(.dat 3 (.int x1))),(15,(.dat 3 (.int x2)))],[(.box 3 (.dat 3 (.int x3))),(.box 3 (.dat 3 (.int x4)))],2⟩
noncomputable def s76_7 (x0:List Dt) (x1 x2 x3 x4:Int):St:=⟨tsOf [(1,(.fn 181 [(.ptr 0 [] 0),(.ptr 1 [] 0)])),(27,(.dat 24 (.lst x0))),(28,(.dat 3 (.int x1))),(29,(.dat 3 (.int x2)))],[(.box 3 (.dat 3 (.int x3))),(.box 3 (.dat 3 (.int x4)))],2⟩
abbrev H76_1 (m M1:Nat) (rec1:List Dt→Int→Int→Int→Int→Option (Int×Int)):Prop:=∀x0 x1 x2 x3 x4,l76 jn m w76_0 [] M1 (s76_3 x0 x1 x2 x3 x4)=rec1 x0 x1 x2 x3 x4
theorem i76_j3_eq m M1 rec1 (h1:H76_1 m M1 rec1) x0 x1 x2 x3 x4:e76 jn m w76_1 [M1] (s76_3 x0 x1 x2 x3 x4)=i76_j3 m (i77 m) rec1 x0 x1 x2 x3 x4:=
 tre (g:=fun J=>(jj J 1 4 M1 (s76_3 x0 x1 (IntKind.wrap .i64 (x2+1)) x3 x4) (l76 J m w76_0 [] M1))) (fun J=>by kernel_rfl) (by simp only[jj_eq,h1];rfl)
theorem i76_j2_eq m M1 rec1 (h1:H76_1 m M1 rec1) x0 x1 x2 x3 x4:e76 jn m w76_2 [M1] (s76_3 x0 x1 x2 x3 x4)=i76_j2 m (i77 m) rec1 x0 x1 x2 x3 x4:=
 tre (g:=fun J=>((idx x0 x2).bind fun v0=>
  ((i77 m v0 x3 x4).bind fun r1=>
  (bif (Bool.not r1.1) then
  some (r1.2.1,r1.2.2)
  else
  (jj J 0 7 0 (s76_3 x0 x1 x2 r1.2.1 r1.2.2) (e76 J m w76_1 [M1])))))) (fun J=>by kernel_rfl) (by simp only[jj_eq,i76_j3_eq m M1 rec1 h1];rfl)
theorem i76_l1_eq m:∀M1 x0 x1 x2 x3 x4,l76 jn m w76_0 [] M1 (s76_3 x0 x1 x2 x3 x4)=i76_l1 m (i77 m) M1 x0 x1 x2 x3 x4
 |0,_,_,_,_,_=>rfl
 | M1+1,x0,x1,x2,x3,x4=>
   trl (g:=fun J=>(bif (decide (x2<x1)) then
  (jj J 0 5 0 (s76_3 x0 x1 x2 x3 x4) (e76 J m w76_2 [M1]))
   else
  some (x3,x4))) (fun J=>by kernel_rfl) (by simp only[jj_eq,i76_j2_eq m M1 (i76_l1 m (i77 m) M1) (i76_l1_eq m M1)];rfl)
theorem i76_j0_eq m x0 x1 x2 x3 x4:e76 jn m w76_3 [] (s76_3 x0 x1 x2 x3 x4)=i76_j0 m (i77 m) x0 x1 x2 x3 x4:=
 tre (g:=fun J=>(jj J 1 4 (Nat.succ m) (s76_3 x0 x1 x2 x3 x4) (l76 J m w76_0 [] (Nat.succ m)))) (fun J=>by kernel_rfl) (by simp only[jj_eq,i76_l1_eq m];rfl)
abbrev H76_5 (m M5:Nat) (rec5:List Dt→Int→Int→Int→Int→Option (Int×Int)):Prop:=∀x0 x1 x2 x3 x4,l76 jn m w76_4 [] M5 (s76_7 x0 x1 x2 x3 x4)=rec5 x0 x1 x2 x3 x4
theorem i76_j7_eq m M5 rec5 (h5:H76_5 m M5 rec5) x0 x1 x2 x3 x4:e76 jn m w76_5 [M5] (s76_7 x0 x1 x2 x3 x4)=i76_j7 m (i77 m) rec5 x0 x1 x2 x3 x4:=
 tre (g:=fun J=>(jj J 1 10 M5 (s76_7 x0 x1 (IntKind.wrap .i64 (x2+1)) x3 x4) (l76 J m w76_4 [] M5))) (fun J=>by kernel_rfl) (by simp only[jj_eq,h5];rfl)
theorem i76_j6_eq m M5 rec5 (h5:H76_5 m M5 rec5) x0 x1 x2 x3 x4:e76 jn m w76_6 [M5] (s76_7 x0 x1 x2 x3 x4)=i76_j6 m (i77 m) rec5 x0 x1 x2 x3 x4:=
 tre (g:=fun J=>((idx x0 x2).bind fun v2=>
  ((i77 m (Dt.fld v2 1) x3 x4).bind fun r3=>
  (bif (Bool.not r3.1) then
  some (r3.2.1,r3.2.2)
  else
  (jj J 0 13 0 (s76_7 x0 x1 x2 r3.2.1 r3.2.2) (e76 J m w76_5 [M5])))))) (fun J=>by kernel_rfl) (by simp only[jj_eq,i76_j7_eq m M5 rec5 h5];rfl)
theorem i76_l5_eq m:∀M5 x0 x1 x2 x3 x4,l76 jn m w76_4 [] M5 (s76_7 x0 x1 x2 x3 x4)=i76_l5 m (i77 m) M5 x0 x1 x2 x3 x4
 |0,_,_,_,_,_=>rfl
 | M5+1,x0,x1,x2,x3,x4=>
   trl (g:=fun J=>(bif (decide (x2<x1)) then
  (jj J 0 11 0 (s76_7 x0 x1 x2 x3 x4) (e76 J m w76_6 [M5]))
   else
  some (x3,x4))) (fun J=>by kernel_rfl) (by simp only[jj_eq,i76_j6_eq m M5 (i76_l5 m (i77 m) M5) (i76_l5_eq m M5)];rfl)
theorem i76_j4_eq m x0 x1 x2 x3 x4:e76 jn m w76_7 [] (s76_7 x0 x1 x2 x3 x4)=i76_j4 m (i77 m) x0 x1 x2 x3 x4:=
 tre (g:=fun J=>(jj J 1 10 (Nat.succ m) (s76_7 x0 x1 x2 x3 x4) (l76 J m w76_4 [] (Nat.succ m)))) (fun J=>by kernel_rfl) (by simp only[jj_eq,i76_l5_eq m];rfl)
theorem i76_eq m a0 a1 a2:e76 jn m [] [] ⟨[(.dat 26 a0),(.fn 181 [(.ptr 0 [] 0),(.ptr 1 [] 0)])],[(.box 3 (.dat 3 (.int a1))),(.box 3 (.dat 3 (.int a2)))],2⟩=i76 (m+1) a0 a1 a2:=
 tre (g:=fun J=>(bif ((Dt.I a0 0)==6) then
  (jj J 0 4 0 (s76_3 (Dt.L a0 3) (List.length (Dt.L a0 3):Int) 0 a1 a2) (e76 J m w76_3 []))
   else
  (bif ((Dt.I a0 0)==5) then
  (jj J 0 10 0 (s76_7 (Dt.L a0 4) (List.length (Dt.L a0 4):Int) 0 a1 a2) (e76 J m w76_7 []))
  else
  some (a1,a2)))) (fun J=>by kernel_rfl) (by simp only[jj_eq,i76_j0_eq m,i76_j4_eq m];rfl)
noncomputable def e77 (J:Nat→Nat→Nat→St→Option (Bool×Int×Int)→Option (Bool×Int×Int)) (m:Nat) (p ms:List Nat) (σ:St):=evAt Tryz.prog env (ct m) J (m+1) 181 15 Tryz.f181 d77 p ms σ
noncomputable def l77 (J:Nat→Nat→Nat→St→Option (Bool×Int×Int)→Option (Bool×Int×Int)) (m:Nat) (p ms:List Nat) (M:Nat) (σ:St):=loopAt Tryz.prog env (ct m) J (m+1) 181 15 Tryz.f181 d77 p ms M σ
theorem i77_eq m a0 a1 a2:e77 jn m [] [] ⟨[(.dat 26 a0),(.ptr 0 [] 0),(.ptr 1 [] 0)],[(.box 3 (.dat 3 (.int a1))),(.box 3 (.dat 3 (.int a2)))],2⟩=i77 (m+1) a0 a1 a2:=
 tre (g:=fun J=>((value_nodes m a0 (IntKind.wrap .i64 (a2-a1))).bind fun r0=>
  some ((decide ((IntKind.wrap .i64 (a1+r0))<a2)),(IntKind.wrap .i64 (a1+r0)),a2))) (fun J=>by kernel_rfl) (by rfl)
noncomputable def e62 (J:Nat→Nat→Nat→St→Option Int→Option Int) (m:Nat) (p ms:List Nat) (σ:St):=evAt Tryz.prog env (ct m) J (m+1) 118 5 Tryz.f118 d39 p ms σ
noncomputable def l62 (J:Nat→Nat→Nat→St→Option Int→Option Int) (m:Nat) (p ms:List Nat) (M:Nat) (σ:St):=loopAt Tryz.prog env (ct m) J (m+1) 118 5 Tryz.f118 d39 p ms M σ
theorem value_Nodes_eq m a0:e62 jn m [] [] ⟨[(.dat 26 a0)],[],0⟩=value_Nodes (m+1) a0:=
 tre (g:=fun J=>((value_nodes m a0 1025).bind fun r0=>
  some r0)) (fun J=>by kernel_rfl) (by rfl)
noncomputable def e70 (J:Nat→Nat→Nat→St→Option Int→Option Int) (m:Nat) (p ms:List Nat) (σ:St):=evAt Tryz.prog env (ct m) J (m+1) 152 13 Tryz.f152 d39 p ms σ
noncomputable def l70 (J:Nat→Nat→Nat→St→Option Int→Option Int) (m:Nat) (p ms:List Nat) (M:Nat) (σ:St):=loopAt Tryz.prog env (ct m) J (m+1) 152 13 Tryz.f152 d39 p ms M σ
noncomputable def s70_0 (x0:Dt) (x1:Int):St:=⟨tsOf [(2,(.ptr 0 [] 0)),(3,(.ptr 1 [] 0))],[(.box 26 (.dat 26 x0)),(.box 3 (.dat 3 (.int x1)))],0⟩
theorem value_depth_j0_eq m x0 x1:e70 jn m [1,1] [] (s70_0 x0 x1)=value_depth_j0 m (i78 m) x0 x1:=
 tre (g:=fun J=>((i78 m x0 0 x1).bind fun r0=>
  some (IntKind.wrap .i64 (1+r0.1)))) (fun J=>by kernel_rfl) (by rfl)
theorem value_depth_eq m a0 a1:e70 jn m [] [] ⟨[(.dat 26 a0),(.dat 3 (.int a1))],[],0⟩=value_depth (m+1) a0 a1:=
 tre (g:=fun J=>(bif (a1==1) then
  some 1
   else
  (jj J 0 3 0 (s70_0 a0 a1) (e70 J m [1,1] [])))) (fun J=>by kernel_rfl) (by simp only[jj_eq,value_depth_j0_eq m];rfl)
def w78_3:List Nat:=[1,1,0,1,0,1]
def w78_0:List Nat:=w78_3++[0]
def w78_7:List Nat:=[1,1,0,1,1,1,0,1]
def w78_4:List Nat:=w78_7++[0]
def w78_2:List Nat:=w78_0++[0,1,1]
def w78_1:List Nat:=w78_2++[1]
def w78_6:List Nat:=w78_4++[0,1,1]
def w78_5:List Nat:=w78_6++[1]
noncomputable def e78 (J:Nat→Nat→Nat→St→Option (Int×Int)→Option (Int×Int)) (m:Nat) (p ms:List Nat) (σ:St):=evAt Tryz.prog env (ct m) J (m+1) 180 39 Tryz.f180 d76 p ms σ
noncomputable def l78 (J:Nat→Nat→Nat→St→Option (Int×Int)→Option (Int×Int)) (m:Nat) (p ms:List Nat) (M:Nat) (σ:St):=loopAt Tryz.prog env (ct m) J (m+1) 180 39 Tryz.f180 d76 p ms M σ
noncomputable def s78_3 (x0:List Dt) (x1 x2 x3 x4:Int):St:=⟨tsOf [(1,(.fn 182 [(.ptr 0 [] 0),(.ptr 1 [] 0)])),(13,(.dat 23 (.lst x0))),(14,(.dat 3 (.int x1))),(15,(.dat 3 (.int x2)))],[(.box 3 (.dat 3 (.int x3))),(.box 3 (.dat 3 (.int x4)))],2⟩
noncomputable def s78_7 (x0:List Dt) (x1 x2 x3 x4:Int):St:=⟨tsOf [(1,(.fn 182 [(.ptr 0 [] 0),(.ptr 1 [] 0)])),(27,(.dat 24 (.lst x0))),(28,(.dat 3 (.int x1))),(29,(.dat 3 (.int x2)))],[(.box 3 (.dat 3 (.int x3))),(.box 3 (.dat 3 (.int x4)))],2⟩
abbrev H78_1 (m M1:Nat) (rec1:List Dt→Int→Int→Int→Int→Option (Int×Int)):Prop:=∀x0 x1 x2 x3 x4,l78 jn m w78_0 [] M1 (s78_3 x0 x1 x2 x3 x4)=rec1 x0 x1 x2 x3 x4
theorem i78_j3_eq m M1 rec1 (h1:H78_1 m M1 rec1) x0 x1 x2 x3 x4:e78 jn m w78_1 [M1] (s78_3 x0 x1 x2 x3 x4)=i78_j3 m (i79 m) rec1 x0 x1 x2 x3 x4:=
 tre (g:=fun J=>(jj J 1 4 M1 (s78_3 x0 x1 (IntKind.wrap .i64 (x2+1)) x3 x4) (l78 J m w78_0 [] M1))) (fun J=>by kernel_rfl) (by simp only[jj_eq,h1];rfl)
theorem i78_j2_eq m M1 rec1 (h1:H78_1 m M1 rec1) x0 x1 x2 x3 x4:e78 jn m w78_2 [M1] (s78_3 x0 x1 x2 x3 x4)=i78_j2 m (i79 m) rec1 x0 x1 x2 x3 x4:=
 tre (g:=fun J=>((idx x0 x2).bind fun v0=>
  ((i79 m v0 x3 x4).bind fun r1=>
  (bif (Bool.not r1.1) then
  some (r1.2.1,r1.2.2)
  else
  (jj J 0 7 0 (s78_3 x0 x1 x2 r1.2.1 r1.2.2) (e78 J m w78_1 [M1])))))) (fun J=>by kernel_rfl) (by simp only[jj_eq,i78_j3_eq m M1 rec1 h1];rfl)
theorem i78_l1_eq m:∀M1 x0 x1 x2 x3 x4,l78 jn m w78_0 [] M1 (s78_3 x0 x1 x2 x3 x4)=i78_l1 m (i79 m) M1 x0 x1 x2 x3 x4
 |0,_,_,_,_,_=>rfl
 | M1+1,x0,x1,x2,x3,x4=>
   trl (g:=fun J=>(bif (decide (x2<x1)) then
  (jj J 0 5 0 (s78_3 x0 x1 x2 x3 x4) (e78 J m w78_2 [M1]))
   else
  some (x3,x4))) (fun J=>by kernel_rfl) (by simp only[jj_eq,i78_j2_eq m M1 (i78_l1 m (i79 m) M1) (i78_l1_eq m M1)];rfl)
theorem i78_j0_eq m x0 x1 x2 x3 x4:e78 jn m w78_3 [] (s78_3 x0 x1 x2 x3 x4)=i78_j0 m (i79 m) x0 x1 x2 x3 x4:=
 tre (g:=fun J=>(jj J 1 4 (Nat.succ m) (s78_3 x0 x1 x2 x3 x4) (l78 J m w78_0 [] (Nat.succ m)))) (fun J=>by kernel_rfl) (by simp only[jj_eq,i78_l1_eq m];rfl)
abbrev H78_5 (m M5:Nat) (rec5:List Dt→Int→Int→Int→Int→Option (Int×Int)):Prop:=∀x0 x1 x2 x3 x4,l78 jn m w78_4 [] M5 (s78_7 x0 x1 x2 x3 x4)=rec5 x0 x1 x2 x3 x4
theorem i78_j7_eq m M5 rec5 (h5:H78_5 m M5 rec5) x0 x1 x2 x3 x4:e78 jn m w78_5 [M5] (s78_7 x0 x1 x2 x3 x4)=i78_j7 m (i79 m) rec5 x0 x1 x2 x3 x4:=
 tre (g:=fun J=>(jj J 1 10 M5 (s78_7 x0 x1 (IntKind.wrap .i64 (x2+1)) x3 x4) (l78 J m w78_4 [] M5))) (fun J=>by kernel_rfl) (by simp only[jj_eq,h5];rfl)
theorem i78_j6_eq m M5 rec5 (h5:H78_5 m M5 rec5) x0 x1 x2 x3 x4:e78 jn m w78_6 [M5] (s78_7 x0 x1 x2 x3 x4)=i78_j6 m (i79 m) rec5 x0 x1 x2 x3 x4:=
 tre (g:=fun J=>((idx x0 x2).bind fun v2=>
  ((i79 m (Dt.fld v2 1) x3 x4).bind fun r3=>
  (bif (Bool.not r3.1) then
  some (r3.2.1,r3.2.2)
  else
  (jj J 0 13 0 (s78_7 x0 x1 x2 r3.2.1 r3.2.2) (e78 J m w78_5 [M5])))))) (fun J=>by kernel_rfl) (by simp only[jj_eq,i78_j7_eq m M5 rec5 h5];rfl)
theorem i78_l5_eq m:∀M5 x0 x1 x2 x3 x4,l78 jn m w78_4 [] M5 (s78_7 x0 x1 x2 x3 x4)=i78_l5 m (i79 m) M5 x0 x1 x2 x3 x4
 |0,_,_,_,_,_=>rfl
 | M5+1,x0,x1,x2,x3,x4=>
   trl (g:=fun J=>(bif (decide (x2<x1)) then
  (jj J 0 11 0 (s78_7 x0 x1 x2 x3 x4) (e78 J m w78_6 [M5]))
   else
  some (x3,x4))) (fun J=>by kernel_rfl) (by simp only[jj_eq,i78_j6_eq m M5 (i78_l5 m (i79 m) M5) (i78_l5_eq m M5)];rfl)
theorem i78_j4_eq m x0 x1 x2 x3 x4:e78 jn m w78_7 [] (s78_7 x0 x1 x2 x3 x4)=i78_j4 m (i79 m) x0 x1 x2 x3 x4:=
 tre (g:=fun J=>(jj J 1 10 (Nat.succ m) (s78_7 x0 x1 x2 x3 x4) (l78 J m w78_4 [] (Nat.succ m)))) (fun J=>by kernel_rfl) (by simp only[jj_eq,i78_l5_eq m];rfl)
theorem i78_eq m a0 a1 a2:e78 jn m [] [] ⟨[(.dat 26 a0),(.fn 182 [(.ptr 0 [] 0),(.ptr 1 [] 0)])],[(.box 3 (.dat 3 (.int a1))),(.box 3 (.dat 3 (.int a2)))],2⟩=i78 (m+1) a0 a1 a2:=
 tre (g:=fun J=>(bif ((Dt.I a0 0)==6) then
  (jj J 0 4 0 (s78_3 (Dt.L a0 3) (List.length (Dt.L a0 3):Int) 0 a1 a2) (e78 J m w78_3 []))
   else
  (bif ((Dt.I a0 0)==5) then
  (jj J 0 10 0 (s78_7 (Dt.L a0 4) (List.length (Dt.L a0 4):Int) 0 a1 a2) (e78 J m w78_7 []))
  else
  some (a1,a2)))) (fun J=>by kernel_rfl) (by simp only[jj_eq,i78_j0_eq m,i78_j4_eq m];rfl)
noncomputable def e79 (J:Nat→Nat→Nat→St→Option (Bool×Int×Int)→Option (Bool×Int×Int)) (m:Nat) (p ms:List Nat) (σ:St):=evAt Tryz.prog env (ct m) J (m+1) 182 15 Tryz.f182 d77 p ms σ
noncomputable def l79 (J:Nat→Nat→Nat→St→Option (Bool×Int×Int)→Option (Bool×Int×Int)) (m:Nat) (p ms:List Nat) (M:Nat) (σ:St):=loopAt Tryz.prog env (ct m) J (m+1) 182 15 Tryz.f182 d77 p ms M σ
theorem i79_eq m a0 a1 a2:e79 jn m [] [] ⟨[(.dat 26 a0),(.ptr 0 [] 0),(.ptr 1 [] 0)],[(.box 3 (.dat 3 (.int a1))),(.box 3 (.dat 3 (.int a2)))],2⟩=i79 (m+1) a0 a1 a2:=
 tre (g:=fun J=>((value_depth m a0 (IntKind.wrap .i64 (a2-1))).bind fun r0=>
  some ((decide ((bif (decide (a1<r0)) then r0 else a1)<(IntKind.wrap .i64 (a2-1)))),(bif (decide (a1<r0)) then r0 else a1),a2))) (fun J=>by kernel_rfl) (by rfl)
noncomputable def e63 (J:Nat→Nat→Nat→St→Option Int→Option Int) (m:Nat) (p ms:List Nat) (σ:St):=evAt Tryz.prog env (ct m) J (m+1) 119 5 Tryz.f119 d39 p ms σ
noncomputable def l63 (J:Nat→Nat→Nat→St→Option Int→Option Int) (m:Nat) (p ms:List Nat) (M:Nat) (σ:St):=loopAt Tryz.prog env (ct m) J (m+1) 119 5 Tryz.f119 d39 p ms M σ
theorem value_Depth_eq m a0:e63 jn m [] [] ⟨[(.dat 26 a0)],[],0⟩=value_Depth (m+1) a0:=
 tre (g:=fun J=>((value_depth m a0 17).bind fun r0=>
  some r0)) (fun J=>by kernel_rfl) (by rfl)
def w73_7:List Nat:=[1,1,0,1,0,1]
def w73_0:List Nat:=w73_7++[0]
def w73_6:List Nat:=[1,1,1,0,1,0,1]
def w73_3:List Nat:=w73_6++[0]
def w73_2:List Nat:=w73_0++[0,1]
def w73_1:List Nat:=w73_2++[1]
def w73_5:List Nat:=w73_3++[0,1]
def w73_4:List Nat:=w73_5++[1]
noncomputable def e73 (J:Nat→Nat→Nat→St→Option (List Dt)→Option (List Dt)) (m:Nat) (p ms:List Nat) (σ:St):=evAt Tryz.prog env (ct m) J (m+1) 185 44 Tryz.f185 d73 p ms σ
noncomputable def l73 (J:Nat→Nat→Nat→St→Option (List Dt)→Option (List Dt)) (m:Nat) (p ms:List Nat) (M:Nat) (σ:St):=loopAt Tryz.prog env (ct m) J (m+1) 185 44 Tryz.f185 d73 p ms M σ
noncomputable def s73_3 (x0:Int) (x1:Dt) (x2:List Dt):St:=⟨tsOf [(1,(.ptr 0 [] 0)),(3,(.row 1)),(4,(.dat 3 (.int x0)))],[(.box 26 (.dat 26 x1)),(.row 23 x2)],0⟩
noncomputable def s73_8 (x0:Int) (x1:Dt) (x2:List Dt):St:=⟨tsOf [(1,(.ptr 0 [] 0)),(3,(.row 1)),(5,(.dat 3 (.int x0)))],[(.box 26 (.dat 26 x1)),(.row 23 x2)],0⟩
noncomputable def s73_9 (x0:List Dt):St:=⟨tsOf [(3,(.row 0))],[(.row 23 x0)],0⟩
noncomputable def s73_4 (x0:Dt) (x1:List Dt):St:=⟨tsOf [(1,(.ptr 0 [] 0)),(3,(.row 1))],[(.box 26 (.dat 26 x0)),(.row 23 x1)],0⟩
abbrev H73_1 (m M1:Nat) (rec1:Int→Dt→List Dt→Option (List Dt)):Prop:=∀x0 x1 x2,l73 jn m w73_0 [] M1 (s73_3 x0 x1 x2)=rec1 x0 x1 x2
theorem ref01_Parts_j3_eq m M1 rec1 (h1:H73_1 m M1 rec1) x0 x1 x2:e73 jn m w73_1 [M1] (s73_3 x0 x1 x2)=ref01_Parts_j3 m rec1 x0 x1 x2:=
 tre (g:=fun J=>(jj J 1 4 M1 (s73_3 (IntKind.wrap .i64 (x0+1)) x1 x2) (l73 J m w73_0 [] M1))) (fun J=>by kernel_rfl) (by simp only[jj_eq,h1];rfl)
theorem ref01_Parts_j2_eq m M1 rec1 (h1:H73_1 m M1 rec1) x0 x1 x2:e73 jn m w73_2 [M1] (s73_3 x0 x1 x2)=ref01_Parts_j2 m rec1 x0 x1 x2:=
 tre (g:=fun J=>((idx (Dt.L x1 3) x0).bind fun v0=>
  ((app x2 [v0]).bind fun v1=>
  (jj J 0 5 0 (s73_3 x0 x1 v1) (e73 J m w73_1 [M1]))))) (fun J=>by kernel_rfl) (by simp only[jj_eq,ref01_Parts_j3_eq m M1 rec1 h1];rfl)
abbrev H73_6 (m M6:Nat) (rec6:Int→Dt→List Dt→Option (List Dt)):Prop:=∀x0 x1 x2,l73 jn m w73_3 [] M6 (s73_8 x0 x1 x2)=rec6 x0 x1 x2
theorem ref01_Parts_j8_eq m M6 rec6 (h6:H73_6 m M6 rec6) x0 x1 x2:e73 jn m w73_4 [M6] (s73_8 x0 x1 x2)=ref01_Parts_j8 m rec6 x0 x1 x2:=
 tre (g:=fun J=>(jj J 1 9 M6 (s73_8 (IntKind.wrap .i64 (x0+1)) x1 x2) (l73 J m w73_3 [] M6))) (fun J=>by kernel_rfl) (by simp only[jj_eq,h6];rfl)
theorem ref01_Parts_j7_eq m M6 rec6 (h6:H73_6 m M6 rec6) x0 x1 x2:e73 jn m w73_5 [M6] (s73_8 x0 x1 x2)=ref01_Parts_j7 m rec6 x0 x1 x2:=
 tre (g:=fun J=>((idx (Dt.L x1 4) x0).bind fun v2=>
  ((app x2 [(Dt.fld v2 1)]).bind fun v3=>
  (jj J 0 10 0 (s73_8 x0 x1 v3) (e73 J m w73_4 [M6]))))) (fun J=>by kernel_rfl) (by simp only[jj_eq,ref01_Parts_j8_eq m M6 rec6 h6];rfl)
theorem ref01_Parts_j9_eq m x0:e73 jn m [1,1,1,1] [] (s73_9 x0)=ref01_Parts_j9 m x0:=
 tre (g:=fun J=>some x0) (fun J=>by kernel_rfl) (by rfl)
theorem ref01_Parts_l6_eq m:∀M6 x0 x1 x2,l73 jn m w73_3 [] M6 (s73_8 x0 x1 x2)=ref01_Parts_l6 m M6 x0 x1 x2
 |0,_,_,_=>rfl
 | M6+1,x0,x1,x2=>
   trl (g:=fun J=>(bif (decide (x0<(List.length (Dt.L x1 4):Int))) then
  (jj J 0 11 0 (s73_8 x0 x1 x2) (e73 J m w73_5 [M6]))
   else
  (jj J 0 12 0 (s73_9 x2) (e73 J m [1,1,1,1] [])))) (fun J=>by kernel_rfl) (by simp only[jj_eq,ref01_Parts_j7_eq m M6 (ref01_Parts_l6 m M6) (ref01_Parts_l6_eq m M6),ref01_Parts_j9_eq m];rfl)
theorem ref01_Parts_j5_eq m x0 x1 x2:e73 jn m w73_6 [] (s73_8 x0 x1 x2)=ref01_Parts_j5 m x0 x1 x2:=
 tre (g:=fun J=>(jj J 1 9 (Nat.succ m) (s73_8 x0 x1 x2) (l73 J m w73_3 [] (Nat.succ m)))) (fun J=>by kernel_rfl) (by simp only[jj_eq,ref01_Parts_l6_eq m];rfl)
theorem ref01_Parts_j4_eq m x0 x1:e73 jn m [1,1,1] [] (s73_4 x0 x1)=ref01_Parts_j4 m x0 x1:=
 tre (g:=fun J=>(bif ((Dt.I x0 0)==5) then
  (jj J 0 9 0 (s73_8 0 x0 x1) (e73 J m w73_6 []))
   else
  (jj J 0 12 0 (s73_9 x1) (e73 J m [1,1,1,1] [])))) (fun J=>by kernel_rfl) (by simp only[jj_eq,ref01_Parts_j5_eq m,ref01_Parts_j9_eq m];rfl)
theorem ref01_Parts_l1_eq m:∀M1 x0 x1 x2,l73 jn m w73_0 [] M1 (s73_3 x0 x1 x2)=ref01_Parts_l1 m M1 x0 x1 x2
 |0,_,_,_=>rfl
 | M1+1,x0,x1,x2=>
   trl (g:=fun J=>(bif (decide (x0<(List.length (Dt.L x1 3):Int))) then
  (jj J 0 6 0 (s73_3 x0 x1 x2) (e73 J m w73_2 [M1]))
   else
  (jj J 0 7 0 (s73_4 x1 x2) (e73 J m [1,1,1] [])))) (fun J=>by kernel_rfl) (by simp only[jj_eq,ref01_Parts_j2_eq m M1 (ref01_Parts_l1 m M1) (ref01_Parts_l1_eq m M1),ref01_Parts_j4_eq m];rfl)
theorem ref01_Parts_j0_eq m x0 x1 x2:e73 jn m w73_7 [] (s73_3 x0 x1 x2)=ref01_Parts_j0 m x0 x1 x2:=
 tre (g:=fun J=>(jj J 1 4 (Nat.succ m) (s73_3 x0 x1 x2) (l73 J m w73_0 [] (Nat.succ m)))) (fun J=>by kernel_rfl) (by simp only[jj_eq,ref01_Parts_l1_eq m];rfl)
theorem ref01_Parts_eq m a0:e73 jn m [] [] ⟨[(.dat 26 a0)],[],0⟩=ref01_Parts (m+1) a0:=
 tre (g:=fun J=>(bif ((Dt.I a0 0)==6) then
  (jj J 0 4 0 (s73_3 0 a0 []) (e73 J m w73_7 []))
   else
  (jj J 0 7 0 (s73_4 a0 []) (e73 J m [1,1,1] [])))) (fun J=>by kernel_rfl) (by simp only[jj_eq,ref01_Parts_j0_eq m,ref01_Parts_j4_eq m];rfl)
def w65_3:List Nat:=[1,1,1,1,1]
def w65_4:List Nat:=[1,1,1,1,0,1]
def w65_0:List Nat:=w65_4++[0]
def w65_2:List Nat:=w65_0++[0,1]
def w65_1:List Nat:=w65_2++[1]
noncomputable def e65 (J:Nat→Nat→Nat→St→Option Int→Option Int) (m:Nat) (p ms:List Nat) (σ:St):=evAt Tryz.prog env (ct m) J (m+1) 160 34 Tryz.f160 d39 p ms σ
noncomputable def l65 (J:Nat→Nat→Nat→St→Option Int→Option Int) (m:Nat) (p ms:List Nat) (M:Nat) (σ:St):=loopAt Tryz.prog env (ct m) J (m+1) 160 34 Tryz.f160 d39 p ms M σ
noncomputable def s65_5 (x0:Int) (x1:List Dt) (x2 x3:Int):St:=⟨tsOf [(1,(.dat 3 (.int x0))),(5,(.dat 23 (.lst x1))),(6,(.dat 3 (.int x2))),(7,(.dat 3 (.int x3)))],[],0⟩
noncomputable def s65_6 (x0:Int):St:=⟨tsOf [(6,(.dat 3 (.int x0)))],[],0⟩
noncomputable def s65_1 (x0:Int) (x1:List Dt):St:=⟨tsOf [(1,(.dat 3 (.int x0))),(5,(.dat 23 (.lst x1)))],[],0⟩
noncomputable def s65_0 (x0:Int) (x1:List Dt) (x2:Bool):St:=⟨tsOf [(1,(.dat 3 (.int x0))),(5,(.dat 23 (.lst x1))),(16,(.dat 4 (.bool x2)))],[],0⟩
abbrev H65_3 (m M3:Nat) (rec3:Int→List Dt→Int→Int→Option Int):Prop:=∀x0 x1 x2 x3,l65 jn m w65_0 [] M3 (s65_5 x0 x1 x2 x3)=rec3 x0 x1 x2 x3
theorem ref01_levels_j5_eq m M3 rec3 (h3:H65_3 m M3 rec3) x0 x1 x2 x3:e65 jn m w65_1 [M3] (s65_5 x0 x1 x2 x3)=ref01_levels_j5 m (ref01_levels m) rec3 x0 x1 x2 x3:=
 tre (g:=fun J=>(jj J 1 6 M3 (s65_5 x0 x1 x2 (IntKind.wrap .i64 (x3+1))) (l65 J m w65_0 [] M3))) (fun J=>by kernel_rfl) (by simp only[jj_eq,h3];rfl)
theorem ref01_levels_j4_eq m M3 rec3 (h3:H65_3 m M3 rec3) x0 x1 x2 x3:e65 jn m w65_2 [M3] (s65_5 x0 x1 x2 x3)=ref01_levels_j4 m (ref01_levels m) rec3 x0 x1 x2 x3:=
 tre (g:=fun J=>((idx x1 x3).bind fun v1=>
  ((ref01_levels m v1 (IntKind.wrap .i64 (x0-1))).bind fun r2=>
  (jj J 0 7 0 (s65_5 x0 x1 (bif (decide (x2<r2)) then r2 else x2) x3) (e65 J m w65_1 [M3]))))) (fun J=>by kernel_rfl) (by simp only[jj_eq,ref01_levels_j5_eq m M3 rec3 h3];rfl)
theorem ref01_levels_j6_eq m x0:e65 jn m w65_3 [] (s65_6 x0)=ref01_levels_j6 m (ref01_levels m) x0:=
 tre (g:=fun J=>some (IntKind.wrap .i64 (x0+1))) (fun J=>by kernel_rfl) (by rfl)
theorem ref01_levels_l3_eq m:∀M3 x0 x1 x2 x3,l65 jn m w65_0 [] M3 (s65_5 x0 x1 x2 x3)=ref01_levels_l3 m (ref01_levels m) M3 x0 x1 x2 x3
 |0,_,_,_,_=>rfl
 | M3+1,x0,x1,x2,x3=>
   trl (g:=fun J=>(bif (decide (x3<(List.length x1:Int))) then
  (jj J 0 8 0 (s65_5 x0 x1 x2 x3) (e65 J m w65_2 [M3]))
   else
  (jj J 0 9 0 (s65_6 x2) (e65 J m w65_3 [])))) (fun J=>by kernel_rfl) (by simp only[jj_eq,ref01_levels_j4_eq m M3 (ref01_levels_l3 m (ref01_levels m) M3) (ref01_levels_l3_eq m M3),ref01_levels_j6_eq m];rfl)
theorem ref01_levels_j2_eq m x0 x1 x2 x3:e65 jn m w65_4 [] (s65_5 x0 x1 x2 x3)=ref01_levels_j2 m (ref01_levels m) x0 x1 x2 x3:=
 tre (g:=fun J=>(jj J 1 6 (Nat.succ m) (s65_5 x0 x1 x2 x3) (l65 J m w65_0 [] (Nat.succ m)))) (fun J=>by kernel_rfl) (by simp only[jj_eq,ref01_levels_l3_eq m];rfl)
theorem ref01_levels_j1_eq m x0 x1:e65 jn m [1,1,1] [] (s65_1 x0 x1)=ref01_levels_j1 m (ref01_levels m) x0 x1:=
 tre (g:=fun J=>(jj J 0 6 0 (s65_5 x0 x1 0 0) (e65 J m w65_4 []))) (fun J=>by kernel_rfl) (by simp only[jj_eq,ref01_levels_j2_eq m];rfl)
theorem ref01_levels_j0_eq m x0 x1 x2:e65 jn m [1,1,0,1] [] (s65_0 x0 x1 x2)=ref01_levels_j0 m (ref01_levels m) x0 x1 x2:=
 tre (g:=fun J=>(bif x2 then
  some 1
   else
  (jj J 0 4 0 (s65_1 x0 x1) (e65 J m [1,1,1] [])))) (fun J=>by kernel_rfl) (by simp only[jj_eq,ref01_levels_j1_eq m];rfl)
theorem ref01_levels_eq m a0 a1:e65 jn m [] [] ⟨[(.dat 26 a0),(.dat 3 (.int a1))],[],0⟩=ref01_levels (m+1) a0 a1:=
 tre (g:=fun J=>((ref01_Parts m a0).bind fun r0=>
  (bif (decide (a1<2)) then
  (jj J 0 3 0 (s65_0 a1 r0 true) (e65 J m [1,1,0,1] []))
  else
  (jj J 0 3 0 (s65_0 a1 r0 ((List.length r0:Int)==0)) (e65 J m [1,1,0,1] []))))) (fun J=>by kernel_rfl) (by simp only[jj_eq,ref01_levels_j0_eq m];rfl)
noncomputable def e57 (J:Nat→Nat→Nat→St→Option Int→Option Int) (m:Nat) (p ms:List Nat) (σ:St):=evAt Tryz.prog env (ct m) J (m+1) 124 5 Tryz.f124 d39 p ms σ
noncomputable def l57 (J:Nat→Nat→Nat→St→Option Int→Option Int) (m:Nat) (p ms:List Nat) (M:Nat) (σ:St):=loopAt Tryz.prog env (ct m) J (m+1) 124 5 Tryz.f124 d39 p ms M σ
theorem ref01_Depth_eq m a0:e57 jn m [] [] ⟨[(.dat 26 a0)],[],0⟩=ref01_Depth (m+1) a0:=
 tre (g:=fun J=>((ref01_levels m a0 17).bind fun r0=>
  some r0)) (fun J=>by kernel_rfl) (by rfl)
def w66_3:List Nat:=[1,1,1,0,1]
def w66_0:List Nat:=[1,1,1,0,1,0]
def w66_2:List Nat:=w66_0++[0,1]
def w66_1:List Nat:=w66_2++[1]
noncomputable def e66 (J:Nat→Nat→Nat→St→Option Int→Option Int) (m:Nat) (p ms:List Nat) (σ:St):=evAt Tryz.prog env (ct m) J (m+1) 161 32 Tryz.f161 d39 p ms σ
noncomputable def l66 (J:Nat→Nat→Nat→St→Option Int→Option Int) (m:Nat) (p ms:List Nat) (M:Nat) (σ:St):=loopAt Tryz.prog env (ct m) J (m+1) 161 32 Tryz.f161 d39 p ms M σ
noncomputable def s66_3 (x0 x1:Int) (x2:List Dt) (x3:Int):St:=⟨tsOf [(1,(.dat 3 (.int x0))),(5,(.dat 3 (.int x1))),(6,(.dat 23 (.lst x2))),(7,(.dat 3 (.int x3)))],[],0⟩
noncomputable def s66_4 (x0:Int):St:=⟨tsOf [(5,(.dat 3 (.int x0)))],[],0⟩
abbrev H66_1 (m M1:Nat) (rec1:Int→Int→List Dt→Int→Option Int):Prop:=∀x0 x1 x2 x3,l66 jn m w66_0 [] M1 (s66_3 x0 x1 x2 x3)=rec1 x0 x1 x2 x3
theorem ref01_count_j3_eq m M1 rec1 (h1:H66_1 m M1 rec1) x0 x1 x2 x3:e66 jn m w66_1 [M1] (s66_3 x0 x1 x2 x3)=ref01_count_j3 m (ref01_count m) rec1 x0 x1 x2 x3:=
 tre (g:=fun J=>(jj J 1 4 M1 (s66_3 x0 x1 x2 (IntKind.wrap .i64 (x3+1))) (l66 J m w66_0 [] M1))) (fun J=>by kernel_rfl) (by simp only[jj_eq,h1];rfl)
theorem ref01_count_j2_eq m M1 rec1 (h1:H66_1 m M1 rec1) x0 x1 x2 x3:e66 jn m w66_2 [M1] (s66_3 x0 x1 x2 x3)=ref01_count_j2 m (ref01_count m) rec1 x0 x1 x2 x3:=
 tre (g:=fun J=>((idx x2 x3).bind fun v1=>
  ((ref01_count m v1 (IntKind.wrap .i64 (x0-x1))).bind fun r2=>
  (jj J 0 5 0 (s66_3 x0 (IntKind.wrap .i64 (x1+r2)) x2 x3) (e66 J m w66_1 [M1]))))) (fun J=>by kernel_rfl) (by simp only[jj_eq,ref01_count_j3_eq m M1 rec1 h1];rfl)
theorem ref01_count_j4_eq m x0:e66 jn m [1,1,1,1] [] (s66_4 x0)=ref01_count_j4 m (ref01_count m) x0:=
 tre (g:=fun J=>some x0) (fun J=>by kernel_rfl) (by rfl)
theorem ref01_count_l1_eq m:∀M1 x0 x1 x2 x3,l66 jn m w66_0 [] M1 (s66_3 x0 x1 x2 x3)=ref01_count_l1 m (ref01_count m) M1 x0 x1 x2 x3
 |0,_,_,_,_=>rfl
 | M1+1,x0,x1,x2,x3=>
   trl (g:=fun J=>(bif (decide (x3<(List.length x2:Int))) then
  (bif (decide (x1<x0)) then
  (jj J 0 6 0 (s66_3 x0 x1 x2 x3) (e66 J m w66_2 [M1]))
  else
  (jj J 0 7 0 (s66_4 x1) (e66 J m [1,1,1,1] [])))
   else
  (jj J 0 7 0 (s66_4 x1) (e66 J m [1,1,1,1] [])))) (fun J=>by kernel_rfl) (by simp only[jj_eq,ref01_count_j2_eq m M1 (ref01_count_l1 m (ref01_count m) M1) (ref01_count_l1_eq m M1),ref01_count_j4_eq m];rfl)
theorem ref01_count_j0_eq m x0 x1 x2 x3:e66 jn m w66_3 [] (s66_3 x0 x1 x2 x3)=ref01_count_j0 m (ref01_count m) x0 x1 x2 x3:=
 tre (g:=fun J=>(jj J 1 4 (Nat.succ m) (s66_3 x0 x1 x2 x3) (l66 J m w66_0 [] (Nat.succ m)))) (fun J=>by kernel_rfl) (by simp only[jj_eq,ref01_count_l1_eq m];rfl)
theorem ref01_count_eq m a0 a1:e66 jn m [] [] ⟨[(.dat 26 a0),(.dat 3 (.int a1))],[],0⟩=ref01_count (m+1) a0 a1:=
 tre (g:=fun J=>((ref01_Parts m a0).bind fun r0=>
  (jj J 0 4 0 (s66_3 a1 1 r0 0) (e66 J m w66_3 [])))) (fun J=>by kernel_rfl) (by simp only[jj_eq,ref01_count_j0_eq m];rfl)
noncomputable def e58 (J:Nat→Nat→Nat→St→Option Int→Option Int) (m:Nat) (p ms:List Nat) (σ:St):=evAt Tryz.prog env (ct m) J (m+1) 125 5 Tryz.f125 d39 p ms σ
noncomputable def l58 (J:Nat→Nat→Nat→St→Option Int→Option Int) (m:Nat) (p ms:List Nat) (M:Nat) (σ:St):=loopAt Tryz.prog env (ct m) J (m+1) 125 5 Tryz.f125 d39 p ms M σ
theorem ref01_Nodes_eq m a0:e58 jn m [] [] ⟨[(.dat 26 a0)],[],0⟩=ref01_Nodes (m+1) a0:=
 tre (g:=fun J=>((ref01_count m a0 1025).bind fun r0=>
  some r0)) (fun J=>by kernel_rfl) (by rfl)
def w74_0:List Nat:=[1,1,0,1,0]
def w74_3:List Nat:=[1,1,0,1,0,0,1]
def w74_1:List Nat:=w74_3++[1]
def w74_2:List Nat:=w74_3++[0,0,1]
noncomputable def e74 (J:Nat→Nat→Nat→St→Option Bool→Option Bool) (m:Nat) (p ms:List Nat) (σ:St):=evAt Tryz.prog env (ct m) J (m+1) 186 33 Tryz.f186 d17 p ms σ
noncomputable def l74 (J:Nat→Nat→Nat→St→Option Bool→Option Bool) (m:Nat) (p ms:List Nat) (M:Nat) (σ:St):=loopAt Tryz.prog env (ct m) J (m+1) 186 33 Tryz.f186 d17 p ms M σ
noncomputable def s74_5 (x0:ByteArray) (x1 x2 x3:Int):St:=⟨tsOf [(0,(.dat 9 (.str x0))),(1,(.dat 3 (.int x1))),(2,(.dat 3 (.int x2))),(7,(.dat 3 (.int x3)))],[],0⟩
noncomputable def s74_4 (x0:ByteArray) (x1 x2 x3:Int) (x4:Bool):St:=⟨tsOf [(0,(.dat 9 (.str x0))),(1,(.dat 3 (.int x1))),(2,(.dat 3 (.int x2))),(7,(.dat 3 (.int x3))),(32,(.dat 4 (.bool x4)))],[],0⟩
noncomputable def s74_6:St:=⟨tsOf [],[],0⟩
noncomputable def s74_0 (x0:ByteArray) (x1 x2:Int):St:=⟨tsOf [(0,(.dat 9 (.str x0))),(1,(.dat 3 (.int x1))),(2,(.dat 3 (.int x2)))],[],0⟩
abbrev H74_2 (m M2:Nat) (rec2:ByteArray→Int→Int→Int→Option Bool):Prop:=∀x0 x1 x2 x3,l74 jn m w74_0 [] M2 (s74_5 x0 x1 x2 x3)=rec2 x0 x1 x2 x3
theorem ref01_tail_j5_eq m M2 rec2 (h2:H74_2 m M2 rec2) x0 x1 x2 x3:e74 jn m w74_1 [M2] (s74_5 x0 x1 x2 x3)=ref01_tail_j5 m rec2 x0 x1 x2 x3:=
 tre (g:=fun J=>(jj J 1 4 M2 (s74_5 x0 x1 x2 (IntKind.wrap .i64 (x3+1))) (l74 J m w74_0 [] M2))) (fun J=>by kernel_rfl) (by simp only[jj_eq,h2];rfl)
theorem ref01_tail_j4_eq m M2 rec2 (h2:H74_2 m M2 rec2) x0 x1 x2 x3 x4:e74 jn m w74_2 [M2] (s74_4 x0 x1 x2 x3 x4)=ref01_tail_j4 m rec2 x0 x1 x2 x3 x4:=
 tre (g:=fun J=>(bif x4 then
  some false
   else
  (jj J 0 5 0 (s74_5 x0 x1 x2 x3) (e74 J m w74_1 [M2])))) (fun J=>by kernel_rfl) (by simp only[jj_eq,ref01_tail_j5_eq m M2 rec2 h2];rfl)
theorem ref01_tail_j3_eq m M2 rec2 (h2:H74_2 m M2 rec2) x0 x1 x2 x3:e74 jn m w74_3 [M2] (s74_5 x0 x1 x2 x3)=ref01_tail_j3 m rec2 x0 x1 x2 x3:=
 tre (g:=fun J=>((idxS x0 (IntKind.wrap .i64 (x1+x3))).bind fun v0=>
  (bif (decide (v0<128)) then
  (jj J 0 7 0 (s74_4 x0 x1 x2 x3 true) (e74 J m w74_2 [M2]))
  else
  ((idxS x0 (IntKind.wrap .i64 (x1+x3))).bind fun v1=>
  (jj J 0 7 0 (s74_4 x0 x1 x2 x3 (decide (191<v1))) (e74 J m w74_2 [M2])))))) (fun J=>by kernel_rfl) (by simp only[jj_eq,ref01_tail_j4_eq m M2 rec2 h2];rfl)
theorem ref01_tail_j6_eq m:e74 jn m [1,1,1] [] s74_6=ref01_tail_j6 m:=
 tre (g:=fun J=>some true) (fun J=>by kernel_rfl) (by rfl)
theorem ref01_tail_l2_eq m:∀M2 x0 x1 x2 x3,l74 jn m w74_0 [] M2 (s74_5 x0 x1 x2 x3)=ref01_tail_l2 m M2 x0 x1 x2 x3
 |0,_,_,_,_=>rfl
 | M2+1,x0,x1,x2,x3=>
   trl (g:=fun J=>(bif (decide (x3<x2)) then
  (jj J 0 6 0 (s74_5 x0 x1 x2 x3) (e74 J m w74_3 [M2]))
   else
  (jj J 0 8 0 s74_6 (e74 J m [1,1,1] [])))) (fun J=>by kernel_rfl) (by simp only[jj_eq,ref01_tail_j3_eq m M2 (ref01_tail_l2 m M2) (ref01_tail_l2_eq m M2),ref01_tail_j6_eq m];rfl)
theorem ref01_tail_j1_eq m x0 x1 x2 x3:e74 jn m [1,1,0,1] [] (s74_5 x0 x1 x2 x3)=ref01_tail_j1 m x0 x1 x2 x3:=
 tre (g:=fun J=>(jj J 1 4 (Nat.succ m) (s74_5 x0 x1 x2 x3) (l74 J m w74_0 [] (Nat.succ m)))) (fun J=>by kernel_rfl) (by simp only[jj_eq,ref01_tail_l2_eq m];rfl)
theorem ref01_tail_j0_eq m x0 x1 x2:e74 jn m [1,1] [] (s74_0 x0 x1 x2)=ref01_tail_j0 m x0 x1 x2:=
 tre (g:=fun J=>(jj J 0 4 0 (s74_5 x0 x1 x2 0) (e74 J m [1,1,0,1] []))) (fun J=>by kernel_rfl) (by simp only[jj_eq,ref01_tail_j1_eq m];rfl)
theorem ref01_tail_eq m a0 a1 a2:e74 jn m [] [] ⟨[(.dat 9 (.str a0)),(.dat 3 (.int a1)),(.dat 3 (.int a2))],[],0⟩=ref01_tail (m+1) a0 a1 a2:=
 tre (g:=fun J=>(bif (decide ((ByteArray.size a0:Int)<(IntKind.wrap .i64 (a1+a2)))) then
  some false
   else
  (jj J 0 3 0 (s74_0 a0 a1 a2) (e74 J m [1,1] [])))) (fun J=>by kernel_rfl) (by simp only[jj_eq,ref01_tail_j0_eq m];rfl)
def w67_7:List Nat:=[1,0,1,0,0,1]
def w67_3:List Nat:=w67_7++[0,1,1,1]
def w67_2:List Nat:=w67_3++[1]
def w67_0:List Nat:=w67_2++[1]
def w67_1:List Nat:=w67_2++[0,1]
def w67_6:List Nat:=w67_7++[0,1,1,0,0,1,1,1]
def w67_5:List Nat:=w67_6++[1,1]
def w67_4:List Nat:=w67_5++[1,1]
noncomputable def e67 (J:Nat→Nat→Nat→St→Option Bool→Option Bool) (m:Nat) (p ms:List Nat) (σ:St):=evAt Tryz.prog env (ct m) J (m+1) 162 89 Tryz.f162 d17 p ms σ
noncomputable def l67 (J:Nat→Nat→Nat→St→Option Bool→Option Bool) (m:Nat) (p ms:List Nat) (M:Nat) (σ:St):=loopAt Tryz.prog env (ct m) J (m+1) 162 89 Tryz.f162 d17 p ms M σ
noncomputable def s67_6 (x0:ByteArray) (x1 x2:Int):St:=⟨tsOf [(0,(.dat 9 (.str x0))),(3,(.dat 3 (.int x1))),(5,(.dat 3 (.int x2)))],[],0⟩
noncomputable def s67_5 (x0:ByteArray) (x1 x2:Int) (x3:Bool):St:=⟨tsOf [(0,(.dat 9 (.str x0))),(3,(.dat 3 (.int x1))),(5,(.dat 3 (.int x2))),(84,(.dat 4 (.bool x3)))],[],0⟩
noncomputable def s67_4 (x0:ByteArray) (x1 x2 x3:Int):St:=⟨tsOf [(0,(.dat 9 (.str x0))),(3,(.dat 3 (.int x1))),(4,(.dat 5 (.int x2))),(5,(.dat 3 (.int x3)))],[],0⟩
noncomputable def s67_9 (x0:ByteArray) (x1 x2:Int) (x3:Bool):St:=⟨tsOf [(0,(.dat 9 (.str x0))),(3,(.dat 3 (.int x1))),(4,(.dat 5 (.int x2))),(30,(.dat 4 (.bool x3)))],[],0⟩
noncomputable def s67_8 (x0:ByteArray) (x1 x2:Int) (x3:Bool):St:=⟨tsOf [(0,(.dat 9 (.str x0))),(3,(.dat 3 (.int x1))),(4,(.dat 5 (.int x2))),(23,(.dat 4 (.bool x3)))],[],0⟩
noncomputable def s67_7 (x0:ByteArray) (x1 x2:Int) (x3:Bool):St:=⟨tsOf [(0,(.dat 9 (.str x0))),(3,(.dat 3 (.int x1))),(4,(.dat 5 (.int x2))),(16,(.dat 4 (.bool x3)))],[],0⟩
noncomputable def s67_2 (x0:ByteArray) (x1:Int):St:=⟨tsOf [(0,(.dat 9 (.str x0))),(3,(.dat 3 (.int x1)))],[],0⟩
noncomputable def s67_10:St:=⟨tsOf [],[],0⟩
abbrev H67_1 (m M1:Nat) (rec1:ByteArray→Int→Option Bool):Prop:=∀x0 x1,l67 jn m [1,0,1,0] [] M1 (s67_2 x0 x1)=rec1 x0 x1
theorem ref01_UTF8_j6_eq m M1 rec1 (h1:H67_1 m M1 rec1) x0 x1 x2:e67 jn m w67_0 [M1] (s67_6 x0 x1 x2)=ref01_UTF8_j6 m rec1 x0 x1 x2:=
 tre (g:=fun J=>(jj J 1 2 M1 (s67_2 x0 (IntKind.wrap .i64 ((IntKind.wrap .i64 (x1+x2))+1))) (l67 J m [1,0,1,0] [] M1))) (fun J=>by kernel_rfl) (by simp only[jj_eq,h1];rfl)
theorem ref01_UTF8_j5_eq m M1 rec1 (h1:H67_1 m M1 rec1) x0 x1 x2 x3:e67 jn m w67_1 [M1] (s67_5 x0 x1 x2 x3)=ref01_UTF8_j5 m rec1 x0 x1 x2 x3:=
 tre (g:=fun J=>(bif x3 then
  some false
   else
  (jj J 0 17 0 (s67_6 x0 x1 x2) (e67 J m w67_0 [M1])))) (fun J=>by kernel_rfl) (by simp only[jj_eq,ref01_UTF8_j6_eq m M1 rec1 h1];rfl)
theorem ref01_UTF8_j4_eq m M1 rec1 (h1:H67_1 m M1 rec1) x0 x1 x2 x3:e67 jn m w67_2 [M1] (s67_4 x0 x1 x2 x3)=ref01_UTF8_j4 m rec1 x0 x1 x2 x3:=
 tre (g:=fun J=>(bif (x2==224) then
  ((idxS x0 (IntKind.wrap .i64 (x1+1))).bind fun v2=>
  (bif (decide (v2<160)) then
  (jj J 0 16 0 (s67_5 x0 x1 x3 true) (e67 J m w67_1 [M1]))
  else
  (bif (x2==237) then
  ((idxS x0 (IntKind.wrap .i64 (x1+1))).bind fun v3=>
  (bif (decide (159<v3)) then
  (jj J 0 16 0 (s67_5 x0 x1 x3 true) (e67 J m w67_1 [M1]))
  else
  (bif (x2==240) then
  ((idxS x0 (IntKind.wrap .i64 (x1+1))).bind fun v4=>
  (bif (decide (v4<144)) then
  (jj J 0 16 0 (s67_5 x0 x1 x3 true) (e67 J m w67_1 [M1]))
  else
  (bif (x2==244) then
  ((idxS x0 (IntKind.wrap .i64 (x1+1))).bind fun v5=>
  (jj J 0 16 0 (s67_5 x0 x1 x3 (decide (143<v5))) (e67 J m w67_1 [M1])))
  else
  (jj J 0 16 0 (s67_5 x0 x1 x3 false) (e67 J m w67_1 [M1])))))
  else
  (bif (x2==244) then
  ((idxS x0 (IntKind.wrap .i64 (x1+1))).bind fun v6=>
  (jj J 0 16 0 (s67_5 x0 x1 x3 (decide (143<v6))) (e67 J m w67_1 [M1])))
  else
  (jj J 0 16 0 (s67_5 x0 x1 x3 false) (e67 J m w67_1 [M1]))))))
  else
  (bif (x2==240) then
  ((idxS x0 (IntKind.wrap .i64 (x1+1))).bind fun v7=>
  (bif (decide (v7<144)) then
  (jj J 0 16 0 (s67_5 x0 x1 x3 true) (e67 J m w67_1 [M1]))
  else
  (bif (x2==244) then
  ((idxS x0 (IntKind.wrap .i64 (x1+1))).bind fun v8=>
  (jj J 0 16 0 (s67_5 x0 x1 x3 (decide (143<v8))) (e67 J m w67_1 [M1])))
  else
  (jj J 0 16 0 (s67_5 x0 x1 x3 false) (e67 J m w67_1 [M1])))))
  else
  (bif (x2==244) then
  ((idxS x0 (IntKind.wrap .i64 (x1+1))).bind fun v9=>
  (jj J 0 16 0 (s67_5 x0 x1 x3 (decide (143<v9))) (e67 J m w67_1 [M1])))
  else
  (jj J 0 16 0 (s67_5 x0 x1 x3 false) (e67 J m w67_1 [M1])))))))
   else
  (bif (x2==237) then
  ((idxS x0 (IntKind.wrap .i64 (x1+1))).bind fun v10=>
  (bif (decide (159<v10)) then
  (jj J 0 16 0 (s67_5 x0 x1 x3 true) (e67 J m w67_1 [M1]))
  else
  (bif (x2==240) then
  ((idxS x0 (IntKind.wrap .i64 (x1+1))).bind fun v11=>
  (bif (decide (v11<144)) then
  (jj J 0 16 0 (s67_5 x0 x1 x3 true) (e67 J m w67_1 [M1]))
  else
  (bif (x2==244) then
  ((idxS x0 (IntKind.wrap .i64 (x1+1))).bind fun v12=>
  (jj J 0 16 0 (s67_5 x0 x1 x3 (decide (143<v12))) (e67 J m w67_1 [M1])))
  else
  (jj J 0 16 0 (s67_5 x0 x1 x3 false) (e67 J m w67_1 [M1])))))
  else
  (bif (x2==244) then
  ((idxS x0 (IntKind.wrap .i64 (x1+1))).bind fun v13=>
  (jj J 0 16 0 (s67_5 x0 x1 x3 (decide (143<v13))) (e67 J m w67_1 [M1])))
  else
  (jj J 0 16 0 (s67_5 x0 x1 x3 false) (e67 J m w67_1 [M1]))))))
  else
  (bif (x2==240) then
  ((idxS x0 (IntKind.wrap .i64 (x1+1))).bind fun v14=>
  (bif (decide (v14<144)) then
  (jj J 0 16 0 (s67_5 x0 x1 x3 true) (e67 J m w67_1 [M1]))
  else
  (bif (x2==244) then
  ((idxS x0 (IntKind.wrap .i64 (x1+1))).bind fun v15=>
  (jj J 0 16 0 (s67_5 x0 x1 x3 (decide (143<v15))) (e67 J m w67_1 [M1])))
  else
  (jj J 0 16 0 (s67_5 x0 x1 x3 false) (e67 J m w67_1 [M1])))))
  else
  (bif (x2==244) then
  ((idxS x0 (IntKind.wrap .i64 (x1+1))).bind fun v16=>
  (jj J 0 16 0 (s67_5 x0 x1 x3 (decide (143<v16))) (e67 J m w67_1 [M1])))
  else
  (jj J 0 16 0 (s67_5 x0 x1 x3 false) (e67 J m w67_1 [M1]))))))) (fun J=>by kernel_rfl) (by simp only[jj_eq,ref01_UTF8_j5_eq m M1 rec1 h1];rfl)
theorem ref01_UTF8_j3_eq m M1 rec1 (h1:H67_1 m M1 rec1) x0 x1 x2 x3:e67 jn m w67_3 [M1] (s67_4 x0 x1 x2 x3)=ref01_UTF8_j3 m rec1 x0 x1 x2 x3:=
 tre (g:=fun J=>((ref01_tail m x0 (IntKind.wrap .i64 (x1+1)) x3).bind fun r1=>
  (bif (Bool.not r1) then
  some false
  else
  (jj J 0 15 0 (s67_4 x0 x1 x2 x3) (e67 J m w67_2 [M1]))))) (fun J=>by kernel_rfl) (by simp only[jj_eq,ref01_UTF8_j4_eq m M1 rec1 h1];rfl)
theorem ref01_UTF8_j9_eq m M1 rec1 (h1:H67_1 m M1 rec1) x0 x1 x2 x3:e67 jn m w67_4 [M1] (s67_9 x0 x1 x2 x3)=ref01_UTF8_j9 m rec1 x0 x1 x2 x3:=
 tre (g:=fun J=>(bif x3 then
  (jj J 0 13 0 (s67_4 x0 x1 x2 3) (e67 J m w67_3 [M1]))
   else
  some false)) (fun J=>by kernel_rfl) (by simp only[jj_eq,ref01_UTF8_j3_eq m M1 rec1 h1];rfl)
theorem ref01_UTF8_j8_eq m M1 rec1 (h1:H67_1 m M1 rec1) x0 x1 x2 x3:e67 jn m w67_5 [M1] (s67_8 x0 x1 x2 x3)=ref01_UTF8_j8 m rec1 x0 x1 x2 x3:=
 tre (g:=fun J=>(bif x3 then
  (jj J 0 13 0 (s67_4 x0 x1 x2 2) (e67 J m w67_3 [M1]))
   else
  (bif (decide (240≤x2)) then
  (jj J 0 12 0 (s67_9 x0 x1 x2 (decide (x2≤244))) (e67 J m w67_4 [M1]))
  else
  (jj J 0 12 0 (s67_9 x0 x1 x2 false) (e67 J m w67_4 [M1]))))) (fun J=>by kernel_rfl) (by simp only[jj_eq,ref01_UTF8_j3_eq m M1 rec1 h1,ref01_UTF8_j9_eq m M1 rec1 h1];rfl)
theorem ref01_UTF8_j7_eq m M1 rec1 (h1:H67_1 m M1 rec1) x0 x1 x2 x3:e67 jn m w67_6 [M1] (s67_7 x0 x1 x2 x3)=ref01_UTF8_j7 m rec1 x0 x1 x2 x3:=
 tre (g:=fun J=>(bif x3 then
  (jj J 0 13 0 (s67_4 x0 x1 x2 1) (e67 J m w67_3 [M1]))
   else
  (bif (decide (224≤x2)) then
  (jj J 0 10 0 (s67_8 x0 x1 x2 (decide (x2≤239))) (e67 J m w67_5 [M1]))
  else
  (jj J 0 10 0 (s67_8 x0 x1 x2 false) (e67 J m w67_5 [M1]))))) (fun J=>by kernel_rfl) (by simp only[jj_eq,ref01_UTF8_j3_eq m M1 rec1 h1,ref01_UTF8_j8_eq m M1 rec1 h1];rfl)
theorem ref01_UTF8_j2_eq m M1 rec1 (h1:H67_1 m M1 rec1) x0 x1:e67 jn m w67_7 [M1] (s67_2 x0 x1)=ref01_UTF8_j2 m rec1 x0 x1:=
 tre (g:=fun J=>((idxS x0 x1).bind fun v0=>
  (bif (decide (v0<128)) then
  (jj J 0 13 0 (s67_4 x0 x1 v0 0) (e67 J m w67_3 [M1]))
  else
  (bif (decide (194≤v0)) then
  (jj J 0 8 0 (s67_7 x0 x1 v0 (decide (v0≤223))) (e67 J m w67_6 [M1]))
  else
  (jj J 0 8 0 (s67_7 x0 x1 v0 false) (e67 J m w67_6 [M1])))))) (fun J=>by kernel_rfl) (by simp only[jj_eq,ref01_UTF8_j3_eq m M1 rec1 h1,ref01_UTF8_j7_eq m M1 rec1 h1];rfl)
theorem ref01_UTF8_j10_eq m:e67 jn m [1,1] [] s67_10=ref01_UTF8_j10 m:=
 tre (g:=fun J=>some true) (fun J=>by kernel_rfl) (by rfl)
theorem ref01_UTF8_l1_eq m:∀M1 x0 x1,l67 jn m [1,0,1,0] [] M1 (s67_2 x0 x1)=ref01_UTF8_l1 m M1 x0 x1
 |0,_,_=>rfl
 | M1+1,x0,x1=>
   trl (g:=fun J=>(bif (decide (x1<(ByteArray.size x0:Int))) then
  (jj J 0 3 0 (s67_2 x0 x1) (e67 J m w67_7 [M1]))
   else
  (jj J 0 18 0 s67_10 (e67 J m [1,1] [])))) (fun J=>by kernel_rfl) (by simp only[jj_eq,ref01_UTF8_j2_eq m M1 (ref01_UTF8_l1 m M1) (ref01_UTF8_l1_eq m M1),ref01_UTF8_j10_eq m];rfl)
theorem ref01_UTF8_j0_eq m x0 x1:e67 jn m [1,0,1] [] (s67_2 x0 x1)=ref01_UTF8_j0 m x0 x1:=
 tre (g:=fun J=>(jj J 1 2 (Nat.succ m) (s67_2 x0 x1) (l67 J m [1,0,1,0] [] (Nat.succ m)))) (fun J=>by kernel_rfl) (by simp only[jj_eq,ref01_UTF8_l1_eq m];rfl)
theorem ref01_UTF8_eq m a0:e67 jn m [] [] ⟨[(.dat 9 (.str a0))],[],0⟩=ref01_UTF8 (m+1) a0:=
 tre (g:=fun J=>(jj J 0 2 0 (s67_2 a0 0) (e67 J m [1,0,1] []))) (fun J=>by kernel_rfl) (by simp only[jj_eq,ref01_UTF8_j0_eq m];rfl)
def w75_0:List Nat:=[1,1,0,1,0]
def w75_3:List Nat:=[1,1,0,1,0,0,1]
def w75_1:List Nat:=w75_3++[1]
def w75_2:List Nat:=w75_3++[0,0,1]
noncomputable def e75 (J:Nat→Nat→Nat→St→Option Bool→Option Bool) (m:Nat) (p ms:List Nat) (σ:St):=evAt Tryz.prog env (ct m) J (m+1) 187 28 Tryz.f187 d17 p ms σ
noncomputable def l75 (J:Nat→Nat→Nat→St→Option Bool→Option Bool) (m:Nat) (p ms:List Nat) (M:Nat) (σ:St):=loopAt Tryz.prog env (ct m) J (m+1) 187 28 Tryz.f187 d17 p ms M σ
noncomputable def s75_6 (x0:ByteArray) (x1:Int):St:=⟨tsOf [(0,(.dat 9 (.str x0))),(3,(.dat 3 (.int x1)))],[],0⟩
noncomputable def s75_5 (x0:ByteArray) (x1:Int) (x2:Bool):St:=⟨tsOf [(0,(.dat 9 (.str x0))),(3,(.dat 3 (.int x1))),(27,(.dat 4 (.bool x2)))],[],0⟩
noncomputable def s75_7:St:=⟨tsOf [],[],0⟩
noncomputable def s75_1 (x0:ByteArray):St:=⟨tsOf [(0,(.dat 9 (.str x0)))],[],0⟩
noncomputable def s75_0 (x0:ByteArray) (x1:Bool):St:=⟨tsOf [(0,(.dat 9 (.str x0))),(11,(.dat 4 (.bool x1)))],[],0⟩
abbrev H75_3 (m M3:Nat) (rec3:ByteArray→Int→Option Bool):Prop:=∀x0 x1,l75 jn m w75_0 [] M3 (s75_6 x0 x1)=rec3 x0 x1
theorem ref01_wide_j6_eq m M3 rec3 (h3:H75_3 m M3 rec3) x0 x1:e75 jn m w75_1 [M3] (s75_6 x0 x1)=ref01_wide_j6 m rec3 x0 x1:=
 tre (g:=fun J=>(jj J 1 4 M3 (s75_6 x0 (IntKind.wrap .i64 (x1+1))) (l75 J m w75_0 [] M3))) (fun J=>by kernel_rfl) (by simp only[jj_eq,h3];rfl)
theorem ref01_wide_j5_eq m M3 rec3 (h3:H75_3 m M3 rec3) x0 x1 x2:e75 jn m w75_2 [M3] (s75_5 x0 x1 x2)=ref01_wide_j5 m rec3 x0 x1 x2:=
 tre (g:=fun J=>(bif x2 then
  some false
   else
  (jj J 0 5 0 (s75_6 x0 x1) (e75 J m w75_1 [M3])))) (fun J=>by kernel_rfl) (by simp only[jj_eq,ref01_wide_j6_eq m M3 rec3 h3];rfl)
theorem ref01_wide_j4_eq m M3 rec3 (h3:H75_3 m M3 rec3) x0 x1:e75 jn m w75_3 [M3] (s75_6 x0 x1)=ref01_wide_j4 m rec3 x0 x1:=
 tre (g:=fun J=>((idxS x0 x1).bind fun v0=>
  (bif (decide (v0<32)) then
  (jj J 0 7 0 (s75_5 x0 x1 true) (e75 J m w75_2 [M3]))
  else
  ((idxS x0 x1).bind fun v1=>
  (jj J 0 7 0 (s75_5 x0 x1 (decide (126<v1))) (e75 J m w75_2 [M3])))))) (fun J=>by kernel_rfl) (by simp only[jj_eq,ref01_wide_j5_eq m M3 rec3 h3];rfl)
theorem ref01_wide_j7_eq m:e75 jn m [1,1,1] [] s75_7=ref01_wide_j7 m:=
 tre (g:=fun J=>some true) (fun J=>by kernel_rfl) (by rfl)
theorem ref01_wide_l3_eq m:∀M3 x0 x1,l75 jn m w75_0 [] M3 (s75_6 x0 x1)=ref01_wide_l3 m M3 x0 x1
 |0,_,_=>rfl
 | M3+1,x0,x1=>
   trl (g:=fun J=>(bif (decide (x1<(ByteArray.size x0:Int))) then
  (jj J 0 6 0 (s75_6 x0 x1) (e75 J m w75_3 [M3]))
   else
  (jj J 0 8 0 s75_7 (e75 J m [1,1,1] [])))) (fun J=>by kernel_rfl) (by simp only[jj_eq,ref01_wide_j4_eq m M3 (ref01_wide_l3 m M3) (ref01_wide_l3_eq m M3),ref01_wide_j7_eq m];rfl)
theorem ref01_wide_j2_eq m x0 x1:e75 jn m [1,1,0,1] [] (s75_6 x0 x1)=ref01_wide_j2 m x0 x1:=
 tre (g:=fun J=>(jj J 1 4 (Nat.succ m) (s75_6 x0 x1) (l75 J m w75_0 [] (Nat.succ m)))) (fun J=>by kernel_rfl) (by simp only[jj_eq,ref01_wide_l3_eq m];rfl)
theorem ref01_wide_j1_eq m x0:e75 jn m [1,1] [] (s75_1 x0)=ref01_wide_j1 m x0:=
 tre (g:=fun J=>(jj J 0 4 0 (s75_6 x0 0) (e75 J m [1,1,0,1] []))) (fun J=>by kernel_rfl) (by simp only[jj_eq,ref01_wide_j2_eq m];rfl)
theorem ref01_wide_j0_eq m x0 x1:e75 jn m [1,0,1] [] (s75_0 x0 x1)=ref01_wide_j0 m x0 x1:=
 tre (g:=fun J=>(bif x1 then
  some false
   else
  (jj J 0 3 0 (s75_1 x0) (e75 J m [1,1] [])))) (fun J=>by kernel_rfl) (by simp only[jj_eq,ref01_wide_j1_eq m];rfl)
theorem ref01_wide_eq m a0:e75 jn m [] [] ⟨[(.dat 9 (.str a0))],[],0⟩=ref01_wide (m+1) a0:=
 tre (g:=fun J=>(bif (decide ((ByteArray.size a0:Int)<1)) then
  (jj J 0 2 0 (s75_0 a0 true) (e75 J m [1,0,1] []))
   else
  (jj J 0 2 0 (s75_0 a0 (decide (128<(ByteArray.size a0:Int)))) (e75 J m [1,0,1] [])))) (fun J=>by kernel_rfl) (by simp only[jj_eq,ref01_wide_j0_eq m];rfl)
def w59_6:List Nat:=[1,1,1,1,1]
def w59_5:List Nat:=[1,1,1,1,1,1]
def w59_7:List Nat:=[1,1,1,1,0,1]
def w59_3:List Nat:=w59_5++[1]
def w59_4:List Nat:=w59_5++[0,1]
def w59_0:List Nat:=w59_4++[0]
def w59_2:List Nat:=w59_0++[0,1]
def w59_1:List Nat:=w59_2++[1]
noncomputable def e59 (J:Nat→Nat→Nat→St→Option Bool→Option Bool) (m:Nat) (p ms:List Nat) (σ:St):=evAt Tryz.prog env (ct m) J (m+1) 126 138 Tryz.f126 d17 p ms σ
noncomputable def l59 (J:Nat→Nat→Nat→St→Option Bool→Option Bool) (m:Nat) (p ms:List Nat) (M:Nat) (σ:St):=loopAt Tryz.prog env (ct m) J (m+1) 126 138 Tryz.f126 d17 p ms M σ
noncomputable def s59_10 (x0:Bool) (x1:Int) (x2:Dt):St:=⟨tsOf [(1,(.dat 4 (.bool x0))),(2,(.ptr 0 [] 0)),(7,(.dat 3 (.int x1)))],[(.box 26 (.dat 26 x2))],0⟩
noncomputable def s59_11 (x0:Bool) (x1:Dt):St:=⟨tsOf [(1,(.dat 4 (.bool x0))),(2,(.ptr 0 [] 0))],[(.box 26 (.dat 26 x1))],0⟩
noncomputable def s59_4 (x0 x1:Bool) (x2:Dt):St:=⟨tsOf [(1,(.dat 4 (.bool x0))),(2,(.ptr 0 [] 0)),(79,(.dat 4 (.bool x1)))],[(.box 26 (.dat 26 x2))],0⟩
noncomputable def s59_3 (x0 x1 x2:Bool) (x3:Dt):St:=⟨tsOf [(1,(.dat 4 (.bool x0))),(2,(.ptr 0 [] 0)),(5,(.dat 4 (.bool x1))),(6,(.dat 4 (.bool x2)))],[(.box 26 (.dat 26 x3))],0⟩
noncomputable def s59_2 (x0 x1:Bool) (x2:Dt):St:=⟨tsOf [(1,(.dat 4 (.bool x0))),(2,(.ptr 0 [] 0)),(5,(.dat 4 (.bool x1)))],[(.box 26 (.dat 26 x2))],0⟩
noncomputable def s59_0 (x0 x1:Bool) (x2:Dt):St:=⟨tsOf [(1,(.dat 4 (.bool x0))),(2,(.ptr 0 [] 0)),(27,(.dat 4 (.bool x1)))],[(.box 26 (.dat 26 x2))],0⟩
abbrev H59_8 (m M8:Nat) (rec8:Bool→Int→Dt→Option Bool):Prop:=∀x0 x1 x2,l59 jn m w59_0 [] M8 (s59_10 x0 x1 x2)=rec8 x0 x1 x2
theorem ref01_formed_j10_eq m M8 rec8 (h8:H59_8 m M8 rec8) x0 x1 x2:e59 jn m w59_1 [M8] (s59_10 x0 x1 x2)=ref01_formed_j10 m (ref01_formed m) (ref01_fields m) rec8 x0 x1 x2:=
 tre (g:=fun J=>(jj J 1 19 M8 (s59_10 x0 (IntKind.wrap .i64 (x1+1)) x2) (l59 J m w59_0 [] M8))) (fun J=>by kernel_rfl) (by simp only[jj_eq,h8];rfl)
theorem ref01_formed_j9_eq m M8 rec8 (h8:H59_8 m M8 rec8) x0 x1 x2:e59 jn m w59_2 [M8] (s59_10 x0 x1 x2)=ref01_formed_j9 m (ref01_formed m) (ref01_fields m) rec8 x0 x1 x2:=
 tre (g:=fun J=>((idx (Dt.L x2 3) x1).bind fun v1=>
  ((ref01_formed m v1 x0).bind fun r2=>
  (bif (Bool.not r2) then
  some false
  else
  (jj J 0 20 0 (s59_10 x0 x1 x2) (e59 J m w59_1 [M8])))))) (fun J=>by kernel_rfl) (by simp only[jj_eq,ref01_formed_j10_eq m M8 rec8 h8];rfl)
theorem ref01_formed_j11_eq m x0 x1:e59 jn m w59_3 [] (s59_11 x0 x1)=ref01_formed_j11 m (ref01_formed m) (ref01_fields m) x0 x1:=
 tre (g:=fun J=>((ref01_fields m x1 x0).bind fun r3=>
  some r3)) (fun J=>by kernel_rfl) (by rfl)
theorem ref01_formed_l8_eq m:∀M8 x0 x1 x2,l59 jn m w59_0 [] M8 (s59_10 x0 x1 x2)=ref01_formed_l8 m (ref01_formed m) (ref01_fields m) M8 x0 x1 x2
 |0,_,_,_=>rfl
 | M8+1,x0,x1,x2=>
   trl (g:=fun J=>(bif (decide (x1<(List.length (Dt.L x2 3):Int))) then
  (jj J 0 21 0 (s59_10 x0 x1 x2) (e59 J m w59_2 [M8]))
   else
  (jj J 0 23 0 (s59_11 x0 x2) (e59 J m w59_3 [])))) (fun J=>by kernel_rfl) (by simp only[jj_eq,ref01_formed_j9_eq m M8 (ref01_formed_l8 m (ref01_formed m) (ref01_fields m) M8) (ref01_formed_l8_eq m M8),ref01_formed_j11_eq m];rfl)
theorem ref01_formed_j7_eq m x0 x1 x2:e59 jn m w59_4 [] (s59_10 x0 x1 x2)=ref01_formed_j7 m (ref01_formed m) (ref01_fields m) x0 x1 x2:=
 tre (g:=fun J=>(jj J 1 19 (Nat.succ m) (s59_10 x0 x1 x2) (l59 J m w59_0 [] (Nat.succ m)))) (fun J=>by kernel_rfl) (by simp only[jj_eq,ref01_formed_l8_eq m];rfl)
theorem ref01_formed_j6_eq m x0 x1:e59 jn m w59_5 [] (s59_11 x0 x1)=ref01_formed_j6 m (ref01_formed m) (ref01_fields m) x0 x1:=
 tre (g:=fun J=>(jj J 0 19 0 (s59_10 x0 0 x1) (e59 J m w59_4 []))) (fun J=>by kernel_rfl) (by simp only[jj_eq,ref01_formed_j7_eq m];rfl)
theorem ref01_formed_j5_eq m x0 x1:e59 jn m w59_6 [] (s59_11 x0 x1)=ref01_formed_j5 m (ref01_formed m) (ref01_fields m) x0 x1:=
 tre (g:=fun J=>(bif ((Dt.I x1 0)==9) then
  (bif ((Dt.I x1 1)==0) then
  some true
  else
  some ((Dt.I x1 1)==1))
   else
  (bif ((Dt.I x1 0)==10) then
  some (decide (0≤(Dt.I x1 1)))
  else
  (bif ((Dt.I x1 0)==4) then
  (bif (decide ((ByteArray.size (Dt.S x1 2):Int)≤4096)) then
  ((ref01_UTF8 m (Dt.S x1 2)).bind fun r0=>
  some r0)
  else
  some false)
  else
  (bif ((Dt.I x1 0)==7) then
  some (decide ((ByteArray.size (Dt.S x1 2):Int)≤4096))
  else
  (bif ((Dt.I x1 0)==8) then
  some ((ByteArray.size (Dt.S x1 2):Int)==12)
  else
  (jj J 0 18 0 (s59_11 x0 x1) (e59 J m w59_5 [])))))))) (fun J=>by kernel_rfl) (by simp only[jj_eq,ref01_formed_j6_eq m];rfl)
theorem ref01_formed_j4_eq m x0 x1 x2:e59 jn m w59_7 [] (s59_4 x0 x1 x2)=ref01_formed_j4 m (ref01_formed m) (ref01_fields m) x0 x1 x2:=
 tre (g:=fun J=>(bif x1 then
  some false
   else
  (jj J 0 7 0 (s59_11 x0 x2) (e59 J m w59_6 [])))) (fun J=>by kernel_rfl) (by simp only[jj_eq,ref01_formed_j5_eq m];rfl)
theorem ref01_formed_j3_eq m x0 x1 x2 x3:e59 jn m [1,1,1,1] [] (s59_3 x0 x1 x2 x3)=ref01_formed_j3 m (ref01_formed m) (ref01_fields m) x0 x1 x2 x3:=
 tre (g:=fun J=>(bif (Bool.not x1) then
  (bif (Bool.not ((ByteArray.toList (Dt.S x3 2))==[])) then
  (jj J 0 6 0 (s59_4 x0 true x3) (e59 J m w59_7 []))
  else
  (bif (Bool.not x2) then
  (bif ((Dt.I x3 1) !=0) then
  (jj J 0 6 0 (s59_4 x0 true x3) (e59 J m w59_7 []))
  else
  (bif (decide ((Dt.I x3 0)<1)) then
  (jj J 0 6 0 (s59_4 x0 true x3) (e59 J m w59_7 []))
  else
  (jj J 0 6 0 (s59_4 x0 (decide (11<(Dt.I x3 0))) x3) (e59 J m w59_7 []))))
  else
  (bif (decide ((Dt.I x3 0)<1)) then
  (jj J 0 6 0 (s59_4 x0 true x3) (e59 J m w59_7 []))
  else
  (jj J 0 6 0 (s59_4 x0 (decide (11<(Dt.I x3 0))) x3) (e59 J m w59_7 [])))))
   else
  (bif (Bool.not x2) then
  (bif ((Dt.I x3 1) !=0) then
  (jj J 0 6 0 (s59_4 x0 true x3) (e59 J m w59_7 []))
  else
  (bif (decide ((Dt.I x3 0)<1)) then
  (jj J 0 6 0 (s59_4 x0 true x3) (e59 J m w59_7 []))
  else
  (jj J 0 6 0 (s59_4 x0 (decide (11<(Dt.I x3 0))) x3) (e59 J m w59_7 []))))
  else
  (bif (decide ((Dt.I x3 0)<1)) then
  (jj J 0 6 0 (s59_4 x0 true x3) (e59 J m w59_7 []))
  else
  (jj J 0 6 0 (s59_4 x0 (decide (11<(Dt.I x3 0))) x3) (e59 J m w59_7 [])))))) (fun J=>by kernel_rfl) (by simp only[jj_eq,ref01_formed_j4_eq m];rfl)
theorem ref01_formed_j2_eq m x0 x1 x2:e59 jn m [1,1,1] [] (s59_2 x0 x1 x2)=ref01_formed_j2 m (ref01_formed m) (ref01_fields m) x0 x1 x2:=
 tre (g:=fun J=>(bif ((Dt.I x2 0)==3) then
  (jj J 0 5 0 (s59_3 x0 x1 true x2) (e59 J m [1,1,1,1] []))
   else
  (bif ((Dt.I x2 0)==9) then
  (jj J 0 5 0 (s59_3 x0 x1 true x2) (e59 J m [1,1,1,1] []))
  else
  (jj J 0 5 0 (s59_3 x0 x1 ((Dt.I x2 0)==10) x2) (e59 J m [1,1,1,1] []))))) (fun J=>by kernel_rfl) (by simp only[jj_eq,ref01_formed_j3_eq m];rfl)
theorem ref01_formed_j1_eq m x0 x1:e59 jn m [1,1] [] (s59_11 x0 x1)=ref01_formed_j1 m (ref01_formed m) (ref01_fields m) x0 x1:=
 tre (g:=fun J=>(bif ((Dt.I x1 0)==4) then
  (jj J 0 4 0 (s59_2 x0 true x1) (e59 J m [1,1,1] []))
   else
  (bif ((Dt.I x1 0)==7) then
  (jj J 0 4 0 (s59_2 x0 true x1) (e59 J m [1,1,1] []))
  else
  (jj J 0 4 0 (s59_2 x0 ((Dt.I x1 0)==8) x1) (e59 J m [1,1,1] []))))) (fun J=>by kernel_rfl) (by simp only[jj_eq,ref01_formed_j2_eq m];rfl)
theorem ref01_formed_j0_eq m x0 x1 x2:e59 jn m [1,0,1] [] (s59_0 x0 x1 x2)=ref01_formed_j0 m (ref01_formed m) (ref01_fields m) x0 x1 x2:=
 tre (g:=fun J=>(bif x1 then
  some false
   else
  (jj J 0 3 0 (s59_11 x0 x2) (e59 J m [1,1] [])))) (fun J=>by kernel_rfl) (by simp only[jj_eq,ref01_formed_j1_eq m];rfl)
theorem ref01_formed_eq m a0 a1:e59 jn m [] [] ⟨[(.dat 26 a0),(.dat 4 (.bool a1))],[],0⟩=ref01_formed (m+1) a0 a1:=
 tre (g:=fun J=>(bif ((Dt.I a0 0) !=6) then
  (bif (decide (0<(List.length (Dt.L a0 3):Int))) then
  (jj J 0 2 0 (s59_0 a1 true a0) (e59 J m [1,0,1] []))
  else
  (bif ((Dt.I a0 0) !=5) then
  (jj J 0 2 0 (s59_0 a1 (decide (0<(List.length (Dt.L a0 4):Int))) a0) (e59 J m [1,0,1] []))
  else
  (jj J 0 2 0 (s59_0 a1 false a0) (e59 J m [1,0,1] []))))
   else
  (bif ((Dt.I a0 0) !=5) then
  (jj J 0 2 0 (s59_0 a1 (decide (0<(List.length (Dt.L a0 4):Int))) a0) (e59 J m [1,0,1] []))
  else
  (jj J 0 2 0 (s59_0 a1 false a0) (e59 J m [1,0,1] []))))) (fun J=>by kernel_rfl) (by simp only[jj_eq,ref01_formed_j0_eq m];rfl)
def w68_7:List Nat:=[1,0,1,0,0,1]
def w68_3:List Nat:=w68_7++[1]
def w68_5:List Nat:=w68_7++[0,0,1,1]
def w68_4:List Nat:=w68_5++[1]
def w68_6:List Nat:=w68_7++[0,0,1,0,1]
def w68_0:List Nat:=w68_4++[0]
def w68_2:List Nat:=w68_0++[0,1]
def w68_1:List Nat:=w68_2++[1]
noncomputable def e68 (J:Nat→Nat→Nat→St→Option Bool→Option Bool) (m:Nat) (p ms:List Nat) (σ:St):=evAt Tryz.prog env (ct m) J (m+1) 163 58 Tryz.f163 d17 p ms σ
noncomputable def l68 (J:Nat→Nat→Nat→St→Option Bool→Option Bool) (m:Nat) (p ms:List Nat) (M:Nat) (σ:St):=loopAt Tryz.prog env (ct m) J (m+1) 163 58 Tryz.f163 d17 p ms M σ
noncomputable def s68_8 (x0:Bool) (x1 x2:Int) (x3 x4:Dt):St:=⟨tsOf [(1,(.dat 4 (.bool x0))),(2,(.ptr 0 [] 0)),(5,(.dat 3 (.int x1))),(6,(.ptr 1 [] 0)),(7,(.dat 3 (.int x2)))],[(.box 26 (.dat 26 x3)),(.box 66 (.dat 66 x4))],0⟩
noncomputable def s68_9 (x0:Bool) (x1:Int) (x2:Dt):St:=⟨tsOf [(1,(.dat 4 (.bool x0))),(2,(.ptr 0 [] 0)),(5,(.dat 3 (.int x1)))],[(.box 26 (.dat 26 x2))],0⟩
noncomputable def s68_4 (x0:Bool) (x1:Int) (x2 x3:Dt):St:=⟨tsOf [(1,(.dat 4 (.bool x0))),(2,(.ptr 0 [] 0)),(5,(.dat 3 (.int x1))),(6,(.ptr 1 [] 0))],[(.box 26 (.dat 26 x2)),(.box 66 (.dat 66 x3))],0⟩
noncomputable def s68_3 (x0:Bool) (x1:Int) (x2:Bool) (x3 x4:Dt):St:=⟨tsOf [(1,(.dat 4 (.bool x0))),(2,(.ptr 0 [] 0)),(5,(.dat 3 (.int x1))),(6,(.ptr 1 [] 0)),(43,(.dat 4 (.bool x2)))],[(.box 26 (.dat 26 x3)),(.box 66 (.dat 66 x4))],0⟩
noncomputable def s68_10:St:=⟨tsOf [],[],0⟩
abbrev H68_1 (m M1:Nat) (rec1:Bool→Int→Dt→Option Bool):Prop:=∀x0 x1 x2,l68 jn m [1,0,1,0] [] M1 (s68_9 x0 x1 x2)=rec1 x0 x1 x2
abbrev H68_6 (m M1 M6:Nat) (rec6:Bool→Int→Int→Dt→Dt→Option Bool):Prop:=∀x0 x1 x2 x3 x4,l68 jn m w68_0 [M1] M6 (s68_8 x0 x1 x2 x3 x4)=rec6 x0 x1 x2 x3 x4
theorem ref01_fields_j8_eq m M1 rec1 (h1:H68_1 m M1 rec1) M6 rec6 (h6:H68_6 m M1 M6 rec6) x0 x1 x2 x3 x4:e68 jn m w68_1 [M1,M6] (s68_8 x0 x1 x2 x3 x4)=ref01_fields_j8 m (ref01_formed m) rec1 rec6 x0 x1 x2 x3 x4:=
 tre (g:=fun J=>(jj J 1 8 M6 (s68_8 x0 x1 (IntKind.wrap .i64 (x2+1)) x3 x4) (l68 J m w68_0 [M1] M6))) (fun J=>by kernel_rfl) (by simp only[jj_eq,h6];rfl)
theorem ref01_fields_j7_eq m M1 rec1 (h1:H68_1 m M1 rec1) M6 rec6 (h6:H68_6 m M1 M6 rec6) x0 x1 x2 x3 x4:e68 jn m w68_2 [M1,M6] (s68_8 x0 x1 x2 x3 x4)=ref01_fields_j7 m (ref01_formed m) rec1 rec6 x0 x1 x2 x3 x4:=
 tre (g:=fun J=>((idx (Dt.L x3 4) x2).bind fun v2=>
  (bif ((ByteArray.toList (Dt.S v2 0))==(ByteArray.toList (Dt.S x4 0))) then
  some false
  else
  (jj J 0 9 0 (s68_8 x0 x1 x2 x3 x4) (e68 J m w68_1 [M1,M6]))))) (fun J=>by kernel_rfl) (by simp only[jj_eq,ref01_fields_j8_eq m M1 rec1 h1 M6 rec6 h6];rfl)
theorem ref01_fields_j9_eq m M1 rec1 (h1:H68_1 m M1 rec1) x0 x1 x2:e68 jn m w68_3 [M1] (s68_9 x0 x1 x2)=ref01_fields_j9 m (ref01_formed m) rec1 x0 x1 x2:=
 tre (g:=fun J=>(jj J 1 2 M1 (s68_9 x0 (IntKind.wrap .i64 (x1+1)) x2) (l68 J m [1,0,1,0] [] M1))) (fun J=>by kernel_rfl) (by simp only[jj_eq,h1];rfl)
theorem ref01_fields_l6_eq m M1 rec1 (h1:H68_1 m M1 rec1):∀M6 x0 x1 x2 x3 x4,l68 jn m w68_0 [M1] M6 (s68_8 x0 x1 x2 x3 x4)=ref01_fields_l6 m (ref01_formed m) rec1 M6 x0 x1 x2 x3 x4
 |0,_,_,_,_,_=>rfl
 | M6+1,x0,x1,x2,x3,x4=>
   trl (g:=fun J=>(bif (decide (x2<x1)) then
  (jj J 0 10 0 (s68_8 x0 x1 x2 x3 x4) (e68 J m w68_2 [M1,M6]))
   else
  (jj J 0 3 0 (s68_9 x0 x1 x3) (e68 J m w68_3 [M1])))) (fun J=>by kernel_rfl) (by simp only[jj_eq,ref01_fields_j7_eq m M1 rec1 h1 M6 (ref01_fields_l6 m (ref01_formed m) rec1 M6) (ref01_fields_l6_eq m M1 rec1 h1 M6),ref01_fields_j9_eq m M1 rec1 h1];rfl)
theorem ref01_fields_j5_eq m M1 rec1 (h1:H68_1 m M1 rec1) x0 x1 x2 x3 x4:e68 jn m w68_4 [M1] (s68_8 x0 x1 x2 x3 x4)=ref01_fields_j5 m (ref01_formed m) rec1 x0 x1 x2 x3 x4:=
 tre (g:=fun J=>(jj J 1 8 (Nat.succ m) (s68_8 x0 x1 x2 x3 x4) (l68 J m w68_0 [M1] (Nat.succ m)))) (fun J=>by kernel_rfl) (by simp only[jj_eq,ref01_fields_l6_eq m M1 rec1 h1];rfl)
theorem ref01_fields_j4_eq m M1 rec1 (h1:H68_1 m M1 rec1) x0 x1 x2 x3:e68 jn m w68_5 [M1] (s68_4 x0 x1 x2 x3)=ref01_fields_j4 m (ref01_formed m) rec1 x0 x1 x2 x3:=
 tre (g:=fun J=>(jj J 0 8 0 (s68_8 x0 x1 0 x2 x3) (e68 J m w68_4 [M1]))) (fun J=>by kernel_rfl) (by simp only[jj_eq,ref01_fields_j5_eq m M1 rec1 h1];rfl)
theorem ref01_fields_j3_eq m M1 rec1 (h1:H68_1 m M1 rec1) x0 x1 x2 x3 x4:e68 jn m w68_6 [M1] (s68_3 x0 x1 x2 x3 x4)=ref01_fields_j3 m (ref01_formed m) rec1 x0 x1 x2 x3 x4:=
 tre (g:=fun J=>(bif x2 then
  some false
   else
  (jj J 0 7 0 (s68_4 x0 x1 x3 x4) (e68 J m w68_5 [M1])))) (fun J=>by kernel_rfl) (by simp only[jj_eq,ref01_fields_j4_eq m M1 rec1 h1];rfl)
theorem ref01_fields_j2_eq m M1 rec1 (h1:H68_1 m M1 rec1) x0 x1 x2:e68 jn m w68_7 [M1] (s68_9 x0 x1 x2)=ref01_fields_j2 m (ref01_formed m) rec1 x0 x1 x2:=
 tre (g:=fun J=>((idx (Dt.L x2 4) x1).bind fun v0=>
  (bif x0 then
  ((ref01_Name m (Dt.S v0 0)).bind fun r1=>
  (bif (Bool.not r1) then
  (jj J 0 6 0 (s68_3 x0 x1 true x2 v0) (e68 J m w68_6 [M1]))
  else
  (bif (Bool.not x0) then
  ((ref01_wide m (Dt.S v0 0)).bind fun r3=>
  (bif (Bool.not r3) then
  (jj J 0 6 0 (s68_3 x0 x1 true x2 v0) (e68 J m w68_6 [M1]))
  else
  ((ref01_formed m (Dt.fld v0 1) x0).bind fun r4=>
  (jj J 0 6 0 (s68_3 x0 x1 (Bool.not r4) x2 v0) (e68 J m w68_6 [M1])))))
  else
  ((ref01_formed m (Dt.fld v0 1) x0).bind fun r5=>
  (jj J 0 6 0 (s68_3 x0 x1 (Bool.not r5) x2 v0) (e68 J m w68_6 [M1]))))))
  else
  (bif (Bool.not x0) then
  ((ref01_wide m (Dt.S v0 0)).bind fun r6=>
  (bif (Bool.not r6) then
  (jj J 0 6 0 (s68_3 x0 x1 true x2 v0) (e68 J m w68_6 [M1]))
  else
  ((ref01_formed m (Dt.fld v0 1) x0).bind fun r7=>
  (jj J 0 6 0 (s68_3 x0 x1 (Bool.not r7) x2 v0) (e68 J m w68_6 [M1])))))
  else
  ((ref01_formed m (Dt.fld v0 1) x0).bind fun r8=>
  (jj J 0 6 0 (s68_3 x0 x1 (Bool.not r8) x2 v0) (e68 J m w68_6 [M1]))))))) (fun J=>by kernel_rfl) (by simp only[jj_eq,ref01_fields_j3_eq m M1 rec1 h1];rfl)
theorem ref01_fields_j10_eq m:e68 jn m [1,1] [] s68_10=ref01_fields_j10 m (ref01_formed m):=
 tre (g:=fun J=>some true) (fun J=>by kernel_rfl) (by rfl)
theorem ref01_fields_l1_eq m:∀M1 x0 x1 x2,l68 jn m [1,0,1,0] [] M1 (s68_9 x0 x1 x2)=ref01_fields_l1 m (ref01_formed m) M1 x0 x1 x2
 |0,_,_,_=>rfl
 | M1+1,x0,x1,x2=>
   trl (g:=fun J=>(bif (decide (x1<(List.length (Dt.L x2 4):Int))) then
  (jj J 0 4 0 (s68_9 x0 x1 x2) (e68 J m w68_7 [M1]))
   else
  (jj J 0 12 0 s68_10 (e68 J m [1,1] [])))) (fun J=>by kernel_rfl) (by simp only[jj_eq,ref01_fields_j2_eq m M1 (ref01_fields_l1 m (ref01_formed m) M1) (ref01_fields_l1_eq m M1),ref01_fields_j10_eq m];rfl)
theorem ref01_fields_j0_eq m x0 x1 x2:e68 jn m [1,0,1] [] (s68_9 x0 x1 x2)=ref01_fields_j0 m (ref01_formed m) x0 x1 x2:=
 tre (g:=fun J=>(jj J 1 2 (Nat.succ m) (s68_9 x0 x1 x2) (l68 J m [1,0,1,0] [] (Nat.succ m)))) (fun J=>by kernel_rfl) (by simp only[jj_eq,ref01_fields_l1_eq m];rfl)
theorem ref01_fields_eq m a0 a1:e68 jn m [] [] ⟨[(.dat 26 a0),(.dat 4 (.bool a1))],[],0⟩=ref01_fields (m+1) a0 a1:=
 tre (g:=fun J=>(jj J 0 2 0 (s68_9 a1 0 a0) (e68 J m [1,0,1] []))) (fun J=>by kernel_rfl) (by simp only[jj_eq,ref01_fields_j0_eq m];rfl)
noncomputable def e45 (J:Nat→Nat→Nat→St→Option Bool→Option Bool) (m:Nat) (p ms:List Nat) (σ:St):=evAt Tryz.prog env (ct m) J (m+1) 100 15 Tryz.f100 d17 p ms σ
noncomputable def l45 (J:Nat→Nat→Nat→St→Option Bool→Option Bool) (m:Nat) (p ms:List Nat) (M:Nat) (σ:St):=loopAt Tryz.prog env (ct m) J (m+1) 100 15 Tryz.f100 d17 p ms M σ
theorem ref01_Valid_eq m a0:e45 jn m [] [] ⟨[(.dat 26 a0)],[],0⟩=ref01_Valid (m+1) a0:=
 tre (g:=fun J=>((ref01_Depth m a0).bind fun r0=>
  (bif (decide (r0≤16)) then
  ((ref01_Nodes m a0).bind fun r1=>
  (bif (decide (r1≤1024)) then
  ((ref01_formed m a0 true).bind fun r2=>
  some r2)
  else
  some false))
  else
  some false))) (fun J=>by kernel_rfl) (by rfl)
def w35_4:List Nat:=[1,1,1,1,1]
def w35_2:List Nat:=[1,1,1,1,1,1]
def w35_5:List Nat:=[1,1,1,1,0,1]
def w35_0:List Nat:=w35_2++[1]
def w35_3:List Nat:=[1,1,1,1,1,0,1]
def w35_1:List Nat:=w35_2++[0,1]
noncomputable def e35 (J:Nat→Nat→Nat→St→Option Int→Option Int) (m:Nat) (p ms:List Nat) (σ:St):=evAt Tryz.prog env (ct m) J (m+1) 58 164 Tryz.f58 d10 p ms σ
noncomputable def l35 (J:Nat→Nat→Nat→St→Option Int→Option Int) (m:Nat) (p ms:List Nat) (M:Nat) (σ:St):=loopAt Tryz.prog env (ct m) J (m+1) 58 164 Tryz.f58 d10 p ms M σ
noncomputable def s35_10:St:=⟨tsOf [],[],0⟩
noncomputable def s35_9 (x0:Bool):St:=⟨tsOf [(163,(.dat 4 (.bool x0)))],[],0⟩
noncomputable def s35_8 (x0:Bool) (x1:Dt):St:=⟨tsOf [(1,(.ptr 0 [] 0)),(3,(.dat 4 (.bool x0)))],[(.box 29 (.dat 29 x1))],0⟩
noncomputable def s35_7 (x0 x1:Bool) (x2:Dt):St:=⟨tsOf [(1,(.ptr 0 [] 0)),(3,(.dat 4 (.bool x0))),(112,(.dat 4 (.bool x1)))],[(.box 29 (.dat 29 x2))],0⟩
noncomputable def s35_5 (x0 x1:Bool) (x2:Dt):St:=⟨tsOf [(1,(.ptr 0 [] 0)),(3,(.dat 4 (.bool x0))),(103,(.dat 4 (.bool x1)))],[(.box 29 (.dat 29 x2))],0⟩
noncomputable def s35_3 (x0:Dt):St:=⟨tsOf [(1,(.ptr 0 [] 0))],[(.box 29 (.dat 29 x0))],0⟩
noncomputable def s35_2 (x0:Bool) (x1:Dt):St:=⟨tsOf [(1,(.ptr 0 [] 0)),(72,(.dat 4 (.bool x0)))],[(.box 29 (.dat 29 x1))],0⟩
noncomputable def s35_0 (x0:Bool) (x1:Dt):St:=⟨tsOf [(1,(.ptr 0 [] 0)),(46,(.dat 4 (.bool x0)))],[(.box 29 (.dat 29 x1))],0⟩
theorem ref08_node_j10_eq m:e35 jn m w35_0 [] s35_10=ref08_node_j10 m:=
 tre (g:=fun J=>some 0) (fun J=>by kernel_rfl) (by rfl)
theorem ref08_node_j9_eq m x0:e35 jn m w35_1 [] (s35_9 x0)=ref08_node_j9 m x0:=
 tre (g:=fun J=>(bif x0 then
  some 4
   else
  (jj J 0 12 0 s35_10 (e35 J m w35_0 [])))) (fun J=>by kernel_rfl) (by simp only[jj_eq,ref08_node_j10_eq m];rfl)
theorem ref08_node_j8_eq m x0 x1:e35 jn m w35_2 [] (s35_8 x0 x1)=ref08_node_j8 m x0 x1:=
 tre (g:=fun J=>(bif ((Dt.I x1 0) !=2) then
  (bif ((Dt.I x1 0) !=3) then
  (bif (decide (0<(List.length (Dt.L x1 1):Int))) then
  (jj J 0 11 0 (s35_9 true) (e35 J m w35_1 []))
  else
  (bif (Bool.not x0) then
  (bif (Bool.not ((ByteArray.toList (Dt.S x1 2))==[])) then
  (jj J 0 11 0 (s35_9 true) (e35 J m w35_1 []))
  else
  (bif ((Dt.I x1 0) !=34) then
  (bif (decide (0<(List.length (Dt.L x1 3):Int))) then
  (jj J 0 11 0 (s35_9 true) (e35 J m w35_1 []))
  else
  (bif ((Dt.I x1 0) !=1) then
  ((ref01_Same m (Dt.fld x1 4) kza2373).bind fun r3=>
  (bif (Bool.not r3) then
  (jj J 0 11 0 (s35_9 true) (e35 J m w35_1 []))
  else
  (jj J 0 11 0 (s35_9 ((Dt.I x1 5) !=0)) (e35 J m w35_1 []))))
  else
  (jj J 0 11 0 (s35_9 ((Dt.I x1 5) !=0)) (e35 J m w35_1 []))))
  else
  (bif ((Dt.I x1 0) !=1) then
  ((ref01_Same m (Dt.fld x1 4) kza2373).bind fun r4=>
  (bif (Bool.not r4) then
  (jj J 0 11 0 (s35_9 true) (e35 J m w35_1 []))
  else
  (jj J 0 11 0 (s35_9 ((Dt.I x1 5) !=0)) (e35 J m w35_1 []))))
  else
  (jj J 0 11 0 (s35_9 ((Dt.I x1 5) !=0)) (e35 J m w35_1 [])))))
  else
  (bif ((Dt.I x1 0) !=34) then
  (bif (decide (0<(List.length (Dt.L x1 3):Int))) then
  (jj J 0 11 0 (s35_9 true) (e35 J m w35_1 []))
  else
  (bif ((Dt.I x1 0) !=1) then
  ((ref01_Same m (Dt.fld x1 4) kza2373).bind fun r5=>
  (bif (Bool.not r5) then
  (jj J 0 11 0 (s35_9 true) (e35 J m w35_1 []))
  else
  (jj J 0 11 0 (s35_9 ((Dt.I x1 5) !=0)) (e35 J m w35_1 []))))
  else
  (jj J 0 11 0 (s35_9 ((Dt.I x1 5) !=0)) (e35 J m w35_1 []))))
  else
  (bif ((Dt.I x1 0) !=1) then
  ((ref01_Same m (Dt.fld x1 4) kza2373).bind fun r6=>
  (bif (Bool.not r6) then
  (jj J 0 11 0 (s35_9 true) (e35 J m w35_1 []))
  else
  (jj J 0 11 0 (s35_9 ((Dt.I x1 5) !=0)) (e35 J m w35_1 []))))
  else
  (jj J 0 11 0 (s35_9 ((Dt.I x1 5) !=0)) (e35 J m w35_1 []))))))
  else
  (bif (Bool.not x0) then
  (bif (Bool.not ((ByteArray.toList (Dt.S x1 2))==[])) then
  (jj J 0 11 0 (s35_9 true) (e35 J m w35_1 []))
  else
  (bif ((Dt.I x1 0) !=34) then
  (bif (decide (0<(List.length (Dt.L x1 3):Int))) then
  (jj J 0 11 0 (s35_9 true) (e35 J m w35_1 []))
  else
  (bif ((Dt.I x1 0) !=1) then
  ((ref01_Same m (Dt.fld x1 4) kza2373).bind fun r7=>
  (bif (Bool.not r7) then
  (jj J 0 11 0 (s35_9 true) (e35 J m w35_1 []))
  else
  (jj J 0 11 0 (s35_9 ((Dt.I x1 5) !=0)) (e35 J m w35_1 []))))
  else
  (jj J 0 11 0 (s35_9 ((Dt.I x1 5) !=0)) (e35 J m w35_1 []))))
  else
  (bif ((Dt.I x1 0) !=1) then
  ((ref01_Same m (Dt.fld x1 4) kza2373).bind fun r8=>
  (bif (Bool.not r8) then
  (jj J 0 11 0 (s35_9 true) (e35 J m w35_1 []))
  else
  (jj J 0 11 0 (s35_9 ((Dt.I x1 5) !=0)) (e35 J m w35_1 []))))
  else
  (jj J 0 11 0 (s35_9 ((Dt.I x1 5) !=0)) (e35 J m w35_1 [])))))
  else
  (bif ((Dt.I x1 0) !=34) then
  (bif (decide (0<(List.length (Dt.L x1 3):Int))) then
  (jj J 0 11 0 (s35_9 true) (e35 J m w35_1 []))
  else
  (bif ((Dt.I x1 0) !=1) then
  ((ref01_Same m (Dt.fld x1 4) kza2373).bind fun r9=>
  (bif (Bool.not r9) then
  (jj J 0 11 0 (s35_9 true) (e35 J m w35_1 []))
  else
  (jj J 0 11 0 (s35_9 ((Dt.I x1 5) !=0)) (e35 J m w35_1 []))))
  else
  (jj J 0 11 0 (s35_9 ((Dt.I x1 5) !=0)) (e35 J m w35_1 []))))
  else
  (bif ((Dt.I x1 0) !=1) then
  ((ref01_Same m (Dt.fld x1 4) kza2373).bind fun r10=>
  (bif (Bool.not r10) then
  (jj J 0 11 0 (s35_9 true) (e35 J m w35_1 []))
  else
  (jj J 0 11 0 (s35_9 ((Dt.I x1 5) !=0)) (e35 J m w35_1 []))))
  else
  (jj J 0 11 0 (s35_9 ((Dt.I x1 5) !=0)) (e35 J m w35_1 []))))))
   else
  (bif (Bool.not x0) then
  (bif (Bool.not ((ByteArray.toList (Dt.S x1 2))==[])) then
  (jj J 0 11 0 (s35_9 true) (e35 J m w35_1 []))
  else
  (bif ((Dt.I x1 0) !=34) then
  (bif (decide (0<(List.length (Dt.L x1 3):Int))) then
  (jj J 0 11 0 (s35_9 true) (e35 J m w35_1 []))
  else
  (bif ((Dt.I x1 0) !=1) then
  ((ref01_Same m (Dt.fld x1 4) kza2373).bind fun r11=>
  (bif (Bool.not r11) then
  (jj J 0 11 0 (s35_9 true) (e35 J m w35_1 []))
  else
  (jj J 0 11 0 (s35_9 ((Dt.I x1 5) !=0)) (e35 J m w35_1 []))))
  else
  (jj J 0 11 0 (s35_9 ((Dt.I x1 5) !=0)) (e35 J m w35_1 []))))
  else
  (bif ((Dt.I x1 0) !=1) then
  ((ref01_Same m (Dt.fld x1 4) kza2373).bind fun r12=>
  (bif (Bool.not r12) then
  (jj J 0 11 0 (s35_9 true) (e35 J m w35_1 []))
  else
  (jj J 0 11 0 (s35_9 ((Dt.I x1 5) !=0)) (e35 J m w35_1 []))))
  else
  (jj J 0 11 0 (s35_9 ((Dt.I x1 5) !=0)) (e35 J m w35_1 [])))))
  else
  (bif ((Dt.I x1 0) !=34) then
  (bif (decide (0<(List.length (Dt.L x1 3):Int))) then
  (jj J 0 11 0 (s35_9 true) (e35 J m w35_1 []))
  else
  (bif ((Dt.I x1 0) !=1) then
  ((ref01_Same m (Dt.fld x1 4) kza2373).bind fun r13=>
  (bif (Bool.not r13) then
  (jj J 0 11 0 (s35_9 true) (e35 J m w35_1 []))
  else
  (jj J 0 11 0 (s35_9 ((Dt.I x1 5) !=0)) (e35 J m w35_1 []))))
  else
  (jj J 0 11 0 (s35_9 ((Dt.I x1 5) !=0)) (e35 J m w35_1 []))))
  else
  (bif ((Dt.I x1 0) !=1) then
  ((ref01_Same m (Dt.fld x1 4) kza2373).bind fun r14=>
  (bif (Bool.not r14) then
  (jj J 0 11 0 (s35_9 true) (e35 J m w35_1 []))
  else
  (jj J 0 11 0 (s35_9 ((Dt.I x1 5) !=0)) (e35 J m w35_1 []))))
  else
  (jj J 0 11 0 (s35_9 ((Dt.I x1 5) !=0)) (e35 J m w35_1 []))))))) (fun J=>by kernel_rfl) (by simp only[jj_eq,ref08_node_j9_eq m];rfl)
theorem ref08_node_j7_eq m x0 x1 x2:e35 jn m w35_3 [] (s35_7 x0 x1 x2)=ref08_node_j7 m x0 x1 x2:=
 tre (g:=fun J=>(bif x1 then
  some 8
   else
  (jj J 0 10 0 (s35_8 x0 x2) (e35 J m w35_2 [])))) (fun J=>by kernel_rfl) (by simp only[jj_eq,ref08_node_j8_eq m];rfl)
theorem ref08_node_j6_eq m x0 x1:e35 jn m w35_4 [] (s35_8 x0 x1)=ref08_node_j6 m x0 x1:=
 tre (g:=fun J=>(bif ((Dt.I x1 0)==1) then
  ((ref01_Valid m (Dt.fld x1 4)).bind fun r2=>
  (jj J 0 9 0 (s35_7 x0 (Bool.not r2) x1) (e35 J m w35_3 [])))
   else
  (jj J 0 9 0 (s35_7 x0 false x1) (e35 J m w35_3 [])))) (fun J=>by kernel_rfl) (by simp only[jj_eq,ref08_node_j7_eq m];rfl)
theorem ref08_node_j5_eq m x0 x1 x2:e35 jn m w35_5 [] (s35_5 x0 x1 x2)=ref08_node_j5 m x0 x1 x2:=
 tre (g:=fun J=>(bif x1 then
  some 9
   else
  (jj J 0 8 0 (s35_8 x0 x2) (e35 J m w35_4 [])))) (fun J=>by kernel_rfl) (by simp only[jj_eq,ref08_node_j6_eq m];rfl)
theorem ref08_node_j4_eq m x0 x1:e35 jn m [1,1,1,1] [] (s35_8 x0 x1)=ref08_node_j4 m x0 x1:=
 tre (g:=fun J=>(bif x0 then
  ((ref01_Name m (Dt.S x1 2)).bind fun r1=>
  (bif (Bool.not r1) then
  (jj J 0 7 0 (s35_5 x0 true x1) (e35 J m w35_5 []))
  else
  (bif ((Dt.I x1 0)==34) then
  ((ref08_named m (Dt.L x1 3)).bind fun r15=>
  (jj J 0 7 0 (s35_5 x0 (Bool.not r15) x1) (e35 J m w35_5 [])))
  else
  (jj J 0 7 0 (s35_5 x0 false x1) (e35 J m w35_5 [])))))
   else
  (bif ((Dt.I x1 0)==34) then
  ((ref08_named m (Dt.L x1 3)).bind fun r16=>
  (jj J 0 7 0 (s35_5 x0 (Bool.not r16) x1) (e35 J m w35_5 [])))
  else
  (jj J 0 7 0 (s35_5 x0 false x1) (e35 J m w35_5 []))))) (fun J=>by kernel_rfl) (by simp only[jj_eq,ref08_node_j5_eq m];rfl)
theorem ref08_node_j3_eq m x0:e35 jn m [1,1,1] [] (s35_3 x0)=ref08_node_j3 m x0:=
 tre (g:=fun J=>(bif ((Dt.I x0 0)==3) then
  (jj J 0 6 0 (s35_8 true x0) (e35 J m [1,1,1,1] []))
   else
  (bif ((Dt.I x0 0)==32) then
  (jj J 0 6 0 (s35_8 true x0) (e35 J m [1,1,1,1] []))
  else
  (jj J 0 6 0 (s35_8 ((Dt.I x0 0)==33) x0) (e35 J m [1,1,1,1] []))))) (fun J=>by kernel_rfl) (by simp only[jj_eq,ref08_node_j4_eq m];rfl)
theorem ref08_node_j2_eq m x0 x1:e35 jn m [1,1,0,1] [] (s35_2 x0 x1)=ref08_node_j2 m x0 x1:=
 tre (g:=fun J=>(bif x0 then
  some 10
   else
  (jj J 0 5 0 (s35_3 x1) (e35 J m [1,1,1] [])))) (fun J=>by kernel_rfl) (by simp only[jj_eq,ref08_node_j3_eq m];rfl)
theorem ref08_node_j1_eq m x0:e35 jn m [1,1] [] (s35_3 x0)=ref08_node_j1 m x0:=
 tre (g:=fun J=>(bif ((Dt.I x0 0)==2) then
  ((ref04_Valid m (Dt.L x0 1)).bind fun r0=>
  (bif (Bool.not r0) then
  (jj J 0 4 0 (s35_2 true x0) (e35 J m [1,1,0,1] []))
  else
  (bif ((Dt.I x0 0)==3) then
  (bif (decide (0<(List.length (Dt.L x0 1):Int))) then
  ((ref04_Valid m (Dt.L x0 1)).bind fun r17=>
  (jj J 0 4 0 (s35_2 (Bool.not r17) x0) (e35 J m [1,1,0,1] [])))
  else
  (jj J 0 4 0 (s35_2 false x0) (e35 J m [1,1,0,1] [])))
  else
  (jj J 0 4 0 (s35_2 false x0) (e35 J m [1,1,0,1] [])))))
   else
  (bif ((Dt.I x0 0)==3) then
  (bif (decide (0<(List.length (Dt.L x0 1):Int))) then
  ((ref04_Valid m (Dt.L x0 1)).bind fun r18=>
  (jj J 0 4 0 (s35_2 (Bool.not r18) x0) (e35 J m [1,1,0,1] [])))
  else
  (jj J 0 4 0 (s35_2 false x0) (e35 J m [1,1,0,1] [])))
  else
  (jj J 0 4 0 (s35_2 false x0) (e35 J m [1,1,0,1] []))))) (fun J=>by kernel_rfl) (by simp only[jj_eq,ref08_node_j2_eq m];rfl)
theorem ref08_node_j0_eq m x0 x1:e35 jn m [1,0,1] [] (s35_0 x0 x1)=ref08_node_j0 m x0 x1:=
 tre (g:=fun J=>(bif x0 then
  some 11
   else
  (jj J 0 3 0 (s35_3 x1) (e35 J m [1,1] [])))) (fun J=>by kernel_rfl) (by simp only[jj_eq,ref08_node_j1_eq m];rfl)
theorem ref08_node_eq m a0:e35 jn m [] [] ⟨[(.dat 29 a0)],[],0⟩=ref08_node (m+1) a0:=
 tre (g:=fun J=>(bif (decide ((Dt.I a0 0)<1)) then
  (jj J 0 2 0 (s35_0 true a0) (e35 J m [1,0,1] []))
   else
  (bif (decide (37<(Dt.I a0 0))) then
  (jj J 0 2 0 (s35_0 true a0) (e35 J m [1,0,1] []))
  else
  ((ref08_Kids m (Dt.I a0 0)).bind fun r19=>
  (bif (decide (0≤r19)) then
  ((ref08_Kids m (Dt.I a0 0)).bind fun r20=>
  (bif ((List.length (Dt.L a0 6):Int) !=r20) then
  (jj J 0 2 0 (s35_0 true a0) (e35 J m [1,0,1] []))
  else
  (bif ((Dt.I a0 0)==34) then
  (bif ((List.length (Dt.L a0 6):Int) !=(List.length (Dt.L a0 3):Int)) then
  (jj J 0 2 0 (s35_0 true a0) (e35 J m [1,0,1] []))
  else
  (jj J 0 2 0 (s35_0 ((List.length (Dt.L a0 6):Int)==0) a0) (e35 J m [1,0,1] [])))
  else
  (jj J 0 2 0 (s35_0 false a0) (e35 J m [1,0,1] [])))))
  else
  (bif ((Dt.I a0 0)==34) then
  (bif ((List.length (Dt.L a0 6):Int) !=(List.length (Dt.L a0 3):Int)) then
  (jj J 0 2 0 (s35_0 true a0) (e35 J m [1,0,1] []))
  else
  (jj J 0 2 0 (s35_0 ((List.length (Dt.L a0 6):Int)==0) a0) (e35 J m [1,0,1] [])))
  else
  (jj J 0 2 0 (s35_0 false a0) (e35 J m [1,0,1] [])))))))) (fun J=>by kernel_rfl) (by simp only[jj_eq,ref08_node_j0_eq m];rfl)
def w15_4:List Nat:=[1,1,1,0,1]
def w15_0:List Nat:=[1,1,1,0,1,0]
def w15_3:List Nat:=w15_0++[0,1]
def w15_1:List Nat:=w15_3++[1]
def w15_2:List Nat:=w15_3++[0,0,1,1]
noncomputable def e15 (J:Nat→Nat→Nat→St→Option (Int×Int)→Option (Int×Int)) (m:Nat) (p ms:List Nat) (σ:St):=evAt Tryz.prog env (ct m) J (m+1) 25 51 Tryz.f25 d15 p ms σ
noncomputable def l15 (J:Nat→Nat→Nat→St→Option (Int×Int)→Option (Int×Int)) (m:Nat) (p ms:List Nat) (M:Nat) (σ:St):=loopAt Tryz.prog env (ct m) J (m+1) 25 51 Tryz.f25 d15 p ms M σ
noncomputable def s15_7 (x0 x1 x2:Int) (x3:Dt):St:=⟨tsOf [(1,(.dat 3 (.int x0))),(2,(.dat 3 (.int x1))),(3,(.ptr 0 [] 0)),(9,(.dat 3 (.int x2)))],[(.box 29 (.dat 29 x3))],0⟩
noncomputable def s15_6 (x0 x1 x2:Int) (x3:Dt):St:=⟨tsOf [(2,(.dat 3 (.int x0))),(3,(.ptr 0 [] 0)),(9,(.dat 3 (.int x1))),(10,(.dat 3 (.int x2)))],[(.box 29 (.dat 29 x3))],0⟩
noncomputable def s15_8 (x0:Int):St:=⟨tsOf [(1,(.dat 3 (.int x0)))],[],0⟩
noncomputable def s15_2 (x0 x1:Int) (x2:Dt):St:=⟨tsOf [(1,(.dat 3 (.int x0))),(2,(.dat 3 (.int x1))),(3,(.ptr 0 [] 0))],[(.box 29 (.dat 29 x2))],0⟩
noncomputable def s15_0 (x0 x1:Int) (x2:Bool) (x3:Dt):St:=⟨tsOf [(1,(.dat 3 (.int x0))),(2,(.dat 3 (.int x1))),(3,(.ptr 0 [] 0)),(17,(.dat 4 (.bool x2)))],[(.box 29 (.dat 29 x3))],0⟩
abbrev H15_4 (m M4:Nat) (rec4:Int→Int→Int→Dt→Option (Int×Int)):Prop:=∀x0 x1 x2 x3,l15 jn m w15_0 [] M4 (s15_7 x0 x1 x2 x3)=rec4 x0 x1 x2 x3
theorem ref08_check_j7_eq m M4 rec4 (h4:H15_4 m M4 rec4) x0 x1 x2 x3:e15 jn m w15_1 [M4] (s15_7 x0 x1 x2 x3)=ref08_check_j7 m (ref08_check m) rec4 x0 x1 x2 x3:=
 tre (g:=fun J=>(jj J 1 7 M4 (s15_7 x0 x1 (IntKind.wrap .i64 (x2+1)) x3) (l15 J m w15_0 [] M4))) (fun J=>by kernel_rfl) (by simp only[jj_eq,h4];rfl)
theorem ref08_check_j6_eq m M4 rec4 (h4:H15_4 m M4 rec4) x0 x1 x2 x3:e15 jn m w15_2 [M4] (s15_6 x0 x1 x2 x3)=ref08_check_j6 m (ref08_check m) rec4 x0 x1 x2 x3:=
 tre (g:=fun J=>(jj J 0 8 0 (s15_7 x2 x0 x1 x3) (e15 J m w15_1 [M4]))) (fun J=>by kernel_rfl) (by simp only[jj_eq,ref08_check_j7_eq m M4 rec4 h4];rfl)
theorem ref08_check_j5_eq m M4 rec4 (h4:H15_4 m M4 rec4) x0 x1 x2 x3:e15 jn m w15_3 [M4] (s15_7 x0 x1 x2 x3)=ref08_check_j5 m (ref08_check m) rec4 x0 x1 x2 x3:=
 tre (g:=fun J=>((idx (Dt.L x3 6) x2).bind fun v1=>
  ((ref08_check m v1 (IntKind.wrap .i64 (x0+1)) (IntKind.wrap .i64 (x1+1))).bind fun r2=>
  (bif (r2.2 !=0) then
  some (r2.1,r2.2)
  else
  (jj J 0 12 0 (s15_6 x1 x2 r2.1 x3) (e15 J m w15_2 [M4])))))) (fun J=>by kernel_rfl) (by simp only[jj_eq,ref08_check_j6_eq m M4 rec4 h4];rfl)
theorem ref08_check_j8_eq m x0:e15 jn m [1,1,1,1] [] (s15_8 x0)=ref08_check_j8 m (ref08_check m) x0:=
 tre (g:=fun J=>some (x0,0)) (fun J=>by kernel_rfl) (by rfl)
theorem ref08_check_l4_eq m:∀M4 x0 x1 x2 x3,l15 jn m w15_0 [] M4 (s15_7 x0 x1 x2 x3)=ref08_check_l4 m (ref08_check m) M4 x0 x1 x2 x3
 |0,_,_,_,_=>rfl
 | M4+1,x0,x1,x2,x3=>
   trl (g:=fun J=>(bif (decide (x2<(List.length (Dt.L x3 6):Int))) then
  (jj J 0 9 0 (s15_7 x0 x1 x2 x3) (e15 J m w15_3 [M4]))
   else
  (jj J 0 13 0 (s15_8 x0) (e15 J m [1,1,1,1] [])))) (fun J=>by kernel_rfl) (by simp only[jj_eq,ref08_check_j5_eq m M4 (ref08_check_l4 m (ref08_check m) M4) (ref08_check_l4_eq m M4),ref08_check_j8_eq m];rfl)
theorem ref08_check_j3_eq m x0 x1 x2 x3:e15 jn m w15_4 [] (s15_7 x0 x1 x2 x3)=ref08_check_j3 m (ref08_check m) x0 x1 x2 x3:=
 tre (g:=fun J=>(jj J 1 7 (Nat.succ m) (s15_7 x0 x1 x2 x3) (l15 J m w15_0 [] (Nat.succ m)))) (fun J=>by kernel_rfl) (by simp only[jj_eq,ref08_check_l4_eq m];rfl)
theorem ref08_check_j2_eq m x0 x1 x2:e15 jn m [1,1,1] [] (s15_2 x0 x1 x2)=ref08_check_j2 m (ref08_check m) x0 x1 x2:=
 tre (g:=fun J=>(jj J 0 7 0 (s15_7 x0 x1 0 x2) (e15 J m w15_4 []))) (fun J=>by kernel_rfl) (by simp only[jj_eq,ref08_check_j3_eq m];rfl)
theorem ref08_check_j1_eq m x0 x1 x2:e15 jn m [1,1] [] (s15_2 x0 x1 x2)=ref08_check_j1 m (ref08_check m) x0 x1 x2:=
 tre (g:=fun J=>((ref08_node m x2).bind fun r0=>
  (bif (r0 !=0) then
  some (x0,r0)
  else
  (jj J 0 6 0 (s15_2 x0 x1 x2) (e15 J m [1,1,1] []))))) (fun J=>by kernel_rfl) (by simp only[jj_eq,ref08_check_j2_eq m];rfl)
theorem ref08_check_j0_eq m x0 x1 x2 x3:e15 jn m [1,0,1] [] (s15_0 x0 x1 x2 x3)=ref08_check_j0 m (ref08_check m) x0 x1 x2 x3:=
 tre (g:=fun J=>(bif x2 then
  some (x0,2)
   else
  (jj J 0 3 0 (s15_2 x0 x1 x3) (e15 J m [1,1] [])))) (fun J=>by kernel_rfl) (by simp only[jj_eq,ref08_check_j1_eq m];rfl)
theorem ref08_check_eq m a0 a1 a2:e15 jn m [] [] ⟨[(.dat 29 a0),(.dat 3 (.int a1)),(.dat 3 (.int a2))],[],0⟩=ref08_check (m+1) a0 a1 a2:=
 tre (g:=fun J=>(bif (decide (16<a2)) then
  (jj J 0 2 0 (s15_0 a1 a2 true a0) (e15 J m [1,0,1] []))
   else
  (jj J 0 2 0 (s15_0 a1 a2 (decide (256<a1)) a0) (e15 J m [1,0,1] [])))) (fun J=>by kernel_rfl) (by simp only[jj_eq,ref08_check_j0_eq m];rfl)
noncomputable def e9 (J:Nat→Nat→Nat→St→Option Int→Option Int) (m:Nat) (p ms:List Nat) (σ:St):=evAt Tryz.prog env (ct m) J (m+1) 13 11 Tryz.f13 d10 p ms σ
noncomputable def l9 (J:Nat→Nat→Nat→St→Option Int→Option Int) (m:Nat) (p ms:List Nat) (M:Nat) (σ:St):=loopAt Tryz.prog env (ct m) J (m+1) 13 11 Tryz.f13 d10 p ms M σ
theorem ref08_Valid_eq m a0:e9 jn m [] [] ⟨[(.dat 29 a0)],[],0⟩=ref08_Valid (m+1) a0:=
 tre (g:=fun J=>((ref08_check m a0 1 1).bind fun r0=>
  some r0.2)) (fun J=>by kernel_rfl) (by rfl)
def w12_3:List Nat:=[1,1,1,1,1]
def w12_2:List Nat:=[1,1,1,1,1,1]
def w12_4:List Nat:=[1,1,1,1,0,1]
def w12_0:List Nat:=w12_2++[1]
def w12_1:List Nat:=w12_2++[0,1]
noncomputable def e12 (J:Nat→Nat→Nat→St→Option Int→Option Int) (m:Nat) (p ms:List Nat) (σ:St):=evAt Tryz.prog env (ct m) J (m+1) 16 132 Tryz.f16 d10 p ms σ
noncomputable def l12 (J:Nat→Nat→Nat→St→Option Int→Option Int) (m:Nat) (p ms:List Nat) (M:Nat) (σ:St):=loopAt Tryz.prog env (ct m) J (m+1) 16 132 Tryz.f16 d10 p ms M σ
noncomputable def s12_8:St:=⟨tsOf [],[],0⟩
noncomputable def s12_7 (x0:Bool):St:=⟨tsOf [(131,(.dat 4 (.bool x0)))],[],0⟩
noncomputable def s12_6 (x0:Dt):St:=⟨tsOf [(1,(.ptr 0 [] 0))],[(.box 63 (.dat 63 x0))],0⟩
noncomputable def s12_5 (x0:Bool) (x1:Dt):St:=⟨tsOf [(1,(.ptr 0 [] 0)),(4,(.dat 4 (.bool x0)))],[(.box 63 (.dat 63 x1))],0⟩
noncomputable def s12_4 (x0 x1:Bool) (x2:Dt):St:=⟨tsOf [(1,(.ptr 0 [] 0)),(4,(.dat 4 (.bool x0))),(93,(.dat 4 (.bool x1)))],[(.box 63 (.dat 63 x2))],0⟩
noncomputable def s12_3 (x0 x1:Bool) (x2:Dt):St:=⟨tsOf [(1,(.ptr 0 [] 0)),(3,(.dat 4 (.bool x0))),(4,(.dat 4 (.bool x1)))],[(.box 63 (.dat 63 x2))],0⟩
noncomputable def s12_2 (x0:Bool) (x1:Dt):St:=⟨tsOf [(1,(.ptr 0 [] 0)),(3,(.dat 4 (.bool x0)))],[(.box 63 (.dat 63 x1))],0⟩
noncomputable def s12_1 (x0 x1:Bool) (x2:Dt):St:=⟨tsOf [(1,(.ptr 0 [] 0)),(3,(.dat 4 (.bool x0))),(35,(.dat 4 (.bool x1)))],[(.box 63 (.dat 63 x2))],0⟩
theorem ref31_out_j8_eq m:e12 jn m w12_0 [] s12_8=ref31_out_j8 m:=
 tre (g:=fun J=>some 0) (fun J=>by kernel_rfl) (by rfl)
theorem ref31_out_j7_eq m x0:e12 jn m w12_1 [] (s12_7 x0)=ref31_out_j7 m x0:=
 tre (g:=fun J=>(bif x0 then
  some 1
   else
  (jj J 0 13 0 s12_8 (e12 J m w12_0 [])))) (fun J=>by kernel_rfl) (by simp only[jj_eq,ref31_out_j8_eq m];rfl)
theorem ref31_out_j6_eq m x0:e12 jn m w12_2 [] (s12_6 x0)=ref31_out_j6 m x0:=
 tre (g:=fun J=>(bif (decide ((Dt.I x0 3)<(-4096))) then
  (jj J 0 12 0 (s12_7 true) (e12 J m w12_1 []))
   else
  (bif (decide (4096<(Dt.I x0 3))) then
  (jj J 0 12 0 (s12_7 true) (e12 J m w12_1 []))
  else
  (bif (decide ((Dt.I x0 4)<(-4096))) then
  (jj J 0 12 0 (s12_7 true) (e12 J m w12_1 []))
  else
  (bif (decide (4096<(Dt.I x0 4))) then
  (jj J 0 12 0 (s12_7 true) (e12 J m w12_1 []))
  else
  (bif ((Dt.I x0 1) !=24) then
  (jj J 0 12 0 (s12_7 (decide ((Dt.I x0 4)<(Dt.I x0 3)))) (e12 J m w12_1 []))
  else
  (jj J 0 12 0 (s12_7 false) (e12 J m w12_1 [])))))))) (fun J=>by kernel_rfl) (by simp only[jj_eq,ref31_out_j7_eq m];rfl)
theorem ref31_out_j5_eq m x0 x1:e12 jn m w12_3 [] (s12_5 x0 x1)=ref31_out_j5 m x0 x1:=
 tre (g:=fun J=>(bif (Bool.not x0) then
  ((ref08_Valid m (Dt.fld x1 2)).bind fun r1=>
  (bif (r1 !=0) then
  some r1
  else
  (jj J 0 11 0 (s12_6 x1) (e12 J m w12_2 []))))
   else
  (jj J 0 11 0 (s12_6 x1) (e12 J m w12_2 [])))) (fun J=>by kernel_rfl) (by simp only[jj_eq,ref31_out_j6_eq m];rfl)
theorem ref31_out_j4_eq m x0 x1 x2:e12 jn m w12_4 [] (s12_4 x0 x1 x2)=ref31_out_j4 m x0 x1 x2:=
 tre (g:=fun J=>(bif x1 then
  some 21
   else
  (jj J 0 7 0 (s12_5 x0 x2) (e12 J m w12_3 [])))) (fun J=>by kernel_rfl) (by simp only[jj_eq,ref31_out_j5_eq m];rfl)
theorem ref31_out_j3_eq m x0 x1 x2:e12 jn m [1,1,1,1] [] (s12_3 x0 x1 x2)=ref31_out_j3 m x0 x1 x2:=
 tre (g:=fun J=>(bif x1 then
  ((ref31_zeroExpr m (Dt.fld x2 2)).bind fun r0=>
  (bif (Bool.not r0) then
  (jj J 0 6 0 (s12_4 x1 true x2) (e12 J m w12_4 []))
  else
  (bif x0 then
  (bif ((Dt.I x2 3) !=0) then
  (jj J 0 6 0 (s12_4 x1 true x2) (e12 J m w12_4 []))
  else
  (bif ((Dt.I x2 4) !=0) then
  (jj J 0 6 0 (s12_4 x1 true x2) (e12 J m w12_4 []))
  else
  (bif (Dt.B x2 5) then
  (jj J 0 6 0 (s12_4 x1 true x2) (e12 J m w12_4 []))
  else
  (bif ((Dt.I x2 1)==24) then
  (bif ((Dt.I x2 4) !=0) then
  (jj J 0 6 0 (s12_4 x1 true x2) (e12 J m w12_4 []))
  else
  (bif (Dt.B x2 5) then
  (jj J 0 6 0 (s12_4 x1 true x2) (e12 J m w12_4 []))
  else
  (bif (Dt.B x2 5) then
  (bif ((Dt.I x2 3) !=0) then
  (jj J 0 6 0 (s12_4 x1 true x2) (e12 J m w12_4 []))
  else
  (jj J 0 6 0 (s12_4 x1 ((Dt.I x2 4) !=0) x2) (e12 J m w12_4 [])))
  else
  (jj J 0 6 0 (s12_4 x1 false x2) (e12 J m w12_4 [])))))
  else
  (bif (Dt.B x2 5) then
  (bif ((Dt.I x2 3) !=0) then
  (jj J 0 6 0 (s12_4 x1 true x2) (e12 J m w12_4 []))
  else
  (jj J 0 6 0 (s12_4 x1 ((Dt.I x2 4) !=0) x2) (e12 J m w12_4 [])))
  else
  (jj J 0 6 0 (s12_4 x1 false x2) (e12 J m w12_4 [])))))))
  else
  (bif ((Dt.I x2 1)==24) then
  (bif ((Dt.I x2 4) !=0) then
  (jj J 0 6 0 (s12_4 x1 true x2) (e12 J m w12_4 []))
  else
  (bif (Dt.B x2 5) then
  (jj J 0 6 0 (s12_4 x1 true x2) (e12 J m w12_4 []))
  else
  (bif (Dt.B x2 5) then
  (bif ((Dt.I x2 3) !=0) then
  (jj J 0 6 0 (s12_4 x1 true x2) (e12 J m w12_4 []))
  else
  (jj J 0 6 0 (s12_4 x1 ((Dt.I x2 4) !=0) x2) (e12 J m w12_4 [])))
  else
  (jj J 0 6 0 (s12_4 x1 false x2) (e12 J m w12_4 [])))))
  else
  (bif (Dt.B x2 5) then
  (bif ((Dt.I x2 3) !=0) then
  (jj J 0 6 0 (s12_4 x1 true x2) (e12 J m w12_4 []))
  else
  (jj J 0 6 0 (s12_4 x1 ((Dt.I x2 4) !=0) x2) (e12 J m w12_4 [])))
  else
  (jj J 0 6 0 (s12_4 x1 false x2) (e12 J m w12_4 [])))))))
   else
  (bif x0 then
  (bif ((Dt.I x2 3) !=0) then
  (jj J 0 6 0 (s12_4 x1 true x2) (e12 J m w12_4 []))
  else
  (bif ((Dt.I x2 4) !=0) then
  (jj J 0 6 0 (s12_4 x1 true x2) (e12 J m w12_4 []))
  else
  (bif (Dt.B x2 5) then
  (jj J 0 6 0 (s12_4 x1 true x2) (e12 J m w12_4 []))
  else
  (bif ((Dt.I x2 1)==24) then
  (bif ((Dt.I x2 4) !=0) then
  (jj J 0 6 0 (s12_4 x1 true x2) (e12 J m w12_4 []))
  else
  (bif (Dt.B x2 5) then
  (jj J 0 6 0 (s12_4 x1 true x2) (e12 J m w12_4 []))
  else
  (bif (Dt.B x2 5) then
  (bif ((Dt.I x2 3) !=0) then
  (jj J 0 6 0 (s12_4 x1 true x2) (e12 J m w12_4 []))
  else
  (jj J 0 6 0 (s12_4 x1 ((Dt.I x2 4) !=0) x2) (e12 J m w12_4 [])))
  else
  (jj J 0 6 0 (s12_4 x1 false x2) (e12 J m w12_4 [])))))
  else
  (bif (Dt.B x2 5) then
  (bif ((Dt.I x2 3) !=0) then
  (jj J 0 6 0 (s12_4 x1 true x2) (e12 J m w12_4 []))
  else
  (jj J 0 6 0 (s12_4 x1 ((Dt.I x2 4) !=0) x2) (e12 J m w12_4 [])))
  else
  (jj J 0 6 0 (s12_4 x1 false x2) (e12 J m w12_4 [])))))))
  else
  (bif ((Dt.I x2 1)==24) then
  (bif ((Dt.I x2 4) !=0) then
  (jj J 0 6 0 (s12_4 x1 true x2) (e12 J m w12_4 []))
  else
  (bif (Dt.B x2 5) then
  (jj J 0 6 0 (s12_4 x1 true x2) (e12 J m w12_4 []))
  else
  (bif (Dt.B x2 5) then
  (bif ((Dt.I x2 3) !=0) then
  (jj J 0 6 0 (s12_4 x1 true x2) (e12 J m w12_4 []))
  else
  (jj J 0 6 0 (s12_4 x1 ((Dt.I x2 4) !=0) x2) (e12 J m w12_4 [])))
  else
  (jj J 0 6 0 (s12_4 x1 false x2) (e12 J m w12_4 [])))))
  else
  (bif (Dt.B x2 5) then
  (bif ((Dt.I x2 3) !=0) then
  (jj J 0 6 0 (s12_4 x1 true x2) (e12 J m w12_4 []))
  else
  (jj J 0 6 0 (s12_4 x1 ((Dt.I x2 4) !=0) x2) (e12 J m w12_4 [])))
  else
  (jj J 0 6 0 (s12_4 x1 false x2) (e12 J m w12_4 []))))))) (fun J=>by kernel_rfl) (by simp only[jj_eq,ref31_out_j4_eq m];rfl)
theorem ref31_out_j2_eq m x0 x1:e12 jn m [1,1,1] [] (s12_2 x0 x1)=ref31_out_j2 m x0 x1:=
 tre (g:=fun J=>(bif x0 then
  (jj J 0 5 0 (s12_3 x0 true x1) (e12 J m [1,1,1,1] []))
   else
  (jj J 0 5 0 (s12_3 x0 ((Dt.I x1 1)==2) x1) (e12 J m [1,1,1,1] [])))) (fun J=>by kernel_rfl) (by simp only[jj_eq,ref31_out_j3_eq m];rfl)
theorem ref31_out_j1_eq m x0 x1 x2:e12 jn m [1,1,0,1] [] (s12_1 x0 x1 x2)=ref31_out_j1 m x0 x1 x2:=
 tre (g:=fun J=>(bif x1 then
  some 11
   else
  (jj J 0 4 0 (s12_2 x0 x2) (e12 J m [1,1,1] [])))) (fun J=>by kernel_rfl) (by simp only[jj_eq,ref31_out_j2_eq m];rfl)
theorem ref31_out_j0_eq m x0 x1:e12 jn m [1,1] [] (s12_2 x0 x1)=ref31_out_j0 m x0 x1:=
 tre (g:=fun J=>(bif (decide ((Dt.I x1 1)<1)) then
  (bif (Bool.not x0) then
  (jj J 0 3 0 (s12_1 x0 ((Dt.I x1 1) !=24) x1) (e12 J m [1,1,0,1] []))
  else
  (jj J 0 3 0 (s12_1 x0 false x1) (e12 J m [1,1,0,1] [])))
   else
  (bif (decide (8<(Dt.I x1 1))) then
  (bif (Bool.not x0) then
  (jj J 0 3 0 (s12_1 x0 ((Dt.I x1 1) !=24) x1) (e12 J m [1,1,0,1] []))
  else
  (jj J 0 3 0 (s12_1 x0 false x1) (e12 J m [1,1,0,1] [])))
  else
  (jj J 0 3 0 (s12_1 x0 false x1) (e12 J m [1,1,0,1] []))))) (fun J=>by kernel_rfl) (by simp only[jj_eq,ref31_out_j1_eq m];rfl)
theorem ref31_out_eq m a0:e12 jn m [] [] ⟨[(.dat 63 a0)],[],0⟩=ref31_out (m+1) a0:=
 tre (g:=fun J=>(bif ((Dt.I a0 1)==21) then
  (jj J 0 2 0 (s12_2 true a0) (e12 J m [1,1] []))
   else
  (bif ((Dt.I a0 1)==22) then
  (jj J 0 2 0 (s12_2 true a0) (e12 J m [1,1] []))
  else
  (jj J 0 2 0 (s12_2 ((Dt.I a0 1)==23) a0) (e12 J m [1,1] []))))) (fun J=>by kernel_rfl) (by simp only[jj_eq,ref31_out_j0_eq m];rfl)
def w5_11:List Nat:=[1,1,1,1,1]
def w5_9:List Nat:=[1,1,1,1,1,1]
def w5_12:List Nat:=[1,1,1,1,0,1]
def w5_10:List Nat:=[1,1,1,1,1,0,1]
def w5_0:List Nat:=w5_10++[0]
def w5_8:List Nat:=w5_0++[0,1]
def w5_4:List Nat:=w5_8++[1]
def w5_6:List Nat:=w5_8++[0,0,1,1]
def w5_5:List Nat:=w5_6++[1]
def w5_7:List Nat:=w5_8++[0,0,1,0,1]
def w5_1:List Nat:=w5_7++[0]
def w5_3:List Nat:=w5_1++[0,1]
def w5_2:List Nat:=w5_3++[1]
noncomputable def e5 (J:Nat→Nat→Nat→St→Option Int→Option Int) (m:Nat) (p ms:List Nat) (σ:St):=evAt Tryz.prog env (ct m) J (m+1) 8 75 Tryz.f8 d10 p ms σ
noncomputable def l5 (J:Nat→Nat→Nat→St→Option Int→Option Int) (m:Nat) (p ms:List Nat) (M:Nat) (σ:St):=loopAt Tryz.prog env (ct m) J (m+1) 8 75 Tryz.f8 d10 p ms M σ
noncomputable def s5_10 (x0:Int) (x1:Bool) (x2:Int) (x3:Dt):St:=⟨tsOf [(1,(.ptr 0 [] 0)),(4,(.dat 3 (.int x0))),(5,(.dat 4 (.bool x1))),(6,(.dat 3 (.int x2)))],[(.box 33 (.dat 33 x3))],0⟩
noncomputable def s5_13 (x0:Int) (x1:Dt):St:=⟨tsOf [(1,(.ptr 0 [] 0)),(4,(.dat 3 (.int x0)))],[(.box 33 (.dat 33 x1))],0⟩
noncomputable def s5_11 (x0:Int) (x1:Bool) (x2:Dt):St:=⟨tsOf [(1,(.ptr 0 [] 0)),(4,(.dat 3 (.int x0))),(5,(.dat 4 (.bool x1)))],[(.box 33 (.dat 33 x2))],0⟩
noncomputable def s5_14:St:=⟨tsOf [],[],0⟩
noncomputable def s5_3 (x0:Dt):St:=⟨tsOf [(1,(.ptr 0 [] 0))],[(.box 33 (.dat 33 x0))],0⟩
noncomputable def s5_2 (x0:Bool) (x1:Dt):St:=⟨tsOf [(1,(.ptr 0 [] 0)),(28,(.dat 4 (.bool x0)))],[(.box 33 (.dat 33 x1))],0⟩
noncomputable def s5_0 (x0:Int) (x1:Dt):St:=⟨tsOf [(1,(.ptr 0 [] 0)),(3,(.dat 34 (.int x0)))],[(.box 33 (.dat 33 x1))],0⟩
abbrev H5_5 (m M5:Nat) (rec5:Int→Dt→Option Int):Prop:=∀x0 x1,l5 jn m w5_0 [] M5 (s5_13 x0 x1)=rec5 x0 x1
abbrev H5_8 (m M5 M8:Nat) (rec8:Int→Bool→Int→Dt→Option Int):Prop:=∀x0 x1 x2 x3,l5 jn m w5_1 [M5] M8 (s5_10 x0 x1 x2 x3)=rec8 x0 x1 x2 x3
theorem ref31_Window_j10_eq m M5 rec5 (h5:H5_5 m M5 rec5) M8 rec8 (h8:H5_8 m M5 M8 rec8) x0 x1 x2 x3:e5 jn m w5_2 [M5,M8] (s5_10 x0 x1 x2 x3)=ref31_Window_j10 m rec5 rec8 x0 x1 x2 x3:=
 tre (g:=fun J=>(jj J 1 13 M8 (s5_10 x0 x1 (IntKind.wrap .i64 (x2+1)) x3) (l5 J m w5_1 [M5] M8))) (fun J=>by kernel_rfl) (by simp only[jj_eq,h8];rfl)
theorem ref31_Window_j9_eq m M5 rec5 (h5:H5_5 m M5 rec5) M8 rec8 (h8:H5_8 m M5 M8 rec8) x0 x1 x2 x3:e5 jn m w5_3 [M5,M8] (s5_10 x0 x1 x2 x3)=ref31_Window_j9 m rec5 rec8 x0 x1 x2 x3:=
 tre (g:=fun J=>(bif x1 then
  ((idx (Dt.L x3 2) x2).bind fun v4=>
  ((idx (Dt.L x3 2) x0).bind fun v5=>
  (jj J 0 14 0 (s5_10 x0 (Bool.not ((ByteArray.toList (Dt.S v4 0))==(ByteArray.toList (Dt.S v5 0)))) x2 x3) (e5 J m w5_2 [M5,M8]))))
   else
  (jj J 0 14 0 (s5_10 x0 false x2 x3) (e5 J m w5_2 [M5,M8])))) (fun J=>by kernel_rfl) (by simp only[jj_eq,ref31_Window_j10_eq m M5 rec5 h5 M8 rec8 h8];rfl)
theorem ref31_Window_j13_eq m M5 rec5 (h5:H5_5 m M5 rec5) x0 x1:e5 jn m w5_4 [M5] (s5_13 x0 x1)=ref31_Window_j13 m rec5 x0 x1:=
 tre (g:=fun J=>(jj J 1 9 M5 (s5_13 (IntKind.wrap .i64 (x0+1)) x1) (l5 J m w5_0 [] M5))) (fun J=>by kernel_rfl) (by simp only[jj_eq,h5];rfl)
theorem ref31_Window_j12_eq m M5 rec5 (h5:H5_5 m M5 rec5) x0 x1:e5 jn m w5_5 [M5] (s5_13 x0 x1)=ref31_Window_j12 m rec5 x0 x1:=
 tre (g:=fun J=>((idx (Dt.L x1 2) x0).bind fun v6=>
  ((ref31_out m v6).bind fun r7=>
  (bif (r7 !=0) then
  some r7
  else
  (jj J 0 10 0 (s5_13 x0 x1) (e5 J m w5_4 [M5])))))) (fun J=>by kernel_rfl) (by simp only[jj_eq,ref31_Window_j13_eq m M5 rec5 h5];rfl)
theorem ref31_Window_j11_eq m M5 rec5 (h5:H5_5 m M5 rec5) x0 x1 x2:e5 jn m w5_6 [M5] (s5_11 x0 x1 x2)=ref31_Window_j11 m rec5 x0 x1 x2:=
 tre (g:=fun J=>(bif (Bool.not x1) then
  some 9
   else
  (jj J 0 18 0 (s5_13 x0 x2) (e5 J m w5_5 [M5])))) (fun J=>by kernel_rfl) (by simp only[jj_eq,ref31_Window_j12_eq m M5 rec5 h5];rfl)
theorem ref31_Window_l8_eq m M5 rec5 (h5:H5_5 m M5 rec5):∀M8 x0 x1 x2 x3,l5 jn m w5_1 [M5] M8 (s5_10 x0 x1 x2 x3)=ref31_Window_l8 m rec5 M8 x0 x1 x2 x3
 |0,_,_,_,_=>rfl
 | M8+1,x0,x1,x2,x3=>
   trl (g:=fun J=>(bif (decide (x2<x0)) then
  (jj J 0 15 0 (s5_10 x0 x1 x2 x3) (e5 J m w5_3 [M5,M8]))
   else
  (jj J 0 16 0 (s5_11 x0 x1 x3) (e5 J m w5_6 [M5])))) (fun J=>by kernel_rfl) (by simp only[jj_eq,ref31_Window_j9_eq m M5 rec5 h5 M8 (ref31_Window_l8 m rec5 M8) (ref31_Window_l8_eq m M5 rec5 h5 M8),ref31_Window_j11_eq m M5 rec5 h5];rfl)
theorem ref31_Window_j7_eq m M5 rec5 (h5:H5_5 m M5 rec5) x0 x1 x2 x3:e5 jn m w5_7 [M5] (s5_10 x0 x1 x2 x3)=ref31_Window_j7 m rec5 x0 x1 x2 x3:=
 tre (g:=fun J=>(jj J 1 13 (Nat.succ m) (s5_10 x0 x1 x2 x3) (l5 J m w5_1 [M5] (Nat.succ m)))) (fun J=>by kernel_rfl) (by simp only[jj_eq,ref31_Window_l8_eq m M5 rec5 h5];rfl)
theorem ref31_Window_j6_eq m M5 rec5 (h5:H5_5 m M5 rec5) x0 x1:e5 jn m w5_8 [M5] (s5_13 x0 x1)=ref31_Window_j6 m rec5 x0 x1:=
 tre (g:=fun J=>((idx (Dt.L x1 2) x0).bind fun v2=>
  ((ref31_output m (Dt.S v2 0)).bind fun r3=>
  (jj J 0 13 0 (s5_10 x0 r3 0 x1) (e5 J m w5_7 [M5]))))) (fun J=>by kernel_rfl) (by simp only[jj_eq,ref31_Window_j7_eq m M5 rec5 h5];rfl)
theorem ref31_Window_j14_eq m:e5 jn m w5_9 [] s5_14=ref31_Window_j14 m:=
 tre (g:=fun J=>some 0) (fun J=>by kernel_rfl) (by rfl)
theorem ref31_Window_l5_eq m:∀M5 x0 x1,l5 jn m w5_0 [] M5 (s5_13 x0 x1)=ref31_Window_l5 m M5 x0 x1
 |0,_,_=>rfl
 | M5+1,x0,x1=>
   trl (g:=fun J=>(bif (decide (x0<(List.length (Dt.L x1 2):Int))) then
  (jj J 0 11 0 (s5_13 x0 x1) (e5 J m w5_8 [M5]))
   else
  (jj J 0 21 0 s5_14 (e5 J m w5_9 [])))) (fun J=>by kernel_rfl) (by simp only[jj_eq,ref31_Window_j6_eq m M5 (ref31_Window_l5 m M5) (ref31_Window_l5_eq m M5),ref31_Window_j14_eq m];rfl)
theorem ref31_Window_j4_eq m x0 x1:e5 jn m w5_10 [] (s5_13 x0 x1)=ref31_Window_j4 m x0 x1:=
 tre (g:=fun J=>(jj J 1 9 (Nat.succ m) (s5_13 x0 x1) (l5 J m w5_0 [] (Nat.succ m)))) (fun J=>by kernel_rfl) (by simp only[jj_eq,ref31_Window_l5_eq m];rfl)
theorem ref31_Window_j3_eq m x0:e5 jn m w5_11 [] (s5_3 x0)=ref31_Window_j3 m x0:=
 tre (g:=fun J=>(jj J 0 9 0 (s5_13 0 x0) (e5 J m w5_10 []))) (fun J=>by kernel_rfl) (by simp only[jj_eq,ref31_Window_j4_eq m];rfl)
theorem ref31_Window_j2_eq m x0 x1:e5 jn m w5_12 [] (s5_2 x0 x1)=ref31_Window_j2 m x0 x1:=
 tre (g:=fun J=>(bif x0 then
  some 21
   else
  (jj J 0 8 0 (s5_3 x1) (e5 J m w5_11 [])))) (fun J=>by kernel_rfl) (by simp only[jj_eq,ref31_Window_j3_eq m];rfl)
theorem ref31_Window_j1_eq m x0:e5 jn m [1,1,1,1] [] (s5_3 x0)=ref31_Window_j1 m x0:=
 tre (g:=fun J=>(bif (decide ((List.length (Dt.L x0 2):Int)<1)) then
  (jj J 0 7 0 (s5_2 true x0) (e5 J m w5_12 []))
   else
  (jj J 0 7 0 (s5_2 (decide (32<(List.length (Dt.L x0 2):Int))) x0) (e5 J m w5_12 [])))) (fun J=>by kernel_rfl) (by simp only[jj_eq,ref31_Window_j2_eq m];rfl)
theorem ref31_Window_j0_eq m x0 x1:e5 jn m [1,1,1] [] (s5_0 x0 x1)=ref31_Window_j0 m x0 x1:=
 tre (g:=fun J=>(bif (x0 !=0) then
  some x0
   else
  (jj J 0 6 0 (s5_3 x1) (e5 J m [1,1,1,1] [])))) (fun J=>by kernel_rfl) (by simp only[jj_eq,ref31_Window_j1_eq m];rfl)
theorem ref31_Window_eq m a0:e5 jn m [] [] ⟨[(.dat 33 a0)],[],0⟩=ref31_Window (m+1) a0:=
 tre (g:=fun J=>((ref08_Valid m (Dt.fld a0 0)).bind fun r0=>
  (bif (r0==0) then
  ((ref12_Valid m (Dt.L a0 1)).bind fun r1=>
  (jj J 0 4 0 (s5_0 r1 a0) (e5 J m [1,1,1] [])))
  else
  (jj J 0 4 0 (s5_0 r0 a0) (e5 J m [1,1,1] []))))) (fun J=>by kernel_rfl) (by simp only[jj_eq,ref31_Window_j0_eq m];rfl)
noncomputable def e2 (J:Nat→Nat→Nat→St→Option Int→Option Int) (m:Nat) (p ms:List Nat) (σ:St):=evAt Tryz.prog env (ct m) J (m+1) 5 5 Tryz.f5 d10 p ms σ
noncomputable def l2 (J:Nat→Nat→Nat→St→Option Int→Option Int) (m:Nat) (p ms:List Nat) (M:Nat) (σ:St):=loopAt Tryz.prog env (ct m) J (m+1) 5 5 Tryz.f5 d10 p ms M σ
theorem ref34_Valid_eq m a0:e2 jn m [] [] ⟨[(.dat 33 a0)],[],0⟩=ref34_Valid (m+1) a0:=
 tre (g:=fun J=>((ref31_Window m a0).bind fun r0=>
  some r0)) (fun J=>by kernel_rfl) (by rfl)
end Go.Proofs.YtbailjcjlapenaaGreatDoor
