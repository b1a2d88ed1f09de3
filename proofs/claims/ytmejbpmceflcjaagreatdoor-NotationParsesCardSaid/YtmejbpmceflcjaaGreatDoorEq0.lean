/- Generated: each function's run in the abstract machine is its shallow function. -/
import Derived.Test.YtmejbpmceflcjaaGreatDoorCt
import Derived.Test.YtmejbpmceflcjaaGreatDoorAmEnv
import Derived.KernelRfl
set_option linter.unusedVariables false
set_option linter.unusedSimpArgs false
namespace Go.Proofs.YtmejbpmceflcjaaGreatDoor
open Go.Am
set_option maxRecDepth 100000
noncomputable def e6 (J:Nat→Nat→Nat→St→Option (Int×Dt)→Option (Int×Dt)) (m:Nat) (p ms:List Nat) (σ:St):=evAt Tryz.prog env (ct m) J (m+1) 42 23 Tryz.f42 d6 p ms σ
noncomputable def l6 (J:Nat→Nat→Nat→St→Option (Int×Dt)→Option (Int×Dt)) (m:Nat) (p ms:List Nat) (M:Nat) (σ:St):=loopAt Tryz.prog env (ct m) J (m+1) 42 23 Tryz.f42 d6 p ms M σ
noncomputable def s6_0 (x0:Dt):St:=⟨tsOf [(0,(.ptr 0 [] 0))],[(.box 46 (.dat 46 x0))],1⟩
theorem i6_j0_eq m x0:e6 jn m [1,1] [] (s6_0 x0)=i6_j0 m x0:=
 tre (g:=fun J=>((idxS (Dt.S x0 0) (Dt.I x0 1)).bind fun v0=>
  some ((IntKind.wrap .i64 v0),x0))) (fun J=>by kernel_rfl) (by rfl)
theorem i6_eq m a0:e6 jn m [] [] ⟨[(.ptr 0 [] 0)],[(.box 46 (.dat 46 a0))],1⟩=i6 (m+1) a0:=
 tre (g:=fun J=>(bif ((Dt.I a0 1)==(ByteArray.size (Dt.S a0 0):Int)) then
  some ((-1),a0)
   else
  (jj J 0 3 0 (s6_0 a0) (e6 J m [1,1] [])))) (fun J=>by kernel_rfl) (by simp only[jj_eq,i6_j0_eq m];rfl)
def w5_0:List Nat:=[0,0,0,1,0,1]
noncomputable def e5 (J:Nat→Nat→Nat→St→Option Dt→Option Dt) (m:Nat) (p ms:List Nat) (σ:St):=evAt Tryz.prog env (ct m) J (m+1) 19 16 Tryz.f19 d5 p ms σ
noncomputable def l5 (J:Nat→Nat→Nat→St→Option Dt→Option Dt) (m:Nat) (p ms:List Nat) (M:Nat) (σ:St):=loopAt Tryz.prog env (ct m) J (m+1) 19 16 Tryz.f19 d5 p ms M σ
noncomputable def s5_1 (x0:Bool) (x1:Dt):St:=⟨tsOf [(0,(.ptr 0 [] 0)),(4,(.dat 4 (.bool x0)))],[(.box 46 (.dat 46 x1))],1⟩
noncomputable def s5_0 (x0:Dt):St:=⟨tsOf [(0,(.ptr 0 [] 0))],[(.box 46 (.dat 46 x0))],1⟩
abbrev H5_0 (m M0:Nat) (rec0:Dt→Option Dt):Prop:=∀x0,l5 jn m [0] [] M0 (s5_0 x0)=rec0 x0
theorem i5_j1_eq m M0 rec0 (h0:H5_0 m M0 rec0) x0 x1:e5 jn m w5_0 [M0] (s5_1 x0 x1)=i5_j1 m rec0 x0 x1:=
 tre (g:=fun J=>(bif x0 then
  (jj J 1 0 M0 (s5_0 (Dt.agg [(Dt.str (Dt.S x1 0)),(Dt.int (IntKind.wrap .i64 ((Dt.I x1 1)+1))),(Dt.int (Dt.I x1 2)),(Dt.int (Dt.I x1 3)),(Dt.int (Dt.I x1 4))])) (l5 J m [0] [] M0))
   else
  some x1)) (fun J=>by kernel_rfl) (by simp only[jj_eq,h0];rfl)
theorem i5_l0_eq m:∀M0 x0,l5 jn m [0] [] M0 (s5_0 x0)=i5_l0 m M0 x0
 |0,_=>rfl
 | M0+1,x0=>
   trl (g:=fun J=>((i6 m x0).bind fun r0=>
  (bif (r0.1==9) then
  (jj J 0 5 0 (s5_1 (r0.1==9) r0.2) (e5 J m w5_0 [M0]))
  else
  (bif (r0.1==10) then
  (jj J 0 5 0 (s5_1 (r0.1==10) r0.2) (e5 J m w5_0 [M0]))
  else
  (bif (r0.1==13) then
  (jj J 0 5 0 (s5_1 (r0.1==13) r0.2) (e5 J m w5_0 [M0]))
  else
  (jj J 0 5 0 (s5_1 (r0.1==32) r0.2) (e5 J m w5_0 [M0]))))))) (fun J=>by kernel_rfl) (by simp only[jj_eq,i5_j1_eq m M0 (i5_l0 m M0) (i5_l0_eq m M0)];rfl)
theorem i5_eq m a0:e5 jn m [] [] ⟨[(.ptr 0 [] 0)],[(.box 46 (.dat 46 a0))],1⟩=i5 (m+1) a0:=
 tre (g:=fun J=>(jj J 1 0 (Nat.succ m) (s5_0 a0) (l5 J m [0] [] (Nat.succ m)))) (fun J=>by kernel_rfl) (by simp only[jj_eq,i5_l0_eq m];rfl)
noncomputable def e9 (J:Nat→Nat→Nat→St→Option (Bool×Dt)→Option (Bool×Dt)) (m:Nat) (p ms:List Nat) (σ:St):=evAt Tryz.prog env (ct m) J (m+1) 21 15 Tryz.f21 d9 p ms σ
noncomputable def l9 (J:Nat→Nat→Nat→St→Option (Bool×Dt)→Option (Bool×Dt)) (m:Nat) (p ms:List Nat) (M:Nat) (σ:St):=loopAt Tryz.prog env (ct m) J (m+1) 21 15 Tryz.f21 d9 p ms M σ
theorem i9_eq m a0 a1 a2:e9 jn m [] [] ⟨[(.ptr 0 [] 0),(.dat 28 (.int a0)),(.dat 3 (.int a1))],[(.box 46 (.dat 46 a2))],1⟩=i9 (m+1) a0 a1 a2:=
 tre (g:=fun J=>some (false,(Dt.agg [(Dt.str (Dt.S a2 0)),(Dt.int (Dt.I a2 1)),(Dt.int (Dt.I a2 2)),(Dt.int a0),(Dt.int a1)]))) (fun J=>by kernel_rfl) (by rfl)
noncomputable def e8 (J:Nat→Nat→Nat→St→Option (Bool×Dt)→Option (Bool×Dt)) (m:Nat) (p ms:List Nat) (σ:St):=evAt Tryz.prog env (ct m) J (m+1) 43 26 Tryz.f43 d9 p ms σ
noncomputable def l8 (J:Nat→Nat→Nat→St→Option (Bool×Dt)→Option (Bool×Dt)) (m:Nat) (p ms:List Nat) (M:Nat) (σ:St):=loopAt Tryz.prog env (ct m) J (m+1) 43 26 Tryz.f43 d9 p ms M σ
noncomputable def s8_1 (x0:Dt):St:=⟨tsOf [(0,(.ptr 0 [] 0))],[(.box 46 (.dat 46 x0))],1⟩
noncomputable def s8_0 (x0:Int) (x1:Bool) (x2:Dt):St:=⟨tsOf [(0,(.ptr 0 [] 0)),(2,(.dat 3 (.int x0))),(15,(.dat 4 (.bool x1)))],[(.box 46 (.dat 46 x2))],1⟩
theorem i8_j1_eq m x0:e8 jn m [1,1] [] (s8_1 x0)=i8_j1 m x0:=
 tre (g:=fun J=>some (true,(Dt.agg [(Dt.str (Dt.S x0 0)),(Dt.int (Dt.I x0 1)),(Dt.int (IntKind.wrap .i64 ((Dt.I x0 2)+1))),(Dt.int (Dt.I x0 3)),(Dt.int (Dt.I x0 4))]))) (fun J=>by kernel_rfl) (by rfl)
theorem i8_j0_eq m x0 x1 x2:e8 jn m [1,0,1] [] (s8_0 x0 x1 x2)=i8_j0 m x0 x1 x2:=
 tre (g:=fun J=>(bif x1 then
  ((i9 m 2 x0 x2).bind fun r0=>
  some (r0.1,r0.2))
   else
  (jj J 0 3 0 (s8_1 x2) (e8 J m [1,1] [])))) (fun J=>by kernel_rfl) (by simp only[jj_eq,i8_j1_eq m];rfl)
theorem i8_eq m a0 a1 a2:e8 jn m [] [] ⟨[(.ptr 0 [] 0),(.dat 3 (.int a0)),(.dat 3 (.int a1))],[(.box 46 (.dat 46 a2))],1⟩=i8 (m+1) a0 a1 a2:=
 tre (g:=fun J=>(bif (decide (16<a0)) then
  (jj J 0 2 0 (s8_0 a1 true a2) (e8 J m [1,0,1] []))
   else
  (jj J 0 2 0 (s8_0 a1 ((Dt.I a2 2)==1024) a2) (e8 J m [1,0,1] [])))) (fun J=>by kernel_rfl) (by simp only[jj_eq,i8_j0_eq m];rfl)
def w13_0:List Nat:=[1,1,0,1,0]
def w13_8:List Nat:=[1,1,0,1,0,0,1,1]
def w13_1:List Nat:=w13_8++[1]
def w13_4:List Nat:=w13_8++[0,0,1,1,1,1]
def w13_2:List Nat:=w13_4++[1]
def w13_3:List Nat:=w13_4++[0,1]
def w13_7:List Nat:=w13_8++[0,0,1,1,1,0,0,1]
def w13_6:List Nat:=w13_7++[1,1]
def w13_5:List Nat:=w13_6++[1,1]
noncomputable def e13 (J:Nat→Nat→Nat→St→Option (Int×Bool×Dt)→Option (Int×Bool×Dt)) (m:Nat) (p ms:List Nat) (σ:St):=evAt Tryz.prog env (ct m) J (m+1) 103 76 Tryz.f103 d13 p ms σ
noncomputable def l13 (J:Nat→Nat→Nat→St→Option (Int×Bool×Dt)→Option (Int×Bool×Dt)) (m:Nat) (p ms:List Nat) (M:Nat) (σ:St):=loopAt Tryz.prog env (ct m) J (m+1) 103 76 Tryz.f103 d13 p ms M σ
noncomputable def s13_7 (x0 x1:Int) (x2:Dt):St:=⟨tsOf [(0,(.ptr 0 [] 0)),(4,(.dat 21 (.int x0))),(8,(.dat 3 (.int x1)))],[(.box 46 (.dat 46 x2))],1⟩
noncomputable def s13_6 (x0 x1 x2:Int) (x3:Dt):St:=⟨tsOf [(0,(.ptr 0 [] 0)),(4,(.dat 21 (.int x0))),(7,(.dat 3 (.int x1))),(8,(.dat 3 (.int x2)))],[(.box 46 (.dat 46 x3))],1⟩
noncomputable def s13_5 (x0 x1 x2:Int) (x3:Bool) (x4:Dt):St:=⟨tsOf [(0,(.ptr 0 [] 0)),(4,(.dat 21 (.int x0))),(7,(.dat 3 (.int x1))),(8,(.dat 3 (.int x2))),(55,(.dat 4 (.bool x3)))],[(.box 46 (.dat 46 x4))],1⟩
noncomputable def s13_4 (x0 x1 x2 x3:Int) (x4:Dt):St:=⟨tsOf [(0,(.ptr 0 [] 0)),(4,(.dat 21 (.int x0))),(5,(.dat 3 (.int x1))),(7,(.dat 3 (.int x2))),(8,(.dat 3 (.int x3)))],[(.box 46 (.dat 46 x4))],1⟩
noncomputable def s13_9 (x0 x1 x2 x3 x4:Int) (x5:Bool) (x6:Dt):St:=⟨tsOf [(0,(.ptr 0 [] 0)),(4,(.dat 21 (.int x0))),(5,(.dat 3 (.int x1))),(6,(.dat 3 (.int x2))),(7,(.dat 3 (.int x3))),(8,(.dat 3 (.int x4))),(32,(.dat 4 (.bool x5)))],[(.box 46 (.dat 46 x6))],1⟩
noncomputable def s13_8 (x0 x1 x2 x3 x4:Int) (x5:Bool) (x6:Dt):St:=⟨tsOf [(0,(.ptr 0 [] 0)),(4,(.dat 21 (.int x0))),(5,(.dat 3 (.int x1))),(6,(.dat 3 (.int x2))),(7,(.dat 3 (.int x3))),(8,(.dat 3 (.int x4))),(22,(.dat 4 (.bool x5)))],[(.box 46 (.dat 46 x6))],1⟩
noncomputable def s13_3 (x0 x1 x2 x3 x4:Int) (x5:Bool) (x6:Dt):St:=⟨tsOf [(0,(.ptr 0 [] 0)),(4,(.dat 21 (.int x0))),(5,(.dat 3 (.int x1))),(6,(.dat 3 (.int x2))),(7,(.dat 3 (.int x3))),(8,(.dat 3 (.int x4))),(13,(.dat 4 (.bool x5)))],[(.box 46 (.dat 46 x6))],1⟩
noncomputable def s13_10 (x0:Int) (x1:Dt):St:=⟨tsOf [(4,(.dat 21 (.int x0)))],[(.box 46 (.dat 46 x1))],1⟩
abbrev H13_1 (m M1:Nat) (rec1:Int→Int→Dt→Option (Int×Bool×Dt)):Prop:=∀x0 x1 x2,l13 jn m w13_0 [] M1 (s13_7 x0 x1 x2)=rec1 x0 x1 x2
theorem i13_j7_eq m M1 rec1 (h1:H13_1 m M1 rec1) x0 x1 x2:e13 jn m w13_1 [M1] (s13_7 x0 x1 x2)=i13_j7 m rec1 x0 x1 x2:=
 tre (g:=fun J=>(jj J 1 3 M1 (s13_7 x0 (IntKind.wrap .i64 (x1+1)) x2) (l13 J m w13_0 [] M1))) (fun J=>by kernel_rfl) (by simp only[jj_eq,h1];rfl)
theorem i13_j6_eq m M1 rec1 (h1:H13_1 m M1 rec1) x0 x1 x2 x3:e13 jn m w13_2 [M1] (s13_6 x0 x1 x2 x3)=i13_j6 m rec1 x0 x1 x2 x3:=
 tre (g:=fun J=>(jj J 0 17 0 (s13_7 (orI IntKind.i32 (shlI IntKind.i32 x0 4) (IntKind.wrap IntKind.i32 x1)) x2 (Dt.agg [(Dt.str (Dt.S x3 0)),(Dt.int (IntKind.wrap .i64 ((Dt.I x3 1)+1))),(Dt.int (Dt.I x3 2)),(Dt.int (Dt.I x3 3)),(Dt.int (Dt.I x3 4))])) (e13 J m w13_1 [M1]))) (fun J=>by kernel_rfl) (by simp only[jj_eq,i13_j7_eq m M1 rec1 h1];rfl)
theorem i13_j5_eq m M1 rec1 (h1:H13_1 m M1 rec1) x0 x1 x2 x3 x4:e13 jn m w13_3 [M1] (s13_5 x0 x1 x2 x3 x4)=i13_j5 m rec1 x0 x1 x2 x3 x4:=
 tre (g:=fun J=>(bif x3 then
  ((i9 m 4 (Dt.I x4 1) x4).bind fun r1=>
  some (0,r1.1,r1.2))
   else
  (jj J 0 15 0 (s13_6 x0 x1 x2 x4) (e13 J m w13_2 [M1])))) (fun J=>by kernel_rfl) (by simp only[jj_eq,i13_j6_eq m M1 rec1 h1];rfl)
theorem i13_j4_eq m M1 rec1 (h1:H13_1 m M1 rec1) x0 x1 x2 x3 x4:e13 jn m w13_4 [M1] (s13_4 x0 x1 x2 x3 x4)=i13_j4 m rec1 x0 x1 x2 x3 x4:=
 tre (g:=fun J=>(bif (decide (x2<0)) then
  (jj J 0 14 0 (s13_5 x0 x2 x3 true x4) (e13 J m w13_3 [M1]))
   else
  (bif (x1==1) then
  (bif (x0==13) then
  (jj J 0 14 0 (s13_5 x0 x2 x3 (decide (8≤x2)) x4) (e13 J m w13_3 [M1]))
  else
  (jj J 0 14 0 (s13_5 x0 x2 x3 false x4) (e13 J m w13_3 [M1])))
  else
  (jj J 0 14 0 (s13_5 x0 x2 x3 false x4) (e13 J m w13_3 [M1]))))) (fun J=>by kernel_rfl) (by simp only[jj_eq,i13_j5_eq m M1 rec1 h1];rfl)
theorem i13_j9_eq m M1 rec1 (h1:H13_1 m M1 rec1) x0 x1 x2 x3 x4 x5 x6:e13 jn m w13_5 [M1] (s13_9 x0 x1 x2 x3 x4 x5 x6)=i13_j9 m rec1 x0 x1 x2 x3 x4 x5 x6:=
 tre (g:=fun J=>(bif x5 then
  (jj J 0 13 0 (s13_4 x0 x1 (IntKind.wrap .i64 ((IntKind.wrap .i64 (x2-65))+10)) x4 x6) (e13 J m w13_4 [M1]))
   else
  (jj J 0 13 0 (s13_4 x0 x1 x3 x4 x6) (e13 J m w13_4 [M1])))) (fun J=>by kernel_rfl) (by simp only[jj_eq,i13_j4_eq m M1 rec1 h1];rfl)
theorem i13_j8_eq m M1 rec1 (h1:H13_1 m M1 rec1) x0 x1 x2 x3 x4 x5 x6:e13 jn m w13_6 [M1] (s13_8 x0 x1 x2 x3 x4 x5 x6)=i13_j8 m rec1 x0 x1 x2 x3 x4 x5 x6:=
 tre (g:=fun J=>(bif x5 then
  (jj J 0 13 0 (s13_4 x0 x1 (IntKind.wrap .i64 ((IntKind.wrap .i64 (x2-97))+10)) x4 x6) (e13 J m w13_4 [M1]))
   else
  (bif (decide (65≤x2)) then
  (jj J 0 12 0 (s13_9 x0 x1 x2 x3 x4 (decide (x2≤70)) x6) (e13 J m w13_5 [M1]))
  else
  (jj J 0 12 0 (s13_9 x0 x1 x2 x3 x4 false x6) (e13 J m w13_5 [M1]))))) (fun J=>by kernel_rfl) (by simp only[jj_eq,i13_j4_eq m M1 rec1 h1,i13_j9_eq m M1 rec1 h1];rfl)
theorem i13_j3_eq m M1 rec1 (h1:H13_1 m M1 rec1) x0 x1 x2 x3 x4 x5 x6:e13 jn m w13_7 [M1] (s13_3 x0 x1 x2 x3 x4 x5 x6)=i13_j3 m rec1 x0 x1 x2 x3 x4 x5 x6:=
 tre (g:=fun J=>(bif x5 then
  (jj J 0 13 0 (s13_4 x0 x1 (IntKind.wrap .i64 (x2-48)) x4 x6) (e13 J m w13_4 [M1]))
   else
  (bif (decide (97≤x2)) then
  (jj J 0 10 0 (s13_8 x0 x1 x2 x3 x4 (decide (x2≤102)) x6) (e13 J m w13_6 [M1]))
  else
  (jj J 0 10 0 (s13_8 x0 x1 x2 x3 x4 false x6) (e13 J m w13_6 [M1]))))) (fun J=>by kernel_rfl) (by simp only[jj_eq,i13_j4_eq m M1 rec1 h1,i13_j8_eq m M1 rec1 h1];rfl)
theorem i13_j2_eq m M1 rec1 (h1:H13_1 m M1 rec1) x0 x1 x2:e13 jn m w13_8 [M1] (s13_7 x0 x1 x2)=i13_j2 m rec1 x0 x1 x2:=
 tre (g:=fun J=>((i6 m x2).bind fun r0=>
  (bif (decide (48≤r0.1)) then
  (jj J 0 8 0 (s13_3 x0 x1 r0.1 (-1) x1 (decide (r0.1≤57)) r0.2) (e13 J m w13_7 [M1]))
  else
  (jj J 0 8 0 (s13_3 x0 x1 r0.1 (-1) x1 false r0.2) (e13 J m w13_7 [M1]))))) (fun J=>by kernel_rfl) (by simp only[jj_eq,i13_j3_eq m M1 rec1 h1];rfl)
theorem i13_j10_eq m x0 x1:e13 jn m [1,1,1] [] (s13_10 x0 x1)=i13_j10 m x0 x1:=
 tre (g:=fun J=>some (x0,true,x1)) (fun J=>by kernel_rfl) (by rfl)
theorem i13_l1_eq m:∀M1 x0 x1 x2,l13 jn m w13_0 [] M1 (s13_7 x0 x1 x2)=i13_l1 m M1 x0 x1 x2
 |0,_,_,_=>rfl
 | M1+1,x0,x1,x2=>
   trl (g:=fun J=>(bif (decide (x1<4)) then
  (jj J 0 4 0 (s13_7 x0 x1 x2) (e13 J m w13_8 [M1]))
   else
  (jj J 0 18 0 (s13_10 x0 x2) (e13 J m [1,1,1] [])))) (fun J=>by kernel_rfl) (by simp only[jj_eq,i13_j2_eq m M1 (i13_l1 m M1) (i13_l1_eq m M1),i13_j10_eq m];rfl)
theorem i13_j0_eq m x0 x1 x2:e13 jn m [1,1,0,1] [] (s13_7 x0 x1 x2)=i13_j0 m x0 x1 x2:=
 tre (g:=fun J=>(jj J 1 3 (Nat.succ m) (s13_7 x0 x1 x2) (l13 J m w13_0 [] (Nat.succ m)))) (fun J=>by kernel_rfl) (by simp only[jj_eq,i13_l1_eq m];rfl)
theorem i13_eq m a0:e13 jn m [] [] ⟨[(.ptr 0 [] 0)],[(.box 46 (.dat 46 a0))],1⟩=i13 (m+1) a0:=
 tre (g:=fun J=>(jj J 0 3 0 (s13_7 0 0 a0) (e13 J m [1,1,0,1] []))) (fun J=>by kernel_rfl) (by simp only[jj_eq,i13_j0_eq m];rfl)
def w12_0:List Nat:=[1,1,1,0,1,0,1]
noncomputable def e12 (J:Nat→Nat→Nat→St→Option (Int×Bool×Dt)→Option (Int×Bool×Dt)) (m:Nat) (p ms:List Nat) (σ:St):=evAt Tryz.prog env (ct m) J (m+1) 89 52 Tryz.f89 d13 p ms σ
noncomputable def l12 (J:Nat→Nat→Nat→St→Option (Int×Bool×Dt)→Option (Int×Bool×Dt)) (m:Nat) (p ms:List Nat) (M:Nat) (σ:St):=loopAt Tryz.prog env (ct m) J (m+1) 89 52 Tryz.f89 d13 p ms M σ
noncomputable def s12_1 (x0:Int) (x1:Dt):St:=⟨tsOf [(0,(.ptr 0 [] 0)),(5,(.dat 21 (.int x0)))],[(.box 46 (.dat 46 x1))],1⟩
noncomputable def s12_0 (x0 x1:Int) (x2:Bool) (x3:Dt):St:=⟨tsOf [(0,(.ptr 0 [] 0)),(5,(.dat 21 (.int x0))),(10,(.dat 3 (.int x1))),(17,(.dat 4 (.bool x2)))],[(.box 46 (.dat 46 x3))],1⟩
theorem i12_j1_eq m x0 x1:e12 jn m [1,1,1,1] [] (s12_1 x0 x1)=i12_j1 m x0 x1:=
 tre (g:=fun J=>some (x0,true,(Dt.agg [(Dt.str (Dt.S x1 0)),(Dt.int (IntKind.wrap .i64 ((Dt.I x1 1)+1))),(Dt.int (Dt.I x1 2)),(Dt.int (Dt.I x1 3)),(Dt.int (Dt.I x1 4))]))) (fun J=>by kernel_rfl) (by rfl)
theorem i12_j0_eq m x0 x1 x2 x3:e12 jn m w12_0 [] (s12_0 x0 x1 x2 x3)=i12_j0 m x0 x1 x2 x3:=
 tre (g:=fun J=>(bif x2 then
  (jj J 0 21 0 (s12_1 x0 x3) (e12 J m [1,1,1,1] []))
   else
  (bif (x1==98) then
  (jj J 0 21 0 (s12_1 8 x3) (e12 J m [1,1,1,1] []))
  else
  (bif (x1==102) then
  (jj J 0 21 0 (s12_1 12 x3) (e12 J m [1,1,1,1] []))
  else
  (bif (x1==110) then
  (jj J 0 21 0 (s12_1 10 x3) (e12 J m [1,1,1,1] []))
  else
  (bif (x1==114) then
  (jj J 0 21 0 (s12_1 13 x3) (e12 J m [1,1,1,1] []))
  else
  (bif (x1==116) then
  (jj J 0 21 0 (s12_1 9 x3) (e12 J m [1,1,1,1] []))
  else
  (bif (x1==117) then
  ((i13 m (Dt.agg [(Dt.str (Dt.S x3 0)),(Dt.int (IntKind.wrap .i64 ((Dt.I x3 1)+1))),(Dt.int (Dt.I x3 2)),(Dt.int (Dt.I x3 3)),(Dt.int (Dt.I x3 4))])).bind fun r1=>
  some (r1.1,r1.2.1,r1.2.2))
  else
  ((i9 m 4 (Dt.I x3 1) x3).bind fun r2=>
  some (0,r2.1,r2.2)))))))))) (fun J=>by kernel_rfl) (by simp only[jj_eq,i12_j1_eq m];rfl)
theorem i12_eq m a0:e12 jn m [] [] ⟨[(.ptr 0 [] 0)],[(.box 46 (.dat 46 a0))],1⟩=i12 (m+1) a0:=
 tre (g:=fun J=>((i6 m a0).bind fun r0=>
  (bif (r0.1==34) then
  (jj J 0 8 0 (s12_0 (IntKind.wrap IntKind.i32 r0.1) r0.1 (r0.1==34) r0.2) (e12 J m w12_0 []))
  else
  (bif (r0.1==92) then
  (jj J 0 8 0 (s12_0 (IntKind.wrap IntKind.i32 r0.1) r0.1 (r0.1==92) r0.2) (e12 J m w12_0 []))
  else
  (jj J 0 8 0 (s12_0 (IntKind.wrap IntKind.i32 r0.1) r0.1 (r0.1==47) r0.2) (e12 J m w12_0 [])))))) (fun J=>by kernel_rfl) (by simp only[jj_eq,i12_j0_eq m];rfl)
def w15_1:List Nat:=[1,1,0,1,1,1]
def w15_0:List Nat:=w15_1++[1,1]
noncomputable def e15 (J:Nat→Nat→Nat→St→Option (List Dt)→Option (List Dt)) (m:Nat) (p ms:List Nat) (σ:St):=evAt Tryz.prog env (ct m) J (m+1) 104 78 Tryz.f104 d15 p ms σ
noncomputable def l15 (J:Nat→Nat→Nat→St→Option (List Dt)→Option (List Dt)) (m:Nat) (p ms:List Nat) (M:Nat) (σ:St):=loopAt Tryz.prog env (ct m) J (m+1) 104 78 Tryz.f104 d15 p ms M σ
noncomputable def s15_1 (x0:Int) (x1:Bool) (x2:List Dt):St:=⟨tsOf [(0,(.row 1)),(1,(.dat 21 (.int x0))),(50,(.dat 4 (.bool x1)))],[.gone,(.row 40 x2)],1⟩
noncomputable def s15_0 (x0 x1:Int) (x2:Bool) (x3:List Dt):St:=⟨tsOf [(0,(.row 1)),(1,(.dat 21 (.int x0))),(5,(.dat 112 (.int x1))),(25,(.dat 4 (.bool x2)))],[.gone,(.row 40 x3)],1⟩
theorem i15_j1_eq m x0 x1 x2:e15 jn m w15_0 [] (s15_1 x0 x1 x2)=i15_j1 m x0 x1 x2:=
 tre (g:=fun J=>(bif x1 then
  ((app x2 [(Dt.int (orI IntKind.u8 240 (IntKind.wrap IntKind.u8 (shrI IntKind.i32 x0 18)))),(Dt.int (orI IntKind.u8 128 (andI IntKind.u8 (IntKind.wrap IntKind.u8 (shrI IntKind.i32 x0 12)) 63))),(Dt.int (orI IntKind.u8 128 (andI IntKind.u8 (IntKind.wrap IntKind.u8 (shrI IntKind.i32 x0 6)) 63))),(Dt.int (orI IntKind.u8 128 (andI IntKind.u8 (IntKind.wrap IntKind.u8 x0) 63)))]).bind fun v2=>
  some v2)
   else
  ((app x2 [(Dt.int 239),(Dt.int 191),(Dt.int 189)]).bind fun v3=>
  some v3))) (fun J=>by kernel_rfl) (by rfl)
theorem i15_j0_eq m x0 x1 x2 x3:e15 jn m w15_1 [] (s15_0 x0 x1 x2 x3)=i15_j0 m x0 x1 x2 x3:=
 tre (g:=fun J=>(bif x2 then
  ((app x3 [(Dt.int (orI IntKind.u8 224 (IntKind.wrap IntKind.u8 (shrI IntKind.i32 x0 12)))),(Dt.int (orI IntKind.u8 128 (andI IntKind.u8 (IntKind.wrap IntKind.u8 (shrI IntKind.i32 x0 6)) 63))),(Dt.int (orI IntKind.u8 128 (andI IntKind.u8 (IntKind.wrap IntKind.u8 x0) 63)))]).bind fun v1=>
  some v1)
   else
  (bif (decide (65535<x1)) then
  (jj J 0 9 0 (s15_1 x0 (decide (x1≤1114111)) x3) (e15 J m w15_0 []))
  else
  (jj J 0 9 0 (s15_1 x0 false x3) (e15 J m w15_0 []))))) (fun J=>by kernel_rfl) (by simp only[jj_eq,i15_j1_eq m];rfl)
theorem i15_eq m a0 a1:e15 jn m [] [] ⟨[(.row 0),(.dat 21 (.int a0))],[(.row 40 a1)],1⟩=i15 (m+1) a0 a1:=
 tre (g:=fun J=>(bif (decide ((IntKind.wrap IntKind.u32 a0)≤2047)) then
  ((app a1 [(Dt.int (orI IntKind.u8 192 (IntKind.wrap IntKind.u8 (shrI IntKind.i32 a0 6)))),(Dt.int (orI IntKind.u8 128 (andI IntKind.u8 (IntKind.wrap IntKind.u8 a0) 63)))]).bind fun v0=>
  some v0)
   else
  (bif (decide ((IntKind.wrap IntKind.u32 a0)<55296)) then
  (jj J 0 7 0 (s15_0 a0 (IntKind.wrap IntKind.u32 a0) (decide ((IntKind.wrap IntKind.u32 a0)<55296)) a1) (e15 J m w15_1 []))
  else
  (bif (decide (57343<(IntKind.wrap IntKind.u32 a0))) then
  (jj J 0 7 0 (s15_0 a0 (IntKind.wrap IntKind.u32 a0) (decide ((IntKind.wrap IntKind.u32 a0)≤65535)) a1) (e15 J m w15_1 []))
  else
  (jj J 0 7 0 (s15_0 a0 (IntKind.wrap IntKind.u32 a0) false a1) (e15 J m w15_1 [])))))) (fun J=>by kernel_rfl) (by simp only[jj_eq,i15_j0_eq m];rfl)
noncomputable def e14 (J:Nat→Nat→Nat→St→Option (List Dt)→Option (List Dt)) (m:Nat) (p ms:List Nat) (σ:St):=evAt Tryz.prog env (ct m) J (m+1) 90 16 Tryz.f90 d15 p ms σ
noncomputable def l14 (J:Nat→Nat→Nat→St→Option (List Dt)→Option (List Dt)) (m:Nat) (p ms:List Nat) (M:Nat) (σ:St):=loopAt Tryz.prog env (ct m) J (m+1) 90 16 Tryz.f90 d15 p ms M σ
noncomputable def s14_0 (x0:Int) (x1:List Dt):St:=⟨tsOf [(0,(.row 1)),(1,(.dat 21 (.int x0)))],[.gone,(.row 40 x1)],1⟩
theorem i14_j0_eq m x0 x1:e14 jn m [1,1] [] (s14_0 x0 x1)=i14_j0 m x0 x1:=
 tre (g:=fun J=>((i15 m x0 x1).bind fun r1=>
  some r1)) (fun J=>by kernel_rfl) (by rfl)
theorem i14_eq m a0 a1:e14 jn m [] [] ⟨[(.row 0),(.dat 21 (.int a0))],[(.row 40 a1)],1⟩=i14 (m+1) a0 a1:=
 tre (g:=fun J=>(bif (decide ((IntKind.wrap IntKind.u32 a0)≤127)) then
  ((app a1 [(Dt.int (IntKind.wrap IntKind.u8 a0))]).bind fun v0=>
  some v0)
   else
  (jj J 0 3 0 (s14_0 a0 a1) (e14 J m [1,1] [])))) (fun J=>by kernel_rfl) (by simp only[jj_eq,i14_j0_eq m];rfl)
def w11_3:List Nat:=[1,0,1,1,1]
def w11_0:List Nat:=[1,0,1,1,1,1]
def w11_1:List Nat:=[1,0,1,1,1,0,0]
def w11_2:List Nat:=w11_1++[0,0,1,0,1,1,1,1,1,0,1,1,1]
noncomputable def e11 (J:Nat→Nat→Nat→St→Option (ByteArray×Bool×Dt)→Option (ByteArray×Bool×Dt)) (m:Nat) (p ms:List Nat) (σ:St):=evAt Tryz.prog env (ct m) J (m+1) 69 70 Tryz.f69 d11 p ms σ
noncomputable def l11 (J:Nat→Nat→Nat→St→Option (ByteArray×Bool×Dt)→Option (ByteArray×Bool×Dt)) (m:Nat) (p ms:List Nat) (M:Nat) (σ:St):=loopAt Tryz.prog env (ct m) J (m+1) 69 70 Tryz.f69 d11 p ms M σ
noncomputable def s11_2 (x0:Dt) (x1:List Dt):St:=⟨tsOf [(4,(.row 1))],[(.box 46 (.dat 46 x0)),(.row 40 x1)],1⟩
noncomputable def s11_3 (x0:Int) (x1:Dt) (x2:List Dt):St:=⟨tsOf [(0,(.ptr 0 [] 0)),(4,(.row 1)),(6,(.dat 21 (.int x0)))],[(.box 46 (.dat 46 x1)),(.row 40 x2)],1⟩
noncomputable def s11_1 (x0:Dt) (x1:List Dt):St:=⟨tsOf [(0,(.ptr 0 [] 0)),(4,(.row 1))],[(.box 46 (.dat 46 x0)),(.row 40 x1)],1⟩
theorem i11_j2_eq m x0 x1:e11 jn m w11_0 [] (s11_2 x0 x1)=i11_j2 m x0 x1:=
 tre (g:=fun J=>((bif (Nat.ble (List.length x1) 137438953472) then(Option.some (strOfNums (List.map Dt.toInt x1))) else(Option.none)).bind fun v1=>
  some (v1,true,x0))) (fun J=>by kernel_rfl) (by rfl)
abbrev H11_1 (m M1:Nat) (rec1:Dt→List Dt→Option (ByteArray×Bool×Dt)):Prop:=∀x0 x1,l11 jn m w11_1 [] M1 (s11_1 x0 x1)=rec1 x0 x1
theorem i11_j3_eq m M1 rec1 (h1:H11_1 m M1 rec1) x0 x1 x2:e11 jn m w11_2 [M1] (s11_3 x0 x1 x2)=i11_j3 m rec1 x0 x1 x2:=
 tre (g:=fun J=>((i14 m x0 x2).bind fun r4=>
  (jj J 1 3 M1 (s11_1 x1 r4) (l11 J m w11_1 [] M1)))) (fun J=>by kernel_rfl) (by simp only[jj_eq,h1];rfl)
theorem i11_l1_eq m:∀M1 x0 x1,l11 jn m w11_1 [] M1 (s11_1 x0 x1)=i11_l1 m M1 x0 x1
 |0,_,_=>rfl
 | M1+1,x0,x1=>
   trl (g:=fun J=>((i6 m x0).bind fun r0=>
  (bif (r0.1==34) then
  (jj J 0 16 0 (s11_2 (Dt.agg [(Dt.str (Dt.S r0.2 0)),(Dt.int (IntKind.wrap .i64 ((Dt.I r0.2 1)+1))),(Dt.int (Dt.I r0.2 2)),(Dt.int (Dt.I r0.2 3)),(Dt.int (Dt.I r0.2 4))]) x1) (e11 J m w11_0 []))
  else
  (bif (decide (r0.1<32)) then
  ((i9 m 4 (Dt.I r0.2 1) r0.2).bind fun r2=>
  some ((ByteArray.mk (List.toArray [])),r2.1,r2.2))
  else
  (bif (r0.1==92) then
  ((i12 m (Dt.agg [(Dt.str (Dt.S r0.2 0)),(Dt.int (IntKind.wrap .i64 ((Dt.I r0.2 1)+1))),(Dt.int (Dt.I r0.2 2)),(Dt.int (Dt.I r0.2 3)),(Dt.int (Dt.I r0.2 4))])).bind fun r3=>
  (bif (Bool.not r3.2.1) then
  some ((ByteArray.mk (List.toArray [])),false,r3.2.2)
  else
  (jj J 0 15 0 (s11_3 r3.1 r3.2.2 x1) (e11 J m w11_2 [M1]))))
  else
  ((app x1 [(Dt.int (IntKind.wrap IntKind.u8 r0.1))]).bind fun v5=>
  (jj J 1 3 M1 (s11_1 (Dt.agg [(Dt.str (Dt.S r0.2 0)),(Dt.int (IntKind.wrap .i64 ((Dt.I r0.2 1)+1))),(Dt.int (Dt.I r0.2 2)),(Dt.int (Dt.I r0.2 3)),(Dt.int (Dt.I r0.2 4))]) v5) (l11 J m w11_1 [] M1)))))))) (fun J=>by kernel_rfl) (by simp only[jj_eq,i11_j2_eq m,i11_j3_eq m M1 (i11_l1 m M1) (i11_l1_eq m M1),i11_l1_eq m M1];rfl)
theorem i11_j0_eq m x0 x1:e11 jn m w11_3 [] (s11_1 x0 x1)=i11_j0 m x0 x1:=
 tre (g:=fun J=>(jj J 1 3 (Nat.succ m) (s11_1 x0 x1) (l11 J m w11_1 [] (Nat.succ m)))) (fun J=>by kernel_rfl) (by simp only[jj_eq,i11_l1_eq m];rfl)
theorem i11_eq m a0:e11 jn m [] [] ⟨[(.ptr 0 [] 0)],[(.box 46 (.dat 46 a0))],1⟩=i11 (m+1) a0:=
 tre (g:=fun J=>(jj J 0 3 0 (s11_1 (Dt.agg [(Dt.str (Dt.S a0 0)),(Dt.int (IntKind.wrap .i64 ((Dt.I a0 1)+1))),(Dt.int (Dt.I a0 2)),(Dt.int (Dt.I a0 3)),(Dt.int (Dt.I a0 4))]) []) (e11 J m w11_3 []))) (fun J=>by kernel_rfl) (by simp only[jj_eq,i11_j0_eq m];rfl)
def w10_1:List Nat:=[1,1,1,1,1]
def w10_0:List Nat:=[1,1,1,1,1,1]
noncomputable def e10 (J:Nat→Nat→Nat→St→Option (Dt×Bool×Dt)→Option (Dt×Bool×Dt)) (m:Nat) (p ms:List Nat) (σ:St):=evAt Tryz.prog env (ct m) J (m+1) 44 35 Tryz.f44 d10 p ms σ
noncomputable def l10 (J:Nat→Nat→Nat→St→Option (Dt×Bool×Dt)→Option (Dt×Bool×Dt)) (m:Nat) (p ms:List Nat) (M:Nat) (σ:St):=loopAt Tryz.prog env (ct m) J (m+1) 44 35 Tryz.f44 d10 p ms M σ
noncomputable def s10_2 (x0:ByteArray) (x1 x2:Dt):St:=⟨tsOf [(2,(.ptr 1 [] 0)),(5,(.dat 9 (.str x0)))],[(.box 46 (.dat 46 x1)),(.box 25 (.dat 25 x2))],1⟩
noncomputable def s10_1 (x0:Int) (x1:ByteArray) (x2 x3:Dt):St:=⟨tsOf [(0,(.ptr 0 [] 0)),(2,(.ptr 1 [] 0)),(4,(.dat 3 (.int x0))),(5,(.dat 9 (.str x1)))],[(.box 46 (.dat 46 x2)),(.box 25 (.dat 25 x3))],1⟩
theorem i10_j2_eq m x0 x1 x2:e10 jn m w10_0 [] (s10_2 x0 x1 x2)=i10_j2 m x0 x1 x2:=
 tre (g:=fun J=>some ((Dt.agg [(Dt.int 4),(Dt.int 0),(Dt.str x0),(Dt.lst []),(Dt.lst [])]),true,x1)) (fun J=>by kernel_rfl) (by rfl)
theorem i10_j1_eq m x0 x1 x2 x3:e10 jn m w10_1 [] (s10_1 x0 x1 x2 x3)=i10_j1 m x0 x1 x2 x3:=
 tre (g:=fun J=>((utf8_ValidString x1).bind fun r2=>
  (bif (Bool.not r2) then
  ((i9 m 4 x0 x2).bind fun r3=>
  some (kza2373,r3.1,r3.2))
  else
  (jj J 0 9 0 (s10_2 x1 x2 x3) (e10 J m w10_0 []))))) (fun J=>by kernel_rfl) (by simp only[jj_eq,i10_j2_eq m];rfl)
theorem i10_j0_eq m x0 x1 x2 x3:e10 jn m [1,1,1,1] [] (s10_1 x0 x1 x2 x3)=i10_j0 m x0 x1 x2 x3:=
 tre (g:=fun J=>(bif (decide (4096<(ByteArray.size x1:Int))) then
  ((i9 m 2 x0 x2).bind fun r1=>
  some (kza2373,r1.1,r1.2))
   else
  (jj J 0 7 0 (s10_1 x0 x1 x2 x3) (e10 J m w10_1 [])))) (fun J=>by kernel_rfl) (by simp only[jj_eq,i10_j1_eq m];rfl)
theorem i10_eq m a0:e10 jn m [] [] ⟨[(.ptr 0 [] 0)],[(.box 46 (.dat 46 a0))],1⟩=i10 (m+1) a0:=
 tre (g:=fun J=>((i11 m a0).bind fun r0=>
  (bif (Bool.not r0.2.1) then
  some (kza2373,false,r0.2.2)
  else
  (jj J 0 5 0 (s10_1 (Dt.I a0 1) r0.1 r0.2.2 kza2373) (e10 J m [1,1,1,1] []))))) (fun J=>by kernel_rfl) (by simp only[jj_eq,i10_j0_eq m];rfl)
def w20_2:List Nat:=[1,0,1,0,0,1,1]
def w20_0:List Nat:=w20_2++[1]
def w20_1:List Nat:=w20_2++[0,0,1,1]
noncomputable def e20 (J:Nat→Nat→Nat→St→Option Bool→Option Bool) (m:Nat) (p ms:List Nat) (σ:St):=evAt Tryz.prog env (ct m) J (m+1) 57 22 Tryz.f57 d20 p ms σ
noncomputable def l20 (J:Nat→Nat→Nat→St→Option Bool→Option Bool) (m:Nat) (p ms:List Nat) (M:Nat) (σ:St):=loopAt Tryz.prog env (ct m) J (m+1) 57 22 Tryz.f57 d20 p ms M σ
noncomputable def s20_4 (x0:ByteArray) (x1 x2:Int):St:=⟨tsOf [(0,(.dat 9 (.str x0))),(5,(.dat 3 (.int x1))),(6,(.dat 3 (.int x2)))],[],0⟩
noncomputable def s20_3 (x0:ByteArray) (x1 x2:Int) (x3:Bool):St:=⟨tsOf [(0,(.dat 9 (.str x0))),(5,(.dat 3 (.int x1))),(6,(.dat 3 (.int x2))),(18,(.dat 4 (.bool x3)))],[],0⟩
noncomputable def s20_5 (x0:ByteArray):St:=⟨tsOf [(0,(.dat 9 (.str x0)))],[],0⟩
abbrev H20_1 (m M1:Nat) (rec1:ByteArray→Int→Int→Option Bool):Prop:=∀x0 x1 x2,l20 jn m [1,0,1,0] [] M1 (s20_4 x0 x1 x2)=rec1 x0 x1 x2
theorem notation_isField_j4_eq m M1 rec1 (h1:H20_1 m M1 rec1) x0 x1 x2:e20 jn m w20_0 [M1] (s20_4 x0 x1 x2)=notation_isField_j4 m rec1 x0 x1 x2:=
 tre (g:=fun J=>(jj J 1 2 M1 (s20_4 x0 x1 (IntKind.wrap .i64 (x2+1))) (l20 J m [1,0,1,0] [] M1))) (fun J=>by kernel_rfl) (by simp only[jj_eq,h1];rfl)
theorem notation_isField_j3_eq m M1 rec1 (h1:H20_1 m M1 rec1) x0 x1 x2 x3:e20 jn m w20_1 [M1] (s20_3 x0 x1 x2 x3)=notation_isField_j3 m rec1 x0 x1 x2 x3:=
 tre (g:=fun J=>(bif x3 then
  some false
   else
  (jj J 0 6 0 (s20_4 x0 x1 x2) (e20 J m w20_0 [M1])))) (fun J=>by kernel_rfl) (by simp only[jj_eq,notation_isField_j4_eq m M1 rec1 h1];rfl)
theorem notation_isField_j2_eq m M1 rec1 (h1:H20_1 m M1 rec1) x0 x1 x2:e20 jn m w20_2 [M1] (s20_4 x0 x1 x2)=notation_isField_j2 m rec1 x0 x1 x2:=
 tre (g:=fun J=>((idxS x0 x2).bind fun v0=>
  (bif (decide (v0<32)) then
  (jj J 0 5 0 (s20_3 x0 x1 x2 true) (e20 J m w20_1 [M1]))
  else
  ((idxS x0 x2).bind fun v1=>
  (jj J 0 5 0 (s20_3 x0 x1 x2 (decide (126<v1))) (e20 J m w20_1 [M1])))))) (fun J=>by kernel_rfl) (by simp only[jj_eq,notation_isField_j3_eq m M1 rec1 h1];rfl)
theorem notation_isField_j5_eq m x0:e20 jn m [1,1] [] (s20_5 x0)=notation_isField_j5 m x0:=
 tre (g:=fun J=>some (Bool.not ((ByteArray.toList x0)==[]))) (fun J=>by kernel_rfl) (by rfl)
theorem notation_isField_l1_eq m:∀M1 x0 x1 x2,l20 jn m [1,0,1,0] [] M1 (s20_4 x0 x1 x2)=notation_isField_l1 m M1 x0 x1 x2
 |0,_,_,_=>rfl
 | M1+1,x0,x1,x2=>
   trl (g:=fun J=>(bif (decide (x2<x1)) then
  (jj J 0 3 0 (s20_4 x0 x1 x2) (e20 J m w20_2 [M1]))
   else
  (jj J 0 7 0 (s20_5 x0) (e20 J m [1,1] [])))) (fun J=>by kernel_rfl) (by simp only[jj_eq,notation_isField_j2_eq m M1 (notation_isField_l1 m M1) (notation_isField_l1_eq m M1),notation_isField_j5_eq m];rfl)
theorem notation_isField_j0_eq m x0 x1 x2:e20 jn m [1,0,1] [] (s20_4 x0 x1 x2)=notation_isField_j0 m x0 x1 x2:=
 tre (g:=fun J=>(jj J 1 2 (Nat.succ m) (s20_4 x0 x1 x2) (l20 J m [1,0,1,0] [] (Nat.succ m)))) (fun J=>by kernel_rfl) (by simp only[jj_eq,notation_isField_l1_eq m];rfl)
theorem notation_isField_eq m a0:e20 jn m [] [] ⟨[(.dat 9 (.str a0))],[],0⟩=notation_isField (m+1) a0:=
 tre (g:=fun J=>(jj J 0 2 0 (s20_4 a0 (ByteArray.size a0:Int) 0) (e20 J m [1,0,1] []))) (fun J=>by kernel_rfl) (by simp only[jj_eq,notation_isField_j0_eq m];rfl)
def w19_4:List Nat:=[1,1,1,1,1]
def w19_3:List Nat:=[1,1,1,1,1,1]
def w19_1:List Nat:=w19_3++[1]
def w19_2:List Nat:=w19_3++[0,1]
def w19_0:List Nat:=w19_1++[1,1]
noncomputable def e19 (J:Nat→Nat→Nat→St→Option (ByteArray×Bool×Dt×List Dt)→Option (ByteArray×Bool×Dt×List Dt)) (m:Nat) (p ms:List Nat) (σ:St):=evAt Tryz.prog env (ct m) J (m+1) 71 64 Tryz.f71 d19 p ms σ
noncomputable def l19 (J:Nat→Nat→Nat→St→Option (ByteArray×Bool×Dt×List Dt)→Option (ByteArray×Bool×Dt×List Dt)) (m:Nat) (p ms:List Nat) (M:Nat) (σ:St):=loopAt Tryz.prog env (ct m) J (m+1) 71 64 Tryz.f71 d19 p ms M σ
noncomputable def s19_5 (x0:ByteArray) (x1:Dt) (x2:List Dt):St:=⟨tsOf [(0,(.ptr 0 [] 0)),(7,(.dat 9 (.str x0)))],[(.box 46 (.dat 46 x1)),(.map 76 x2)],2⟩
noncomputable def s19_3 (x0:Int) (x1:ByteArray) (x2:Bool) (x3:Dt) (x4:List Dt):St:=⟨tsOf [(0,(.ptr 0 [] 0)),(6,(.dat 3 (.int x0))),(7,(.dat 9 (.str x1))),(39,(.dat 4 (.bool x2)))],[(.box 46 (.dat 46 x3)),(.map 76 x4)],2⟩
noncomputable def s19_2 (x0:Int) (x1:ByteArray) (x2:Dt) (x3:List Dt):St:=⟨tsOf [(0,(.ptr 0 [] 0)),(1,(.row 1)),(6,(.dat 3 (.int x0))),(7,(.dat 9 (.str x1)))],[(.box 46 (.dat 46 x2)),(.map 76 x3)],2⟩
noncomputable def s19_0 (x0:Int) (x1:Dt) (x2:List Dt):St:=⟨tsOf [(0,(.ptr 0 [] 0)),(1,(.row 1)),(6,(.dat 3 (.int x0)))],[(.box 46 (.dat 46 x1)),(.map 76 x2)],2⟩
theorem i19_j5_eq m x0 x1 x2:e19 jn m w19_0 [] (s19_5 x0 x1 x2)=i19_j5 m x0 x1 x2:=
 tre (g:=fun J=>((i5 m (Dt.agg [(Dt.str (Dt.S x1 0)),(Dt.int (IntKind.wrap .i64 ((Dt.I x1 1)+1))),(Dt.int (Dt.I x1 2)),(Dt.int (Dt.I x1 3)),(Dt.int (Dt.I x1 4))])).bind fun r9=>
  some (x0,true,r9,x2))) (fun J=>by kernel_rfl) (by rfl)
theorem i19_j4_eq m x0 x1 x2:e19 jn m w19_1 [] (s19_5 x0 x1 x2)=i19_j4 m x0 x1 x2:=
 tre (g:=fun J=>((i5 m x1).bind fun r6=>
  ((i6 m r6).bind fun r7=>
  (bif (r7.1 !=58) then
  ((i9 m 4 (Dt.I r7.2 1) r7.2).bind fun r8=>
  some ((ByteArray.mk (List.toArray [])),r8.1,r8.2,x2))
  else
  (jj J 0 14 0 (s19_5 x0 r7.2 x2) (e19 J m w19_0 [])))))) (fun J=>by kernel_rfl) (by simp only[jj_eq,i19_j5_eq m];rfl)
theorem i19_j3_eq m x0 x1 x2 x3 x4:e19 jn m w19_2 [] (s19_3 x0 x1 x2 x3 x4)=i19_j3 m x0 x1 x2 x3 x4:=
 tre (g:=fun J=>(bif x2 then
  ((i9 m 4 x0 x3).bind fun r5=>
  some ((ByteArray.mk (List.toArray [])),r5.1,r5.2,x4))
   else
  (jj J 0 11 0 (s19_5 x1 x3 x4) (e19 J m w19_1 [])))) (fun J=>by kernel_rfl) (by simp only[jj_eq,i19_j4_eq m];rfl)
theorem i19_j2_eq m x0 x1 x2 x3:e19 jn m w19_3 [] (s19_2 x0 x1 x2 x3)=i19_j2 m x0 x1 x2 x3:=
 tre (g:=fun J=>((notation_isField m x1).bind fun r4=>
  (bif (Bool.not r4) then
  (jj J 0 10 0 (s19_3 x0 x1 true x2 x3) (e19 J m w19_2 []))
  else
  (jj J 0 10 0 (s19_3 x0 x1 (Dt.toBool (mgetD x3 x1 (Dt.bool false))) x2 x3) (e19 J m w19_2 []))))) (fun J=>by kernel_rfl) (by simp only[jj_eq,i19_j3_eq m];rfl)
theorem i19_j1_eq m x0 x1 x2 x3:e19 jn m w19_4 [] (s19_2 x0 x1 x2 x3)=i19_j1 m x0 x1 x2 x3:=
 tre (g:=fun J=>(bif (decide (128<(ByteArray.size x1:Int))) then
  ((i9 m 2 x0 x2).bind fun r3=>
  some ((ByteArray.mk (List.toArray [])),r3.1,r3.2,x3))
   else
  (jj J 0 9 0 (s19_2 x0 x1 x2 x3) (e19 J m w19_3 [])))) (fun J=>by kernel_rfl) (by simp only[jj_eq,i19_j2_eq m];rfl)
theorem i19_j0_eq m x0 x1 x2:e19 jn m [1,1,1] [] (s19_0 x0 x1 x2)=i19_j0 m x0 x1 x2:=
 tre (g:=fun J=>((i11 m x1).bind fun r2=>
  (bif (Bool.not r2.2.1) then
  some ((ByteArray.mk (List.toArray [])),false,r2.2.2,x2)
  else
  (jj J 0 7 0 (s19_2 x0 r2.1 r2.2.2 x2) (e19 J m w19_4 []))))) (fun J=>by kernel_rfl) (by simp only[jj_eq,i19_j1_eq m];rfl)
theorem i19_eq m a0 a1:e19 jn m [] [] ⟨[(.ptr 0 [] 0),(.row 1)],[(.box 46 (.dat 46 a0)),(.map 76 a1)],2⟩=i19 (m+1) a0 a1:=
 tre (g:=fun J=>((i6 m a0).bind fun r0=>
  (bif (r0.1 !=34) then
  ((i9 m 4 (Dt.I a0 1) r0.2).bind fun r1=>
  some ((ByteArray.mk (List.toArray [])),r1.1,r1.2,a1))
  else
  (jj J 0 4 0 (s19_0 (Dt.I a0 1) r0.2 a1) (e19 J m [1,1,1] []))))) (fun J=>by kernel_rfl) (by simp only[jj_eq,i19_j0_eq m];rfl)
def w21_0:List Nat:=[1,0,1,0,1]
noncomputable def e21 (J:Nat→Nat→Nat→St→Option Bool→Option Bool) (m:Nat) (p ms:List Nat) (σ:St):=evAt Tryz.prog env (ct m) J (m+1) 72 10 Tryz.f72 d20 p ms σ
noncomputable def l21 (J:Nat→Nat→Nat→St→Option Bool→Option Bool) (m:Nat) (p ms:List Nat) (M:Nat) (σ:St):=loopAt Tryz.prog env (ct m) J (m+1) 72 10 Tryz.f72 d20 p ms M σ
noncomputable def s21_1:St:=⟨tsOf [],[],0⟩
noncomputable def s21_0 (x0:Bool):St:=⟨tsOf [(4,(.dat 4 (.bool x0)))],[],0⟩
theorem notation_isSpecial_j1_eq m:e21 jn m [1,1] [] s21_1=notation_isSpecial_j1 m:=
 tre (g:=fun J=>some false) (fun J=>by kernel_rfl) (by rfl)
theorem notation_isSpecial_j0_eq m x0:e21 jn m w21_0 [] (s21_0 x0)=notation_isSpecial_j0 m x0:=
 tre (g:=fun J=>(bif x0 then
  some true
   else
  (jj J 0 8 0 s21_1 (e21 J m [1,1] [])))) (fun J=>by kernel_rfl) (by simp only[jj_eq,notation_isSpecial_j1_eq m];rfl)
theorem notation_isSpecial_eq m a0:e21 jn m [] [] ⟨[(.dat 9 (.str a0))],[],0⟩=notation_isSpecial (m+1) a0:=
 tre (g:=fun J=>(bif ((ByteArray.toList a0)==[36,105,100]) then
  (jj J 0 7 0 (s21_0 ((ByteArray.toList a0)==[36,105,100])) (e21 J m w21_0 []))
   else
  (bif ((ByteArray.toList a0)==[36,98,121,116,101,115]) then
  (jj J 0 7 0 (s21_0 ((ByteArray.toList a0)==[36,98,121,116,101,115])) (e21 J m w21_0 []))
  else
  (bif ((ByteArray.toList a0)==[36,116,105,109,101]) then
  (jj J 0 7 0 (s21_0 ((ByteArray.toList a0)==[36,116,105,109,101])) (e21 J m w21_0 []))
  else
  (bif ((ByteArray.toList a0)==[36,109,105,110]) then
  (jj J 0 7 0 (s21_0 ((ByteArray.toList a0)==[36,109,105,110])) (e21 J m w21_0 []))
  else
  (jj J 0 7 0 (s21_0 ((ByteArray.toList a0)==[36,109,97,120])) (e21 J m w21_0 []))))))) (fun J=>by kernel_rfl) (by simp only[jj_eq,notation_isSpecial_j0_eq m];rfl)
def w23_7:List Nat:=[1,1,1,0,1]
def w23_0:List Nat:=[1,1,1,0,1,0]
def w23_6:List Nat:=w23_0++[0,1,1]
def w23_1:List Nat:=w23_6++[1]
def w23_3:List Nat:=w23_6++[0,0,1,1,1]
def w23_2:List Nat:=w23_3++[1]
def w23_5:List Nat:=w23_6++[0,0,1,1,0,1,0,1]
def w23_4:List Nat:=w23_5++[1,1]
noncomputable def e23 (J:Nat→Nat→Nat→St→Option (ByteArray×Bool)→Option (ByteArray×Bool)) (m:Nat) (p ms:List Nat) (σ:St):=evAt Tryz.prog env (ct m) J (m+1) 85 72 Tryz.f85 d23 p ms σ
noncomputable def l23 (J:Nat→Nat→Nat→St→Option (ByteArray×Bool)→Option (ByteArray×Bool)) (m:Nat) (p ms:List Nat) (M:Nat) (σ:St):=loopAt Tryz.prog env (ct m) J (m+1) 85 72 Tryz.f85 d23 p ms M σ
noncomputable def s23_8 (x0 x1:Int) (x2:Dt) (x3:List Dt):St:=⟨tsOf [(1,(.ptr 0 [] 0)),(4,(.row 1)),(25,(.dat 3 (.int x0))),(26,(.dat 3 (.int x1)))],[(.box 25 (.dat 25 x2)),(.row 40 x3)],0⟩
noncomputable def s23_7 (x0 x1 x2 x3:Int) (x4:Dt) (x5:List Dt):St:=⟨tsOf [(1,(.ptr 0 [] 0)),(4,(.row 1)),(5,(.dat 3 (.int x0))),(6,(.dat 3 (.int x1))),(25,(.dat 3 (.int x2))),(26,(.dat 3 (.int x3)))],[(.box 25 (.dat 25 x4)),(.row 40 x5)],0⟩
noncomputable def s23_9 (x0 x1 x2 x3 x4:Int) (x5:Bool) (x6:Dt) (x7:List Dt):St:=⟨tsOf [(1,(.ptr 0 [] 0)),(4,(.row 1)),(5,(.dat 3 (.int x0))),(6,(.dat 3 (.int x1))),(7,(.dat 5 (.int x2))),(25,(.dat 3 (.int x3))),(26,(.dat 3 (.int x4))),(43,(.dat 4 (.bool x5)))],[(.box 25 (.dat 25 x6)),(.row 40 x7)],0⟩
noncomputable def s23_5 (x0 x1 x2 x3 x4:Int) (x5:Bool) (x6:Dt) (x7:List Dt):St:=⟨tsOf [(1,(.ptr 0 [] 0)),(4,(.row 1)),(5,(.dat 3 (.int x0))),(6,(.dat 3 (.int x1))),(7,(.dat 5 (.int x2))),(25,(.dat 3 (.int x3))),(26,(.dat 3 (.int x4))),(33,(.dat 4 (.bool x5)))],[(.box 25 (.dat 25 x6)),(.row 40 x7)],0⟩
noncomputable def s23_10 (x0:List Dt):St:=⟨tsOf [(4,(.row 0))],[(.row 40 x0)],0⟩
noncomputable def s23_1 (x0:Dt):St:=⟨tsOf [(1,(.ptr 0 [] 0))],[(.box 25 (.dat 25 x0))],0⟩
noncomputable def s23_0 (x0:Bool) (x1:Dt):St:=⟨tsOf [(1,(.ptr 0 [] 0)),(17,(.dat 4 (.bool x0)))],[(.box 25 (.dat 25 x1))],0⟩
abbrev H23_3 (m M3:Nat) (rec3:Int→Int→Dt→List Dt→Option (ByteArray×Bool)):Prop:=∀x0 x1 x2 x3,l23 jn m w23_0 [] M3 (s23_8 x0 x1 x2 x3)=rec3 x0 x1 x2 x3
theorem notation_fromHex_j8_eq m M3 rec3 (h3:H23_3 m M3 rec3) x0 x1 x2 x3:e23 jn m w23_1 [M3] (s23_8 x0 x1 x2 x3)=notation_fromHex_j8 m rec3 x0 x1 x2 x3:=
 tre (g:=fun J=>(jj J 1 5 M3 (s23_8 x0 (IntKind.wrap .i64 (x1+1)) x2 x3) (l23 J m w23_0 [] M3))) (fun J=>by kernel_rfl) (by simp only[jj_eq,h3];rfl)
theorem notation_fromHex_j7_eq m M3 rec3 (h3:H23_3 m M3 rec3) x0 x1 x2 x3 x4 x5:e23 jn m w23_2 [M3] (s23_7 x0 x1 x2 x3 x4 x5)=notation_fromHex_j7 m rec3 x0 x1 x2 x3 x4 x5:=
 tre (g:=fun J=>((inL x5 (IntKind.wrap .i64 (Int.tdiv x0 2))).bind fun v2=>
  ((x5[(Int.toNat (IntKind.wrap .i64 (Int.tdiv x0 2)))]?).bind fun v3=>
  ((inL x5 (IntKind.wrap .i64 (Int.tdiv x0 2))).bind fun v4=>
  ((x5[(Int.toNat (IntKind.wrap .i64 (Int.tdiv x0 2)))]?).bind fun v5=>
  (jj J 0 16 0 (s23_8 x2 x3 x4 (List.set x5 (Int.toNat (IntKind.wrap .i64 (Int.tdiv x0 2))) (Dt.int (orI IntKind.u8 (shlI IntKind.u8 (Dt.toInt v3) 4) (IntKind.wrap IntKind.u8 x1))))) (e23 J m w23_1 [M3]))))))) (fun J=>by kernel_rfl) (by simp only[jj_eq,notation_fromHex_j8_eq m M3 rec3 h3];rfl)
theorem notation_fromHex_j6_eq m M3 rec3 (h3:H23_3 m M3 rec3) x0 x1 x2 x3 x4 x5:e23 jn m w23_3 [M3] (s23_7 x0 x1 x2 x3 x4 x5)=notation_fromHex_j6 m rec3 x0 x1 x2 x3 x4 x5:=
 tre (g:=fun J=>(bif (decide (x1<0)) then
  some ((ByteArray.mk (List.toArray [])),false)
   else
  (jj J 0 15 0 (s23_7 x0 x1 x2 x3 x4 x5) (e23 J m w23_2 [M3])))) (fun J=>by kernel_rfl) (by simp only[jj_eq,notation_fromHex_j7_eq m M3 rec3 h3];rfl)
theorem notation_fromHex_j9_eq m M3 rec3 (h3:H23_3 m M3 rec3) x0 x1 x2 x3 x4 x5 x6 x7:e23 jn m w23_4 [M3] (s23_9 x0 x1 x2 x3 x4 x5 x6 x7)=notation_fromHex_j9 m rec3 x0 x1 x2 x3 x4 x5 x6 x7:=
 tre (g:=fun J=>(bif x5 then
  (jj J 0 13 0 (s23_7 x0 (IntKind.wrap .i64 ((IntKind.wrap .i64 (IntKind.wrap IntKind.u8 (x2-97)))+10)) x3 x4 x6 x7) (e23 J m w23_3 [M3]))
   else
  (jj J 0 13 0 (s23_7 x0 x1 x3 x4 x6 x7) (e23 J m w23_3 [M3])))) (fun J=>by kernel_rfl) (by simp only[jj_eq,notation_fromHex_j6_eq m M3 rec3 h3];rfl)
theorem notation_fromHex_j5_eq m M3 rec3 (h3:H23_3 m M3 rec3) x0 x1 x2 x3 x4 x5 x6 x7:e23 jn m w23_5 [M3] (s23_5 x0 x1 x2 x3 x4 x5 x6 x7)=notation_fromHex_j5 m rec3 x0 x1 x2 x3 x4 x5 x6 x7:=
 tre (g:=fun J=>(bif x5 then
  (jj J 0 13 0 (s23_7 x0 (IntKind.wrap .i64 (IntKind.wrap IntKind.u8 (x2-48))) x3 x4 x6 x7) (e23 J m w23_3 [M3]))
   else
  (bif (decide (97≤x2)) then
  (jj J 0 12 0 (s23_9 x0 x1 x2 x3 x4 (decide (x2≤102)) x6 x7) (e23 J m w23_4 [M3]))
  else
  (jj J 0 12 0 (s23_9 x0 x1 x2 x3 x4 false x6 x7) (e23 J m w23_4 [M3]))))) (fun J=>by kernel_rfl) (by simp only[jj_eq,notation_fromHex_j6_eq m M3 rec3 h3,notation_fromHex_j9_eq m M3 rec3 h3];rfl)
theorem notation_fromHex_j4_eq m M3 rec3 (h3:H23_3 m M3 rec3) x0 x1 x2 x3:e23 jn m w23_6 [M3] (s23_8 x0 x1 x2 x3)=notation_fromHex_j4 m rec3 x0 x1 x2 x3:=
 tre (g:=fun J=>((idxS (Dt.S x2 2) x1).bind fun v1=>
  (bif (decide (48≤v1)) then
  (jj J 0 10 0 (s23_5 x1 (-1) v1 x0 x1 (decide (v1≤57)) x2 x3) (e23 J m w23_5 [M3]))
  else
  (jj J 0 10 0 (s23_5 x1 (-1) v1 x0 x1 false x2 x3) (e23 J m w23_5 [M3]))))) (fun J=>by kernel_rfl) (by simp only[jj_eq,notation_fromHex_j5_eq m M3 rec3 h3];rfl)
theorem notation_fromHex_j10_eq m x0:e23 jn m [1,1,1,1] [] (s23_10 x0)=notation_fromHex_j10 m x0:=
 tre (g:=fun J=>((bif (Nat.ble (List.length x0) 137438953472) then(Option.some (strOfNums (List.map Dt.toInt x0))) else(Option.none)).bind fun v6=>
  some (v6,true))) (fun J=>by kernel_rfl) (by rfl)
theorem notation_fromHex_l3_eq m:∀M3 x0 x1 x2 x3,l23 jn m w23_0 [] M3 (s23_8 x0 x1 x2 x3)=notation_fromHex_l3 m M3 x0 x1 x2 x3
 |0,_,_,_,_=>rfl
 | M3+1,x0,x1,x2,x3=>
   trl (g:=fun J=>(bif (decide (x1<x0)) then
  (jj J 0 6 0 (s23_8 x0 x1 x2 x3) (e23 J m w23_6 [M3]))
   else
  (jj J 0 17 0 (s23_10 x3) (e23 J m [1,1,1,1] [])))) (fun J=>by kernel_rfl) (by simp only[jj_eq,notation_fromHex_j4_eq m M3 (notation_fromHex_l3 m M3) (notation_fromHex_l3_eq m M3),notation_fromHex_j10_eq m];rfl)
theorem notation_fromHex_j2_eq m x0 x1 x2 x3:e23 jn m w23_7 [] (s23_8 x0 x1 x2 x3)=notation_fromHex_j2 m x0 x1 x2 x3:=
 tre (g:=fun J=>(jj J 1 5 (Nat.succ m) (s23_8 x0 x1 x2 x3) (l23 J m w23_0 [] (Nat.succ m)))) (fun J=>by kernel_rfl) (by simp only[jj_eq,notation_fromHex_l3_eq m];rfl)
theorem notation_fromHex_j1_eq m x0:e23 jn m [1,1] [] (s23_1 x0)=notation_fromHex_j1 m x0:=
 tre (g:=fun J=>((mkL (IntKind.wrap .i64 (Int.tdiv (ByteArray.size (Dt.S x0 2):Int) 2)) (IntKind.wrap .i64 (Int.tdiv (ByteArray.size (Dt.S x0 2):Int) 2)) (Dt.int 0)).bind fun v0=>
  (jj J 0 5 0 (s23_8 (ByteArray.size (Dt.S x0 2):Int) 0 x0 v0) (e23 J m w23_7 [])))) (fun J=>by kernel_rfl) (by simp only[jj_eq,notation_fromHex_j2_eq m];rfl)
theorem notation_fromHex_j0_eq m x0 x1:e23 jn m [1,0,1] [] (s23_0 x0 x1)=notation_fromHex_j0 m x0 x1:=
 tre (g:=fun J=>(bif x0 then
  some ((ByteArray.mk (List.toArray [])),false)
   else
  (jj J 0 3 0 (s23_1 x1) (e23 J m [1,1] [])))) (fun J=>by kernel_rfl) (by simp only[jj_eq,notation_fromHex_j1_eq m];rfl)
theorem notation_fromHex_eq m a0:e23 jn m [] [] ⟨[(.dat 25 a0)],[],0⟩=notation_fromHex (m+1) a0:=
 tre (g:=fun J=>(bif ((Dt.I a0 0) !=4) then
  (jj J 0 2 0 (s23_0 true a0) (e23 J m [1,0,1] []))
   else
  (jj J 0 2 0 (s23_0 ((Int.tmod (ByteArray.size (Dt.S a0 2):Int) 2) !=0) a0) (e23 J m [1,0,1] [])))) (fun J=>by kernel_rfl) (by simp only[jj_eq,notation_fromHex_j0_eq m];rfl)
def w22_0:List Nat:=[1,1,1,1,1]
noncomputable def e22 (J:Nat→Nat→Nat→St→Option (Dt×Bool×List Dt)→Option (Dt×Bool×List Dt)) (m:Nat) (p ms:List Nat) (σ:St):=evAt Tryz.prog env (ct m) J (m+1) 62 80 Tryz.f62 d22 p ms σ
noncomputable def l22 (J:Nat→Nat→Nat→St→Option (Dt×Bool×List Dt)→Option (Dt×Bool×List Dt)) (m:Nat) (p ms:List Nat) (M:Nat) (σ:St):=loopAt Tryz.prog env (ct m) J (m+1) 62 80 Tryz.f62 d22 p ms M σ
noncomputable def s22_1 (x0:List Dt) (x1:Dt):St:=⟨tsOf [(2,(.ptr 1 [] 0))],[(.row 23 x0),(.box 25 (.dat 25 x1))],1⟩
noncomputable def s22_0 (x0:List Dt) (x1:Dt):St:=⟨tsOf [(0,(.row 0)),(2,(.ptr 1 [] 0))],[(.row 23 x0),(.box 25 (.dat 25 x1))],1⟩
theorem i22_j1_eq m x0 x1:e22 jn m w22_0 [] (s22_1 x0 x1)=i22_j1 m x0 x1:=
 tre (g:=fun J=>some (kza2373,false,x0)) (fun J=>by kernel_rfl) (by rfl)
theorem i22_j0_eq m x0 x1:e22 jn m [1,1] [] (s22_0 x0 x1)=i22_j0 m x0 x1:=
 tre (g:=fun J=>((inL x0 0).bind fun v0=>
  ((x0[0]?).bind fun v1=>
  ((inL x0 0).bind fun v2=>
  ((x0[0]?).bind fun v3=>
  (bif ((ByteArray.toList (Dt.S v3 0))==[36,105,100]) then
  ((notation_fromHex m (Dt.fld v1 1)).bind fun r4=>
  (bif r4.2 then
  some ((Dt.agg [(Dt.int 8),(Dt.int 0),(Dt.str r4.1),(Dt.lst []),(Dt.lst [])]),((ByteArray.size r4.1:Int)==12),x0)
  else
  some ((Dt.agg [(Dt.int 8),(Dt.int 0),(Dt.str r4.1),(Dt.lst []),(Dt.lst [])]),false,x0)))
  else
  (bif ((ByteArray.toList (Dt.S v3 0))==[36,98,121,116,101,115]) then
  ((notation_fromHex m (Dt.fld v1 1)).bind fun r5=>
  some ((Dt.agg [(Dt.int 7),(Dt.int 0),(Dt.str r5.1),(Dt.lst []),(Dt.lst [])]),r5.2,x0))
  else
  (bif ((ByteArray.toList (Dt.S v3 0))==[36,116,105,109,101]) then
  (bif ((Dt.I (Dt.fld v1 1) 0)==3) then
  some ((Dt.agg [(Dt.int 10),(Dt.int (Dt.I (Dt.fld v1 1) 1)),(Dt.str (ByteArray.mk (List.toArray []))),(Dt.lst []),(Dt.lst [])]),(decide (0≤(Dt.I (Dt.fld v1 1) 1))),x0)
  else
  some ((Dt.agg [(Dt.int 10),(Dt.int (Dt.I (Dt.fld v1 1) 1)),(Dt.str (ByteArray.mk (List.toArray []))),(Dt.lst []),(Dt.lst [])]),false,x0))
  else
  (bif ((ByteArray.toList (Dt.S v3 0))==[36,109,105,110]) then
  (bif ((Dt.I (Dt.fld v1 1) 0)==3) then
  some (kz2ef54,((Dt.I (Dt.fld v1 1) 1)==1),x0)
  else
  some (kz2ef54,false,x0))
  else
  (bif ((ByteArray.toList (Dt.S v3 0))==[36,109,97,120]) then
  (bif ((Dt.I (Dt.fld v1 1) 0)==3) then
  some (kzedecf,((Dt.I (Dt.fld v1 1) 1)==1),x0)
  else
  some (kzedecf,false,x0))
  else
  (jj J 0 18 0 (s22_1 x0 x1) (e22 J m w22_0 [])))))))))))) (fun J=>by kernel_rfl) (by simp only[jj_eq,i22_j1_eq m];rfl)
theorem i22_eq m a0:e22 jn m [] [] ⟨[(.row 0)],[(.row 23 a0)],1⟩=i22 (m+1) a0:=
 tre (g:=fun J=>(bif ((List.length a0:Int) !=1) then
  some (kza2373,false,a0)
   else
  (jj J 0 3 0 (s22_0 a0 kza2373) (e22 J m [1,1] [])))) (fun J=>by kernel_rfl) (by simp only[jj_eq,i22_j0_eq m];rfl)
def w24_2:List Nat:=[1,0,1,0,0,1,1]
def w24_0:List Nat:=w24_2++[1]
def w24_1:List Nat:=w24_2++[0,0,1,1]
noncomputable def e24 (J:Nat→Nat→Nat→St→Option (Bool×Dt)→Option (Bool×Dt)) (m:Nat) (p ms:List Nat) (σ:St):=evAt Tryz.prog env (ct m) J (m+1) 47 32 Tryz.f47 d9 p ms σ
noncomputable def l24 (J:Nat→Nat→Nat→St→Option (Bool×Dt)→Option (Bool×Dt)) (m:Nat) (p ms:List Nat) (M:Nat) (σ:St):=loopAt Tryz.prog env (ct m) J (m+1) 47 32 Tryz.f47 d9 p ms M σ
noncomputable def s24_4 (x0:ByteArray) (x1 x2:Int) (x3:Dt):St:=⟨tsOf [(0,(.ptr 0 [] 0)),(1,(.dat 9 (.str x0))),(7,(.dat 3 (.int x1))),(8,(.dat 3 (.int x2)))],[(.box 46 (.dat 46 x3))],1⟩
noncomputable def s24_5 (x0:Dt):St:=⟨tsOf [],[(.box 46 (.dat 46 x0))],1⟩
abbrev H24_1 (m M1:Nat) (rec1:ByteArray→Int→Int→Dt→Option (Bool×Dt)):Prop:=∀x0 x1 x2 x3,l24 jn m [1,0,1,0] [] M1 (s24_4 x0 x1 x2 x3)=rec1 x0 x1 x2 x3
theorem i24_j4_eq m M1 rec1 (h1:H24_1 m M1 rec1) x0 x1 x2 x3:e24 jn m w24_0 [M1] (s24_4 x0 x1 x2 x3)=i24_j4 m rec1 x0 x1 x2 x3:=
 tre (g:=fun J=>(jj J 1 2 M1 (s24_4 x0 x1 (IntKind.wrap .i64 (x2+1)) x3) (l24 J m [1,0,1,0] [] M1))) (fun J=>by kernel_rfl) (by simp only[jj_eq,h1];rfl)
theorem i24_j3_eq m M1 rec1 (h1:H24_1 m M1 rec1) x0 x1 x2 x3:e24 jn m w24_1 [M1] (s24_4 x0 x1 x2 x3)=i24_j3 m rec1 x0 x1 x2 x3:=
 tre (g:=fun J=>(jj J 0 7 0 (s24_4 x0 x1 x2 (Dt.agg [(Dt.str (Dt.S x3 0)),(Dt.int (IntKind.wrap .i64 ((Dt.I x3 1)+1))),(Dt.int (Dt.I x3 2)),(Dt.int (Dt.I x3 3)),(Dt.int (Dt.I x3 4))])) (e24 J m w24_0 [M1]))) (fun J=>by kernel_rfl) (by simp only[jj_eq,i24_j4_eq m M1 rec1 h1];rfl)
theorem i24_j2_eq m M1 rec1 (h1:H24_1 m M1 rec1) x0 x1 x2 x3:e24 jn m w24_2 [M1] (s24_4 x0 x1 x2 x3)=i24_j2 m rec1 x0 x1 x2 x3:=
 tre (g:=fun J=>((i6 m x3).bind fun r0=>
  ((idxS x0 x2).bind fun v1=>
  (bif (r0.1 !=(IntKind.wrap .i64 v1)) then
  ((i9 m 4 (Dt.I r0.2 1) r0.2).bind fun r2=>
  some (r2.1,r2.2))
  else
  (jj J 0 6 0 (s24_4 x0 x1 x2 r0.2) (e24 J m w24_1 [M1])))))) (fun J=>by kernel_rfl) (by simp only[jj_eq,i24_j3_eq m M1 rec1 h1];rfl)
theorem i24_j5_eq m x0:e24 jn m [1,1] [] (s24_5 x0)=i24_j5 m x0:=
 tre (g:=fun J=>some (true,x0)) (fun J=>by kernel_rfl) (by rfl)
theorem i24_l1_eq m:∀M1 x0 x1 x2 x3,l24 jn m [1,0,1,0] [] M1 (s24_4 x0 x1 x2 x3)=i24_l1 m M1 x0 x1 x2 x3
 |0,_,_,_,_=>rfl
 | M1+1,x0,x1,x2,x3=>
   trl (g:=fun J=>(bif (decide (x2<x1)) then
  (jj J 0 3 0 (s24_4 x0 x1 x2 x3) (e24 J m w24_2 [M1]))
   else
  (jj J 0 8 0 (s24_5 x3) (e24 J m [1,1] [])))) (fun J=>by kernel_rfl) (by simp only[jj_eq,i24_j2_eq m M1 (i24_l1 m M1) (i24_l1_eq m M1),i24_j5_eq m];rfl)
theorem i24_j0_eq m x0 x1 x2 x3:e24 jn m [1,0,1] [] (s24_4 x0 x1 x2 x3)=i24_j0 m x0 x1 x2 x3:=
 tre (g:=fun J=>(jj J 1 2 (Nat.succ m) (s24_4 x0 x1 x2 x3) (l24 J m [1,0,1,0] [] (Nat.succ m)))) (fun J=>by kernel_rfl) (by simp only[jj_eq,i24_l1_eq m];rfl)
theorem i24_eq m a0 a1:e24 jn m [] [] ⟨[(.ptr 0 [] 0),(.dat 9 (.str a0))],[(.box 46 (.dat 46 a1))],1⟩=i24 (m+1) a0 a1:=
 tre (g:=fun J=>(jj J 0 2 0 (s24_4 a0 (ByteArray.size a0:Int) 0 a1) (e24 J m [1,0,1] []))) (fun J=>by kernel_rfl) (by simp only[jj_eq,i24_j0_eq m];rfl)
def w25_4:List Nat:=[1,1,1,1,1,1]
def w25_5:List Nat:=[1,1,1,1,1,0,1]
def w25_3:List Nat:=w25_4++[1,1]
def w25_2:List Nat:=w25_3++[1,1]
def w25_0:List Nat:=w25_4++[1,0,1,0,0]
def w25_1:List Nat:=w25_0++[0,1]
noncomputable def e25 (J:Nat→Nat→Nat→St→Option (Dt×Bool×Dt)→Option (Dt×Bool×Dt)) (m:Nat) (p ms:List Nat) (σ:St):=evAt Tryz.prog env (ct m) J (m+1) 48 92 Tryz.f48 d10 p ms σ
noncomputable def l25 (J:Nat→Nat→Nat→St→Option (Dt×Bool×Dt)→Option (Dt×Bool×Dt)) (m:Nat) (p ms:List Nat) (M:Nat) (σ:St):=loopAt Tryz.prog env (ct m) J (m+1) 48 92 Tryz.f48 d10 p ms M σ
noncomputable def s25_4 (x0:Int) (x1 x2:Dt):St:=⟨tsOf [(0,(.ptr 0 [] 0)),(2,(.ptr 1 [] 0)),(4,(.dat 3 (.int x0)))],[(.box 46 (.dat 46 x1)),(.box 25 (.dat 25 x2))],1⟩
noncomputable def s25_6 (x0:Int) (x1 x2:Dt):St:=⟨tsOf [(2,(.ptr 1 [] 0)),(7,(.dat 2 (.int x0)))],[(.box 46 (.dat 46 x1)),(.box 25 (.dat 25 x2))],1⟩
noncomputable def s25_2 (x0 x1:Int) (x2 x3:Dt):St:=⟨tsOf [(0,(.ptr 0 [] 0)),(2,(.ptr 1 [] 0)),(4,(.dat 3 (.int x0))),(6,(.dat 3 (.int x1)))],[(.box 46 (.dat 46 x2)),(.box 25 (.dat 25 x3))],1⟩
noncomputable def s25_1 (x0 x1:Int) (x2:Bool) (x3 x4:Dt):St:=⟨tsOf [(0,(.ptr 0 [] 0)),(2,(.ptr 1 [] 0)),(4,(.dat 3 (.int x0))),(6,(.dat 3 (.int x1))),(38,(.dat 4 (.bool x2)))],[(.box 46 (.dat 46 x3)),(.box 25 (.dat 25 x4))],1⟩
noncomputable def s25_0 (x0:Int) (x1:Bool) (x2 x3:Dt):St:=⟨tsOf [(0,(.ptr 0 [] 0)),(2,(.ptr 1 [] 0)),(4,(.dat 3 (.int x0))),(5,(.dat 4 (.bool x1)))],[(.box 46 (.dat 46 x2)),(.box 25 (.dat 25 x3))],1⟩
abbrev H25_3 (m M3:Nat) (rec3:Int→Dt→Dt→Option (Dt×Bool×Dt)):Prop:=∀x0 x1 x2,l25 jn m w25_0 [] M3 (s25_4 x0 x1 x2)=rec3 x0 x1 x2
theorem i25_j4_eq m M3 rec3 (h3:H25_3 m M3 rec3) x0 x1 x2:e25 jn m w25_1 [M3] (s25_4 x0 x1 x2)=i25_j4 m rec3 x0 x1 x2:=
 tre (g:=fun J=>(jj J 1 10 M3 (s25_4 x0 (Dt.agg [(Dt.str (Dt.S x1 0)),(Dt.int (IntKind.wrap .i64 ((Dt.I x1 1)+1))),(Dt.int (Dt.I x1 2)),(Dt.int (Dt.I x1 3)),(Dt.int (Dt.I x1 4))]) x2) (l25 J m w25_0 [] M3))) (fun J=>by kernel_rfl) (by simp only[jj_eq,h3];rfl)
theorem i25_j6_eq m x0 x1 x2:e25 jn m w25_2 [] (s25_6 x0 x1 x2)=i25_j6 m x0 x1 x2:=
 tre (g:=fun J=>some ((Dt.agg [(Dt.int 3),(Dt.int x0),(Dt.str (ByteArray.mk (List.toArray []))),(Dt.lst []),(Dt.lst [])]),true,x1)) (fun J=>by kernel_rfl) (by rfl)
theorem i25_j5_eq m x0 x1 x2:e25 jn m w25_3 [] (s25_4 x0 x1 x2)=i25_j5 m x0 x1 x2:=
 tre (g:=fun J=>((cutS (Dt.S x1 0) x0 (Dt.I x1 1)).bind fun v5=>
  ((strconv_ParseInt v5 10 64).bind fun r6=>
  (bif (Bool.not r6.2) then
  ((i9 m 2 x0 x1).bind fun r7=>
  some (kza2373,r7.1,r7.2))
  else
  (jj J 0 15 0 (s25_6 r6.1 x1 x2) (e25 J m w25_2 [])))))) (fun J=>by kernel_rfl) (by simp only[jj_eq,i25_j6_eq m];rfl)
theorem i25_l3_eq m:∀M3 x0 x1 x2,l25 jn m w25_0 [] M3 (s25_4 x0 x1 x2)=i25_l3 m M3 x0 x1 x2
 |0,_,_,_=>rfl
 | M3+1,x0,x1,x2=>
   trl (g:=fun J=>((i6 m x1).bind fun r3=>
  (bif (decide (48≤r3.1)) then
  ((i6 m r3.2).bind fun r4=>
  (bif (decide (r4.1≤57)) then
  (jj J 0 11 0 (s25_4 x0 r4.2 x2) (e25 J m w25_1 [M3]))
  else
  (jj J 0 12 0 (s25_4 x0 r4.2 x2) (e25 J m w25_3 []))))
  else
  (jj J 0 12 0 (s25_4 x0 r3.2 x2) (e25 J m w25_3 []))))) (fun J=>by kernel_rfl) (by simp only[jj_eq,i25_j4_eq m M3 (i25_l3 m M3) (i25_l3_eq m M3),i25_j5_eq m];rfl)
theorem i25_j2_eq m x0 x1 x2 x3:e25 jn m w25_4 [] (s25_2 x0 x1 x2 x3)=i25_j2 m x0 x1 x2 x3:=
 tre (g:=fun J=>(bif (x1 !=48) then
  (jj J 1 10 (Nat.succ m) (s25_4 x0 (Dt.agg [(Dt.str (Dt.S x2 0)),(Dt.int (IntKind.wrap .i64 ((Dt.I x2 1)+1))),(Dt.int (Dt.I x2 2)),(Dt.int (Dt.I x2 3)),(Dt.int (Dt.I x2 4))]) x3) (l25 J m w25_0 [] (Nat.succ m)))
   else
  (jj J 0 12 0 (s25_4 x0 (Dt.agg [(Dt.str (Dt.S x2 0)),(Dt.int (IntKind.wrap .i64 ((Dt.I x2 1)+1))),(Dt.int (Dt.I x2 2)),(Dt.int (Dt.I x2 3)),(Dt.int (Dt.I x2 4))]) x3) (e25 J m w25_3 [])))) (fun J=>by kernel_rfl) (by simp only[jj_eq,i25_l3_eq m,i25_j5_eq m];rfl)
theorem i25_j1_eq m x0 x1 x2 x3 x4:e25 jn m w25_5 [] (s25_1 x0 x1 x2 x3 x4)=i25_j1 m x0 x1 x2 x3 x4:=
 tre (g:=fun J=>(bif x2 then
  ((i9 m 4 (Dt.I x3 1) x3).bind fun r2=>
  some (kza2373,r2.1,r2.2))
   else
  (jj J 0 8 0 (s25_2 x0 x1 x3 x4) (e25 J m w25_4 [])))) (fun J=>by kernel_rfl) (by simp only[jj_eq,i25_j2_eq m];rfl)
theorem i25_j0_eq m x0 x1 x2 x3:e25 jn m [1,1,1,1] [] (s25_0 x0 x1 x2 x3)=i25_j0 m x0 x1 x2 x3:=
 tre (g:=fun J=>((i6 m x2).bind fun r1=>
  (bif (decide (r1.1<48)) then
  (jj J 0 7 0 (s25_1 x0 r1.1 true r1.2 x3) (e25 J m w25_5 []))
  else
  (bif (decide (57<r1.1)) then
  (jj J 0 7 0 (s25_1 x0 r1.1 true r1.2 x3) (e25 J m w25_5 []))
  else
  (bif x1 then
  (jj J 0 7 0 (s25_1 x0 r1.1 (r1.1==48) r1.2 x3) (e25 J m w25_5 []))
  else
  (jj J 0 7 0 (s25_1 x0 r1.1 false r1.2 x3) (e25 J m w25_5 []))))))) (fun J=>by kernel_rfl) (by simp only[jj_eq,i25_j1_eq m];rfl)
theorem i25_eq m a0:e25 jn m [] [] ⟨[(.ptr 0 [] 0)],[(.box 46 (.dat 46 a0))],1⟩=i25 (m+1) a0:=
 tre (g:=fun J=>((i6 m a0).bind fun r0=>
  (bif (r0.1==45) then
  (jj J 0 5 0 (s25_0 (Dt.I a0 1) (r0.1==45) (Dt.agg [(Dt.str (Dt.S r0.2 0)),(Dt.int (IntKind.wrap .i64 ((Dt.I r0.2 1)+1))),(Dt.int (Dt.I r0.2 2)),(Dt.int (Dt.I r0.2 3)),(Dt.int (Dt.I r0.2 4))]) kza2373) (e25 J m [1,1,1,1] []))
  else
  (jj J 0 5 0 (s25_0 (Dt.I a0 1) (r0.1==45) r0.2 kza2373) (e25 J m [1,1,1,1] []))))) (fun J=>by kernel_rfl) (by simp only[jj_eq,i25_j0_eq m];rfl)
def w7_1:List Nat:=[1,1,1,1,1]
def w7_0:List Nat:=[1,1,1,1,1,1]
def w7_4:List Nat:=[1,1,1,1,0,0,1]
def w7_2:List Nat:=w7_4++[0,1]
def w7_3:List Nat:=w7_4++[1,1]
noncomputable def e7 (J:Nat→Nat→Nat→St→Option (Dt×Bool×Dt)→Option (Dt×Bool×Dt)) (m:Nat) (p ms:List Nat) (σ:St):=evAt Tryz.prog env (ct m) J (m+1) 20 112 Tryz.f20 d10 p ms σ
noncomputable def l7 (J:Nat→Nat→Nat→St→Option (Dt×Bool×Dt)→Option (Dt×Bool×Dt)) (m:Nat) (p ms:List Nat) (M:Nat) (σ:St):=loopAt Tryz.prog env (ct m) J (m+1) 20 112 Tryz.f20 d10 p ms M σ
noncomputable def s7_4 (x0 x1:Dt):St:=⟨tsOf [(0,(.ptr 0 [] 0)),(6,(.ptr 1 [] 0))],[(.box 46 (.dat 46 x0)),(.box 25 (.dat 25 x1))],1⟩
noncomputable def s7_3 (x0 x1:Int) (x2 x3:Dt):St:=⟨tsOf [(0,(.ptr 0 [] 0)),(1,(.dat 3 (.int x0))),(6,(.ptr 1 [] 0)),(9,(.dat 3 (.int x1)))],[(.box 46 (.dat 46 x2)),(.box 25 (.dat 25 x3))],1⟩
noncomputable def s7_2 (x0 x1:Int) (x2:Bool) (x3 x4:Dt):St:=⟨tsOf [(0,(.ptr 0 [] 0)),(1,(.dat 3 (.int x0))),(6,(.ptr 1 [] 0)),(9,(.dat 3 (.int x1))),(45,(.dat 4 (.bool x2)))],[(.box 46 (.dat 46 x3)),(.box 25 (.dat 25 x4))],1⟩
noncomputable def s7_5 (x0 x1 x2:Int) (x3:Bool) (x4 x5:Dt):St:=⟨tsOf [(0,(.ptr 0 [] 0)),(1,(.dat 3 (.int x0))),(6,(.ptr 1 [] 0)),(8,(.dat 3 (.int x1))),(9,(.dat 3 (.int x2))),(47,(.dat 4 (.bool x3)))],[(.box 46 (.dat 46 x4)),(.box 25 (.dat 25 x5))],1⟩
noncomputable def s7_1 (x0:Int) (x1:Bool) (x2 x3:Int) (x4:Bool) (x5 x6:Dt):St:=⟨tsOf [(0,(.ptr 0 [] 0)),(1,(.dat 3 (.int x0))),(2,(.dat 4 (.bool x1))),(6,(.ptr 1 [] 0)),(8,(.dat 3 (.int x2))),(9,(.dat 3 (.int x3))),(31,(.dat 4 (.bool x4)))],[(.box 46 (.dat 46 x5)),(.box 25 (.dat 25 x6))],1⟩
noncomputable def s7_0 (x0:Int) (x1:Bool) (x2 x3:Int) (x4:Bool) (x5 x6:Dt):St:=⟨tsOf [(0,(.ptr 0 [] 0)),(1,(.dat 3 (.int x0))),(2,(.dat 4 (.bool x1))),(6,(.ptr 1 [] 0)),(8,(.dat 3 (.int x2))),(9,(.dat 3 (.int x3))),(10,(.dat 4 (.bool x4)))],[(.box 46 (.dat 46 x5)),(.box 25 (.dat 25 x6))],1⟩
theorem i7_j4_eq m x0 x1:e7 jn m w7_0 [] (s7_4 x0 x1)=i7_j4 m (i17 m) (i18 m) x0 x1:=
 tre (g:=fun J=>((i25 m x0).bind fun r8=>
  some (r8.1,r8.2.1,r8.2.2))) (fun J=>by kernel_rfl) (by rfl)
theorem i7_j3_eq m x0 x1 x2 x3:e7 jn m w7_1 [] (s7_3 x0 x1 x2 x3)=i7_j3 m (i17 m) (i18 m) x0 x1 x2 x3:=
 tre (g:=fun J=>(bif (x1==34) then
  ((i10 m x2).bind fun r2=>
  some (r2.1,r2.2.1,r2.2.2))
   else
  (bif (x1==91) then
  ((i17 m x0 x2).bind fun r3=>
  some (r3.1,r3.2.1,r3.2.2))
  else
  (bif (x1==123) then
  ((i18 m x0 x2).bind fun r4=>
  some (r4.1,r4.2.1,r4.2.2))
  else
  (bif (x1==110) then
  ((i24 m (ByteArray.mk (List.toArray [110,117,108,108])) x2).bind fun r5=>
  some (kz3c25e,r5.1,r5.2))
  else
  (bif (x1==116) then
  ((i24 m (ByteArray.mk (List.toArray [116,114,117,101])) x2).bind fun r6=>
  some (kzb2fe3,r6.1,r6.2))
  else
  (bif (x1==102) then
  ((i24 m (ByteArray.mk (List.toArray [102,97,108,115,101])) x2).bind fun r7=>
  some (kzb0365,r7.1,r7.2))
  else
  (jj J 0 24 0 (s7_4 x2 x3) (e7 J m w7_0 []))))))))) (fun J=>by kernel_rfl) (by simp only[jj_eq,i7_j4_eq m];rfl)
theorem i7_j2_eq m x0 x1 x2 x3 x4:e7 jn m w7_2 [] (s7_2 x0 x1 x2 x3 x4)=i7_j2 m (i17 m) (i18 m) x0 x1 x2 x3 x4:=
 tre (g:=fun J=>(bif x2 then
  some (kza2373,false,x3)
   else
  (jj J 0 11 0 (s7_3 x0 x1 x3 x4) (e7 J m w7_1 [])))) (fun J=>by kernel_rfl) (by simp only[jj_eq,i7_j3_eq m];rfl)
theorem i7_j5_eq m x0 x1 x2 x3 x4 x5:e7 jn m w7_3 [] (s7_5 x0 x1 x2 x3 x4 x5)=i7_j5 m (i17 m) (i18 m) x0 x1 x2 x3 x4 x5:=
 tre (g:=fun J=>(bif x3 then
  ((i8 m x0 x1 x4).bind fun r9=>
  (bif (Bool.not r9.1) then
  some (kza2373,false,r9.2)
  else
  (jj J 0 11 0 (s7_3 x0 x2 r9.2 x5) (e7 J m w7_1 []))))
   else
  ((i9 m 4 x1 x4).bind fun r10=>
  some (kza2373,r10.1,r10.2)))) (fun J=>by kernel_rfl) (by simp only[jj_eq,i7_j3_eq m];rfl)
theorem i7_j1_eq m x0 x1 x2 x3 x4 x5 x6:e7 jn m w7_4 [] (s7_1 x0 x1 x2 x3 x4 x5 x6)=i7_j1 m (i17 m) (i18 m) x0 x1 x2 x3 x4 x5 x6:=
 tre (g:=fun J=>(bif x4 then
  (bif (Bool.not x1) then
  ((i8 m x0 x2 x5).bind fun r1=>
  (jj J 0 7 0 (s7_2 x0 x3 (Bool.not r1.1) r1.2 x6) (e7 J m w7_2 [])))
  else
  (jj J 0 7 0 (s7_2 x0 x3 false x5 x6) (e7 J m w7_2 [])))
   else
  (bif (x3==91) then
  (jj J 0 9 0 (s7_5 x0 x2 x3 true x5 x6) (e7 J m w7_3 []))
  else
  (bif (x3==123) then
  (jj J 0 9 0 (s7_5 x0 x2 x3 true x5 x6) (e7 J m w7_3 []))
  else
  (bif (x3==110) then
  (jj J 0 9 0 (s7_5 x0 x2 x3 true x5 x6) (e7 J m w7_3 []))
  else
  (bif (x3==116) then
  (jj J 0 9 0 (s7_5 x0 x2 x3 true x5 x6) (e7 J m w7_3 []))
  else
  (jj J 0 9 0 (s7_5 x0 x2 x3 (x3==102) x5 x6) (e7 J m w7_3 [])))))))) (fun J=>by kernel_rfl) (by simp only[jj_eq,i7_j2_eq m,i7_j5_eq m];rfl)
theorem i7_j0_eq m x0 x1 x2 x3 x4 x5 x6:e7 jn m [1,1,1,1] [] (s7_0 x0 x1 x2 x3 x4 x5 x6)=i7_j0 m (i17 m) (i18 m) x0 x1 x2 x3 x4 x5 x6:=
 tre (g:=fun J=>(bif (x3==34) then
  (jj J 0 6 0 (s7_1 x0 x1 x2 x3 true x5 x6) (e7 J m w7_4 []))
   else
  (jj J 0 6 0 (s7_1 x0 x1 x2 x3 x4 x5 x6) (e7 J m w7_4 [])))) (fun J=>by kernel_rfl) (by simp only[jj_eq,i7_j1_eq m];rfl)
theorem i7_eq m a0 a1 a2:e7 jn m [] [] ⟨[(.ptr 0 [] 0),(.dat 3 (.int a0)),(.dat 4 (.bool a1))],[(.box 46 (.dat 46 a2))],1⟩=i7 (m+1) a0 a1 a2:=
 tre (g:=fun J=>((i6 m a2).bind fun r0=>
  (bif (r0.1==45) then
  (jj J 0 5 0 (s7_0 a0 a1 (Dt.I a2 1) r0.1 true r0.2 kza2373) (e7 J m [1,1,1,1] []))
  else
  (bif (decide (48≤r0.1)) then
  (jj J 0 5 0 (s7_0 a0 a1 (Dt.I a2 1) r0.1 (decide (r0.1≤57)) r0.2 kza2373) (e7 J m [1,1,1,1] []))
  else
  (jj J 0 5 0 (s7_0 a0 a1 (Dt.I a2 1) r0.1 false r0.2 kza2373) (e7 J m [1,1,1,1] [])))))) (fun J=>by kernel_rfl) (by simp only[jj_eq,i7_j0_eq m];rfl)
def w17_5:List Nat:=[1,1,1,1,1]
def w17_0:List Nat:=[1,1,1,1,1,0]
def w17_4:List Nat:=w17_0++[0,0,1,1]
def w17_2:List Nat:=w17_4++[1,1,1,1]
def w17_3:List Nat:=w17_4++[1,1,1,0,1]
def w17_1:List Nat:=w17_2++[1,1]
noncomputable def e17 (J:Nat→Nat→Nat→St→Option (Dt×Bool×Dt)→Option (Dt×Bool×Dt)) (m:Nat) (p ms:List Nat) (σ:St):=evAt Tryz.prog env (ct m) J (m+1) 45 76 Tryz.f45 d10 p ms σ
noncomputable def l17 (J:Nat→Nat→Nat→St→Option (Dt×Bool×Dt)→Option (Dt×Bool×Dt)) (m:Nat) (p ms:List Nat) (M:Nat) (σ:St):=loopAt Tryz.prog env (ct m) J (m+1) 45 76 Tryz.f45 d10 p ms M σ
noncomputable def s17_5 (x0:Int) (x1 x2:Dt) (x3 x4:Int) (x5:ByteArray) (x6 x7:List Dt):St:=⟨tsOf [(0,(.ptr 0 [] 0)),(1,(.dat 3 (.int x0))),(4,(.ptr 1 [] 0)),(6,(.ptr 2 [] 0))],[(.box 46 (.dat 46 x1)),(.box 25 (.dat 25 x2)),(.box 25 (.agg 25 [(.dat 3 (.int x3)),(.dat 3 (.int x4)),(.dat 9 (.str x5)),(.row 3),(.row 4)])),(.row 22 x6),(.row 23 x7)],1⟩
noncomputable def s17_4 (x0 x1:Int) (x2 x3:Dt) (x4 x5:Int) (x6:ByteArray) (x7 x8:List Dt):St:=⟨tsOf [(0,(.ptr 0 [] 0)),(1,(.dat 3 (.int x0))),(4,(.ptr 1 [] 0)),(6,(.ptr 2 [] 0)),(9,(.dat 3 (.int x1)))],[(.box 46 (.dat 46 x2)),(.box 25 (.dat 25 x3)),(.box 25 (.agg 25 [(.dat 3 (.int x4)),(.dat 3 (.int x5)),(.dat 9 (.str x6)),(.row 3),(.row 4)])),(.row 22 x7),(.row 23 x8)],1⟩
noncomputable def s17_3 (x0 x1:Int) (x2:Bool) (x3 x4:Dt) (x5 x6:Int) (x7:ByteArray) (x8 x9:List Dt):St:=⟨tsOf [(0,(.ptr 0 [] 0)),(1,(.dat 3 (.int x0))),(4,(.ptr 1 [] 0)),(6,(.ptr 2 [] 0)),(9,(.dat 3 (.int x1))),(56,(.dat 4 (.bool x2)))],[(.box 46 (.dat 46 x3)),(.box 25 (.dat 25 x4)),(.box 25 (.agg 25 [(.dat 3 (.int x5)),(.dat 3 (.int x6)),(.dat 9 (.str x7)),(.row 3),(.row 4)])),(.row 22 x8),(.row 23 x9)],1⟩
noncomputable def s17_2 (x0:Int) (x1 x2:Dt) (x3 x4:Int) (x5:ByteArray) (x6 x7:List Dt) (x8:Dt):St:=⟨tsOf [(0,(.ptr 0 [] 0)),(1,(.dat 3 (.int x0))),(4,(.ptr 1 [] 0)),(6,(.ptr 2 [] 0)),(7,(.ptr 5 [] 0))],[(.box 46 (.dat 46 x1)),(.box 25 (.dat 25 x2)),(.box 25 (.agg 25 [(.dat 3 (.int x3)),(.dat 3 (.int x4)),(.dat 9 (.str x5)),(.row 3),(.row 4)])),(.row 22 x6),(.row 23 x7),(.box 25 (.dat 25 x8))],1⟩
abbrev H17_1 (m M1:Nat) (rec1:Int→Dt→Dt→Int→Int→ByteArray→List Dt→List Dt→Option (Dt×Bool×Dt)):Prop:=∀x0 x1 x2 x3 x4 x5 x6 x7,l17 jn m w17_0 [] M1 (s17_5 x0 x1 x2 x3 x4 x5 x6 x7)=rec1 x0 x1 x2 x3 x4 x5 x6 x7
theorem i17_j5_eq m M1 rec1 (h1:H17_1 m M1 rec1) x0 x1 x2 x3 x4 x5 x6 x7:e17 jn m w17_1 [M1] (s17_5 x0 x1 x2 x3 x4 x5 x6 x7)=i17_j5 m (i7 m) rec1 x0 x1 x2 x3 x4 x5 x6 x7:=
 tre (g:=fun J=>((i5 m x1).bind fun r7=>
  (jj J 1 7 M1 (s17_5 x0 r7 x2 x3 x4 x5 x6 x7) (l17 J m w17_0 [] M1)))) (fun J=>by kernel_rfl) (by simp only[jj_eq,h1];rfl)
theorem i17_j4_eq m M1 rec1 (h1:H17_1 m M1 rec1) x0 x1 x2 x3 x4 x5 x6 x7 x8:e17 jn m w17_2 [M1] (s17_4 x0 x1 x2 x3 x4 x5 x6 x7 x8)=i17_j4 m (i7 m) rec1 x0 x1 x2 x3 x4 x5 x6 x7 x8:=
 tre (g:=fun J=>(bif (x1==93) then
  some ((Dt.agg [(Dt.int x4),(Dt.int x5),(Dt.str x6),(Dt.lst x7),(Dt.lst x8)]),true,(Dt.agg [(Dt.str (Dt.S x2 0)),(Dt.int (IntKind.wrap .i64 ((Dt.I x2 1)+1))),(Dt.int (Dt.I x2 2)),(Dt.int (Dt.I x2 3)),(Dt.int (Dt.I x2 4))]))
   else
  (jj J 0 18 0 (s17_5 x0 (Dt.agg [(Dt.str (Dt.S x2 0)),(Dt.int (IntKind.wrap .i64 ((Dt.I x2 1)+1))),(Dt.int (Dt.I x2 2)),(Dt.int (Dt.I x2 3)),(Dt.int (Dt.I x2 4))]) x3 x4 x5 x6 x7 x8) (e17 J m w17_1 [M1])))) (fun J=>by kernel_rfl) (by simp only[jj_eq,i17_j5_eq m M1 rec1 h1];rfl)
theorem i17_j3_eq m M1 rec1 (h1:H17_1 m M1 rec1) x0 x1 x2 x3 x4 x5 x6 x7 x8 x9:e17 jn m w17_3 [M1] (s17_3 x0 x1 x2 x3 x4 x5 x6 x7 x8 x9)=i17_j3 m (i7 m) rec1 x0 x1 x2 x3 x4 x5 x6 x7 x8 x9:=
 tre (g:=fun J=>(bif x2 then
  ((i9 m 4 (Dt.I x3 1) x3).bind fun r6=>
  some (kza2373,r6.1,r6.2))
   else
  (jj J 0 15 0 (s17_4 x0 x1 x3 x4 x5 x6 x7 x8 x9) (e17 J m w17_2 [M1])))) (fun J=>by kernel_rfl) (by simp only[jj_eq,i17_j4_eq m M1 rec1 h1];rfl)
theorem i17_j2_eq m M1 rec1 (h1:H17_1 m M1 rec1) x0 x1 x2 x3 x4 x5 x6 x7 x8:e17 jn m w17_4 [M1] (s17_2 x0 x1 x2 x3 x4 x5 x6 x7 x8)=i17_j2 m (i7 m) rec1 x0 x1 x2 x3 x4 x5 x6 x7 x8:=
 tre (g:=fun J=>((app x6 [x8]).bind fun v3=>
  ((i5 m x1).bind fun r4=>
  ((i6 m r4).bind fun r5=>
  (bif (r5.1 !=44) then
  (jj J 0 14 0 (s17_3 x0 r5.1 (r5.1 !=93) r5.2 x2 x3 x4 x5 v3 x7) (e17 J m w17_3 [M1]))
  else
  (jj J 0 14 0 (s17_3 x0 r5.1 false r5.2 x2 x3 x4 x5 v3 x7) (e17 J m w17_3 [M1]))))))) (fun J=>by kernel_rfl) (by simp only[jj_eq,i17_j3_eq m M1 rec1 h1];rfl)
theorem i17_l1_eq m:∀M1 x0 x1 x2 x3 x4 x5 x6 x7,l17 jn m w17_0 [] M1 (s17_5 x0 x1 x2 x3 x4 x5 x6 x7)=i17_l1 m (i7 m) M1 x0 x1 x2 x3 x4 x5 x6 x7
 |0,_,_,_,_,_,_,_,_=>rfl
 | M1+1,x0,x1,x2,x3,x4,x5,x6,x7=>
   trl (g:=fun J=>((i7 m (IntKind.wrap .i64 (x0+1)) false x1).bind fun r2=>
  (bif (Bool.not r2.2.1) then
  some (kza2373,false,r2.2.2)
  else
  (jj J 0 10 0 (s17_2 x0 r2.2.2 x2 x3 x4 x5 x6 x7 r2.1) (e17 J m w17_4 [M1]))))) (fun J=>by kernel_rfl) (by simp only[jj_eq,i17_j2_eq m M1 (i17_l1 m (i7 m) M1) (i17_l1_eq m M1)];rfl)
theorem i17_j0_eq m x0 x1 x2 x3 x4 x5 x6 x7:e17 jn m w17_5 [] (s17_5 x0 x1 x2 x3 x4 x5 x6 x7)=i17_j0 m (i7 m) x0 x1 x2 x3 x4 x5 x6 x7:=
 tre (g:=fun J=>(jj J 1 7 (Nat.succ m) (s17_5 x0 x1 x2 x3 x4 x5 x6 x7) (l17 J m w17_0 [] (Nat.succ m)))) (fun J=>by kernel_rfl) (by simp only[jj_eq,i17_l1_eq m];rfl)
theorem i17_eq m a0 a1:e17 jn m [] [] ⟨[(.ptr 0 [] 0),(.dat 3 (.int a0))],[(.box 46 (.dat 46 a1))],1⟩=i17 (m+1) a0 a1:=
 tre (g:=fun J=>((i5 m (Dt.agg [(Dt.str (Dt.S a1 0)),(Dt.int (IntKind.wrap .i64 ((Dt.I a1 1)+1))),(Dt.int (Dt.I a1 2)),(Dt.int (Dt.I a1 3)),(Dt.int (Dt.I a1 4))])).bind fun r0=>
  ((i6 m r0).bind fun r1=>
  (bif (r1.1==93) then
  some (kz73e26,true,(Dt.agg [(Dt.str (Dt.S r1.2 0)),(Dt.int (IntKind.wrap .i64 ((Dt.I r1.2 1)+1))),(Dt.int (Dt.I r1.2 2)),(Dt.int (Dt.I r1.2 3)),(Dt.int (Dt.I r1.2 4))]))
  else
  (jj J 0 7 0 (s17_5 a0 r1.2 kza2373 6 0 (ByteArray.mk (List.toArray [])) [] []) (e17 J m w17_5 [])))))) (fun J=>by kernel_rfl) (by simp only[jj_eq,i17_j0_eq m];rfl)
def w18_10:List Nat:=[1,1,1,1,1,1]
def w18_0:List Nat:=w18_10++[0]
def w18_9:List Nat:=w18_0++[0,0,1,1]
def w18_8:List Nat:=w18_9++[1,1]
def w18_7:List Nat:=w18_8++[1,1,1]
def w18_5:List Nat:=w18_7++[1,1,1,1]
def w18_6:List Nat:=w18_7++[1,1,1,0,1]
def w18_4:List Nat:=w18_5++[1,1]
def w18_2:List Nat:=w18_4++[1]
def w18_1:List Nat:=w18_2++[1]
def w18_3:List Nat:=w18_4++[0,1]
noncomputable def e18 (J:Nat→Nat→Nat→St→Option (Dt×Bool×Dt)→Option (Dt×Bool×Dt)) (m:Nat) (p ms:List Nat) (σ:St):=evAt Tryz.prog env (ct m) J (m+1) 46 139 Tryz.f46 d10 p ms σ
noncomputable def l18 (J:Nat→Nat→Nat→St→Option (Dt×Bool×Dt)→Option (Dt×Bool×Dt)) (m:Nat) (p ms:List Nat) (M:Nat) (σ:St):=loopAt Tryz.prog env (ct m) J (m+1) 46 139 Tryz.f46 d10 p ms M σ
noncomputable def s18_10 (x0:Int) (x1 x2:Dt) (x3 x4:Int) (x5:ByteArray) (x6 x7 x8:List Dt):St:=⟨tsOf [(0,(.ptr 0 [] 0)),(1,(.dat 3 (.int x0))),(4,(.ptr 1 [] 0)),(6,(.ptr 2 [] 0)),(7,(.row 5))],[(.box 46 (.dat 46 x1)),(.box 25 (.dat 25 x2)),(.box 25 (.agg 25 [(.dat 3 (.int x3)),(.dat 3 (.int x4)),(.dat 9 (.str x5)),(.row 3),(.row 4)])),(.row 22 x6),(.row 23 x7),(.map 76 x8)],1⟩
noncomputable def s18_9 (x0 x1:Int) (x2 x3:Dt) (x4 x5:Int) (x6:ByteArray) (x7 x8 x9:List Dt):St:=⟨tsOf [(0,(.ptr 0 [] 0)),(1,(.dat 3 (.int x0))),(4,(.ptr 1 [] 0)),(6,(.ptr 2 [] 0)),(7,(.row 5)),(13,(.dat 3 (.int x1)))],[(.box 46 (.dat 46 x2)),(.box 25 (.dat 25 x3)),(.box 25 (.agg 25 [(.dat 3 (.int x4)),(.dat 3 (.int x5)),(.dat 9 (.str x6)),(.row 3),(.row 4)])),(.row 22 x7),(.row 23 x8),(.map 76 x9)],1⟩
noncomputable def s18_8 (x0 x1:Int) (x2:Bool) (x3 x4:Dt) (x5 x6:Int) (x7:ByteArray) (x8 x9 x10:List Dt):St:=⟨tsOf [(0,(.ptr 0 [] 0)),(1,(.dat 3 (.int x0))),(4,(.ptr 1 [] 0)),(6,(.ptr 2 [] 0)),(7,(.row 5)),(13,(.dat 3 (.int x1))),(132,(.dat 4 (.bool x2)))],[(.box 46 (.dat 46 x3)),(.box 25 (.dat 25 x4)),(.box 25 (.agg 25 [(.dat 3 (.int x5)),(.dat 3 (.int x6)),(.dat 9 (.str x7)),(.row 3),(.row 4)])),(.row 22 x8),(.row 23 x9),(.map 76 x10)],1⟩
noncomputable def s18_7 (x0:Int) (x1:Bool) (x2 x3:Int) (x4 x5:Dt) (x6 x7:Int) (x8:ByteArray) (x9 x10 x11:List Dt) (x12:Dt):St:=⟨tsOf [(0,(.ptr 0 [] 0)),(1,(.dat 3 (.int x0))),(4,(.ptr 1 [] 0)),(6,(.ptr 2 [] 0)),(7,(.row 5)),(10,(.dat 4 (.bool x1))),(11,(.dat 3 (.int x2))),(12,(.ptr 6 [] 0)),(13,(.dat 3 (.int x3)))],[(.box 46 (.dat 46 x4)),(.box 25 (.dat 25 x5)),(.box 25 (.agg 25 [(.dat 3 (.int x6)),(.dat 3 (.int x7)),(.dat 9 (.str x8)),(.row 3),(.row 4)])),(.row 22 x9),(.row 23 x10),(.map 76 x11),(.box 25 (.dat 25 x12))],1⟩
noncomputable def s18_5 (x0:Int) (x1:Bool) (x2 x3:Int) (x4:Bool) (x5 x6:Dt) (x7 x8:Int) (x9:ByteArray) (x10 x11 x12:List Dt) (x13:Dt):St:=⟨tsOf [(0,(.ptr 0 [] 0)),(1,(.dat 3 (.int x0))),(4,(.ptr 1 [] 0)),(6,(.ptr 2 [] 0)),(7,(.row 5)),(10,(.dat 4 (.bool x1))),(11,(.dat 3 (.int x2))),(12,(.ptr 6 [] 0)),(13,(.dat 3 (.int x3))),(89,(.dat 4 (.bool x4)))],[(.box 46 (.dat 46 x5)),(.box 25 (.dat 25 x6)),(.box 25 (.agg 25 [(.dat 3 (.int x7)),(.dat 3 (.int x8)),(.dat 9 (.str x9)),(.row 3),(.row 4)])),(.row 22 x10),(.row 23 x11),(.map 76 x12),(.box 25 (.dat 25 x13))],1⟩
noncomputable def s18_4 (x0:Int) (x1:ByteArray) (x2:Bool) (x3:Int) (x4 x5:Dt) (x6 x7:Int) (x8:ByteArray) (x9 x10 x11:List Dt) (x12:Dt):St:=⟨tsOf [(0,(.ptr 0 [] 0)),(1,(.dat 3 (.int x0))),(4,(.ptr 1 [] 0)),(6,(.ptr 2 [] 0)),(7,(.row 5)),(8,(.dat 9 (.str x1))),(10,(.dat 4 (.bool x2))),(11,(.dat 3 (.int x3))),(12,(.ptr 6 [] 0))],[(.box 46 (.dat 46 x4)),(.box 25 (.dat 25 x5)),(.box 25 (.agg 25 [(.dat 3 (.int x6)),(.dat 3 (.int x7)),(.dat 9 (.str x8)),(.row 3),(.row 4)])),(.row 22 x9),(.row 23 x10),(.map 76 x11),(.box 25 (.dat 25 x12))],1⟩
noncomputable def s18_3 (x0:Int) (x1:ByteArray) (x2:Bool) (x3 x4:Dt) (x5 x6:Int) (x7:ByteArray) (x8 x9 x10:List Dt):St:=⟨tsOf [(0,(.ptr 0 [] 0)),(1,(.dat 3 (.int x0))),(4,(.ptr 1 [] 0)),(6,(.ptr 2 [] 0)),(7,(.row 5)),(8,(.dat 9 (.str x1))),(10,(.dat 4 (.bool x2)))],[(.box 46 (.dat 46 x3)),(.box 25 (.dat 25 x4)),(.box 25 (.agg 25 [(.dat 3 (.int x5)),(.dat 3 (.int x6)),(.dat 9 (.str x7)),(.row 3),(.row 4)])),(.row 22 x8),(.row 23 x9),(.map 76 x10)],1⟩
noncomputable def s18_2 (x0:Int) (x1:ByteArray) (x2 x3:Dt) (x4 x5:Int) (x6:ByteArray) (x7 x8 x9:List Dt):St:=⟨tsOf [(0,(.ptr 0 [] 0)),(1,(.dat 3 (.int x0))),(4,(.ptr 1 [] 0)),(6,(.ptr 2 [] 0)),(7,(.row 5)),(8,(.dat 9 (.str x1)))],[(.box 46 (.dat 46 x2)),(.box 25 (.dat 25 x3)),(.box 25 (.agg 25 [(.dat 3 (.int x4)),(.dat 3 (.int x5)),(.dat 9 (.str x6)),(.row 3),(.row 4)])),(.row 22 x7),(.row 23 x8),(.map 76 x9)],1⟩
abbrev H18_1 (m M1:Nat) (rec1:Int→Dt→Dt→Int→Int→ByteArray→List Dt→List Dt→List Dt→Option (Dt×Bool×Dt)):Prop:=∀x0 x1 x2 x3 x4 x5 x6 x7 x8,l18 jn m w18_0 [] M1 (s18_10 x0 x1 x2 x3 x4 x5 x6 x7 x8)=rec1 x0 x1 x2 x3 x4 x5 x6 x7 x8
theorem i18_j10_eq m M1 rec1 (h1:H18_1 m M1 rec1) x0 x1 x2 x3 x4 x5 x6 x7 x8:e18 jn m w18_1 [M1] (s18_10 x0 x1 x2 x3 x4 x5 x6 x7 x8)=i18_j10 m (i7 m) rec1 x0 x1 x2 x3 x4 x5 x6 x7 x8:=
 tre (g:=fun J=>((i5 m x1).bind fun r11=>
  (jj J 1 8 M1 (s18_10 x0 r11 x2 x3 x4 x5 x6 x7 x8) (l18 J m w18_0 [] M1)))) (fun J=>by kernel_rfl) (by simp only[jj_eq,h1];rfl)
theorem i18_j9_eq m M1 rec1 (h1:H18_1 m M1 rec1) x0 x1 x2 x3 x4 x5 x6 x7 x8 x9:e18 jn m w18_2 [M1] (s18_9 x0 x1 x2 x3 x4 x5 x6 x7 x8 x9)=i18_j9 m (i7 m) rec1 x0 x1 x2 x3 x4 x5 x6 x7 x8 x9:=
 tre (g:=fun J=>(bif (x1==125) then
  some ((Dt.agg [(Dt.int x4),(Dt.int x5),(Dt.str x6),(Dt.lst x7),(Dt.lst x8)]),true,x2)
   else
  (jj J 0 31 0 (s18_10 x0 x2 x3 x4 x5 x6 x7 x8 x9) (e18 J m w18_1 [M1])))) (fun J=>by kernel_rfl) (by simp only[jj_eq,i18_j10_eq m M1 rec1 h1];rfl)
theorem i18_j8_eq m M1 rec1 (h1:H18_1 m M1 rec1) x0 x1 x2 x3 x4 x5 x6 x7 x8 x9 x10:e18 jn m w18_3 [M1] (s18_8 x0 x1 x2 x3 x4 x5 x6 x7 x8 x9 x10)=i18_j8 m (i7 m) rec1 x0 x1 x2 x3 x4 x5 x6 x7 x8 x9 x10:=
 tre (g:=fun J=>(bif x2 then
  some (kza2373,false,x3)
   else
  (jj J 0 29 0 (s18_9 x0 x1 x3 x4 x5 x6 x7 x8 x9 x10) (e18 J m w18_2 [M1])))) (fun J=>by kernel_rfl) (by simp only[jj_eq,i18_j9_eq m M1 rec1 h1];rfl)
theorem i18_j7_eq m M1 rec1 (h1:H18_1 m M1 rec1) x0 x1 x2 x3 x4 x5 x6 x7 x8 x9 x10 x11 x12:e18 jn m w18_4 [M1] (s18_7 x0 x1 x2 x3 x4 x5 x6 x7 x8 x9 x10 x11 x12)=i18_j7 m (i7 m) rec1 x0 x1 x2 x3 x4 x5 x6 x7 x8 x9 x10 x11 x12:=
 tre (g:=fun J=>(bif x1 then
  (bif ((Dt.I x12 0)==4) then
  ((i8 m (IntKind.wrap .i64 (x0+1)) x2 x4).bind fun r10=>
  (jj J 0 28 0 (s18_8 x0 x3 (Bool.not r10.1) r10.2 x5 x6 x7 x8 x9 x10 x11) (e18 J m w18_3 [M1])))
  else
  (bif ((Dt.I x12 0)==3) then
  ((i8 m (IntKind.wrap .i64 (x0+1)) x2 x4).bind fun r12=>
  (jj J 0 28 0 (s18_8 x0 x3 (Bool.not r12.1) r12.2 x5 x6 x7 x8 x9 x10 x11) (e18 J m w18_3 [M1])))
  else
  (jj J 0 28 0 (s18_8 x0 x3 false x4 x5 x6 x7 x8 x9 x10 x11) (e18 J m w18_3 [M1]))))
   else
  (jj J 0 28 0 (s18_8 x0 x3 false x4 x5 x6 x7 x8 x9 x10 x11) (e18 J m w18_3 [M1])))) (fun J=>by kernel_rfl) (by simp only[jj_eq,i18_j8_eq m M1 rec1 h1];rfl)
theorem i18_j6_eq m M1 rec1 (h1:H18_1 m M1 rec1) x0 x1 x2 x3 x4 x5 x6 x7 x8 x9 x10 x11 x12:e18 jn m w18_5 [M1] (s18_7 x0 x1 x2 x3 x4 x5 x6 x7 x8 x9 x10 x11 x12)=i18_j6 m (i7 m) rec1 x0 x1 x2 x3 x4 x5 x6 x7 x8 x9 x10 x11 x12:=
 tre (g:=fun J=>(bif (x3==125) then
  ((i22 m x10).bind fun r9=>
  (bif r9.2.1 then
  some (r9.1,true,(Dt.agg [(Dt.str (Dt.S x4 0)),(Dt.int (IntKind.wrap .i64 ((Dt.I x4 1)+1))),(Dt.int (Dt.I x4 2)),(Dt.int (Dt.I x4 3)),(Dt.int (Dt.I x4 4))]))
  else
  (jj J 0 27 0 (s18_7 x0 x1 x2 x3 (Dt.agg [(Dt.str (Dt.S x4 0)),(Dt.int (IntKind.wrap .i64 ((Dt.I x4 1)+1))),(Dt.int (Dt.I x4 2)),(Dt.int (Dt.I x4 3)),(Dt.int (Dt.I x4 4))]) x5 x6 x7 x8 x9 r9.2.2 x11 x12) (e18 J m w18_4 [M1]))))
   else
  (jj J 0 27 0 (s18_7 x0 x1 x2 x3 (Dt.agg [(Dt.str (Dt.S x4 0)),(Dt.int (IntKind.wrap .i64 ((Dt.I x4 1)+1))),(Dt.int (Dt.I x4 2)),(Dt.int (Dt.I x4 3)),(Dt.int (Dt.I x4 4))]) x5 x6 x7 x8 x9 x10 x11 x12) (e18 J m w18_4 [M1])))) (fun J=>by kernel_rfl) (by simp only[jj_eq,i18_j7_eq m M1 rec1 h1];rfl)
theorem i18_j5_eq m M1 rec1 (h1:H18_1 m M1 rec1) x0 x1 x2 x3 x4 x5 x6 x7 x8 x9 x10 x11 x12 x13:e18 jn m w18_6 [M1] (s18_5 x0 x1 x2 x3 x4 x5 x6 x7 x8 x9 x10 x11 x12 x13)=i18_j5 m (i7 m) rec1 x0 x1 x2 x3 x4 x5 x6 x7 x8 x9 x10 x11 x12 x13:=
 tre (g:=fun J=>(bif x4 then
  ((i9 m 4 (Dt.I x5 1) x5).bind fun r8=>
  some (kza2373,r8.1,r8.2))
   else
  (jj J 0 22 0 (s18_7 x0 x1 x2 x3 x5 x6 x7 x8 x9 x10 x11 x12 x13) (e18 J m w18_5 [M1])))) (fun J=>by kernel_rfl) (by simp only[jj_eq,i18_j6_eq m M1 rec1 h1];rfl)
theorem i18_j4_eq m M1 rec1 (h1:H18_1 m M1 rec1) x0 x1 x2 x3 x4 x5 x6 x7 x8 x9 x10 x11 x12:e18 jn m w18_7 [M1] (s18_4 x0 x1 x2 x3 x4 x5 x6 x7 x8 x9 x10 x11 x12)=i18_j4 m (i7 m) rec1 x0 x1 x2 x3 x4 x5 x6 x7 x8 x9 x10 x11 x12:=
 tre (g:=fun J=>((app x10 [(Dt.agg [(Dt.str x1),x12])]).bind fun v5=>
  ((i5 m x4).bind fun r6=>
  ((i6 m r6).bind fun r7=>
  (bif (r7.1 !=44) then
  (jj J 0 21 0 (s18_5 x0 x2 x3 r7.1 (r7.1 !=125) r7.2 x5 x6 x7 x8 x9 v5 x11 x12) (e18 J m w18_6 [M1]))
  else
  (jj J 0 21 0 (s18_5 x0 x2 x3 r7.1 false r7.2 x5 x6 x7 x8 x9 v5 x11 x12) (e18 J m w18_6 [M1]))))))) (fun J=>by kernel_rfl) (by simp only[jj_eq,i18_j5_eq m M1 rec1 h1];rfl)
theorem i18_j3_eq m M1 rec1 (h1:H18_1 m M1 rec1) x0 x1 x2 x3 x4 x5 x6 x7 x8 x9 x10:e18 jn m w18_8 [M1] (s18_3 x0 x1 x2 x3 x4 x5 x6 x7 x8 x9 x10)=i18_j3 m (i7 m) rec1 x0 x1 x2 x3 x4 x5 x6 x7 x8 x9 x10:=
 tre (g:=fun J=>((i7 m (IntKind.wrap .i64 (x0+1)) x2 x3).bind fun r4=>
  (bif (Bool.not r4.2.1) then
  some (kza2373,false,r4.2.2)
  else
  (jj J 0 17 0 (s18_4 x0 x1 x2 (Dt.I x3 1) r4.2.2 x4 x5 x6 x7 x8 x9 x10 r4.1) (e18 J m w18_7 [M1]))))) (fun J=>by kernel_rfl) (by simp only[jj_eq,i18_j4_eq m M1 rec1 h1];rfl)
theorem i18_j2_eq m M1 rec1 (h1:H18_1 m M1 rec1) x0 x1 x2 x3 x4 x5 x6 x7 x8 x9:e18 jn m w18_9 [M1] (s18_2 x0 x1 x2 x3 x4 x5 x6 x7 x8 x9)=i18_j2 m (i7 m) rec1 x0 x1 x2 x3 x4 x5 x6 x7 x8 x9:=
 tre (g:=fun J=>(bif ((List.length x8:Int)==0) then
  ((notation_isSpecial m x1).bind fun r3=>
  (jj J 0 13 0 (s18_3 x0 x1 r3 x2 x3 x4 x5 x6 x7 x8 (mput x9 x1 (Dt.bool true))) (e18 J m w18_8 [M1])))
   else
  (jj J 0 13 0 (s18_3 x0 x1 false x2 x3 x4 x5 x6 x7 x8 (mput x9 x1 (Dt.bool true))) (e18 J m w18_8 [M1])))) (fun J=>by kernel_rfl) (by simp only[jj_eq,i18_j3_eq m M1 rec1 h1];rfl)
theorem i18_l1_eq m:∀M1 x0 x1 x2 x3 x4 x5 x6 x7 x8,l18 jn m w18_0 [] M1 (s18_10 x0 x1 x2 x3 x4 x5 x6 x7 x8)=i18_l1 m (i7 m) M1 x0 x1 x2 x3 x4 x5 x6 x7 x8
 |0,_,_,_,_,_,_,_,_,_=>rfl
 | M1+1,x0,x1,x2,x3,x4,x5,x6,x7,x8=>
   trl (g:=fun J=>((i19 m x1 x8).bind fun r2=>
  (bif (Bool.not r2.2.1) then
  some (kza2373,false,r2.2.2.1)
  else
  (jj J 0 11 0 (s18_2 x0 r2.1 r2.2.2.1 x2 x3 x4 x5 x6 x7 r2.2.2.2) (e18 J m w18_9 [M1]))))) (fun J=>by kernel_rfl) (by simp only[jj_eq,i18_j2_eq m M1 (i18_l1 m (i7 m) M1) (i18_l1_eq m M1)];rfl)
theorem i18_j0_eq m x0 x1 x2 x3 x4 x5 x6 x7 x8:e18 jn m w18_10 [] (s18_10 x0 x1 x2 x3 x4 x5 x6 x7 x8)=i18_j0 m (i7 m) x0 x1 x2 x3 x4 x5 x6 x7 x8:=
 tre (g:=fun J=>(jj J 1 8 (Nat.succ m) (s18_10 x0 x1 x2 x3 x4 x5 x6 x7 x8) (l18 J m w18_0 [] (Nat.succ m)))) (fun J=>by kernel_rfl) (by simp only[jj_eq,i18_l1_eq m];rfl)
theorem i18_eq m a0 a1:e18 jn m [] [] ⟨[(.ptr 0 [] 0),(.dat 3 (.int a0))],[(.box 46 (.dat 46 a1))],1⟩=i18 (m+1) a0 a1:=
 tre (g:=fun J=>((i5 m (Dt.agg [(Dt.str (Dt.S a1 0)),(Dt.int (IntKind.wrap .i64 ((Dt.I a1 1)+1))),(Dt.int (Dt.I a1 2)),(Dt.int (Dt.I a1 3)),(Dt.int (Dt.I a1 4))])).bind fun r0=>
  ((i6 m r0).bind fun r1=>
  (bif (r1.1==125) then
  some (kze9562,true,(Dt.agg [(Dt.str (Dt.S r1.2 0)),(Dt.int (IntKind.wrap .i64 ((Dt.I r1.2 1)+1))),(Dt.int (Dt.I r1.2 2)),(Dt.int (Dt.I r1.2 3)),(Dt.int (Dt.I r1.2 4))]))
  else
  (jj J 0 8 0 (s18_10 a0 r1.2 kza2373 5 0 (ByteArray.mk (List.toArray [])) [] [] []) (e18 J m w18_10 [])))))) (fun J=>by kernel_rfl) (by simp only[jj_eq,i18_j0_eq m];rfl)
def w2_1:List Nat:=[1,1,1,1,1]
def w2_0:List Nat:=[1,1,1,1,1,1]
noncomputable def e2 (J:Nat→Nat→Nat→St→Option (Dt×Int×Int)→Option (Dt×Int×Int)) (m:Nat) (p ms:List Nat) (σ:St):=evAt Tryz.prog env (ct m) J (m+1) 9 34 Tryz.f9 d2 p ms σ
noncomputable def l2 (J:Nat→Nat→Nat→St→Option (Dt×Int×Int)→Option (Dt×Int×Int)) (m:Nat) (p ms:List Nat) (M:Nat) (σ:St):=loopAt Tryz.prog env (ct m) J (m+1) 9 34 Tryz.f9 d2 p ms M σ
noncomputable def s2_1 (x0 x1:Dt):St:=⟨tsOf [(2,(.ptr 0 [] 0)),(6,(.ptr 1 [] 0))],[(.box 25 (.dat 25 x0)),(.box 25 (.dat 25 x1))],0⟩
noncomputable def s2_0 (x0 x1 x2:Dt):St:=⟨tsOf [(2,(.ptr 0 [] 0)),(5,(.ptr 1 [] 0)),(6,(.ptr 2 [] 0))],[(.box 25 (.dat 25 x0)),(.box 46 (.dat 46 x1)),(.box 25 (.dat 25 x2))],0⟩
theorem notation_Parse_j1_eq m x0 x1:e2 jn m w2_0 [] (s2_1 x0 x1)=notation_Parse_j1 m x0 x1:=
 tre (g:=fun J=>some (x1,0,0)) (fun J=>by kernel_rfl) (by rfl)
theorem notation_Parse_j0_eq m x0 x1 x2:e2 jn m w2_1 [] (s2_0 x0 x1 x2)=notation_Parse_j0 m x0 x1 x2:=
 tre (g:=fun J=>(bif ((Dt.I x1 3) !=0) then
  some (kza2373,(Dt.I x1 4),(Dt.I x1 3))
   else
  (jj J 0 10 0 (s2_1 x0 x2) (e2 J m w2_0 [])))) (fun J=>by kernel_rfl) (by simp only[jj_eq,notation_Parse_j1_eq m];rfl)
theorem notation_Parse_eq m a0:e2 jn m [] [] ⟨[(.dat 9 (.str a0))],[],0⟩=notation_Parse (m+1) a0:=
 tre (g:=fun J=>((i5 m (Dt.agg [(Dt.str a0),(Dt.int 0),(Dt.int 0),(Dt.int 0),(Dt.int 0)])).bind fun r0=>
  ((i7 m 1 false r0).bind fun r1=>
  (bif r1.2.1 then
  ((i5 m r1.2.2).bind fun r2=>
  (bif (decide ((Dt.I r2 1)<(ByteArray.size a0:Int))) then
  ((i9 m 4 (Dt.I r2 1) r2).bind fun r3=>
  (jj J 0 8 0 (s2_0 kza2373 r3.2 r1.1) (e2 J m w2_1 [])))
  else
  (jj J 0 8 0 (s2_0 kza2373 r2 r1.1) (e2 J m w2_1 []))))
  else
  (jj J 0 8 0 (s2_0 kza2373 r1.2.2 r1.1) (e2 J m w2_1 [])))))) (fun J=>by kernel_rfl) (by simp only[jj_eq,notation_Parse_j0_eq m];rfl)
noncomputable def e27 (J:Nat→Nat→Nat→St→Option Dt→Option Dt) (m:Nat) (p ms:List Nat) (σ:St):=evAt Tryz.prog env (ct m) J (m+1) 22 68 Tryz.f22 d27 p ms σ
noncomputable def l27 (J:Nat→Nat→Nat→St→Option Dt→Option Dt) (m:Nat) (p ms:List Nat) (M:Nat) (σ:St):=loopAt Tryz.prog env (ct m) J (m+1) 22 68 Tryz.f22 d27 p ms M σ
noncomputable def s27_1 (x0:Dt):St:=⟨tsOf [(0,(.ptr 0 [] 0))],[(.box 51 (.dat 51 x0))],1⟩
abbrev H27_0 (m M0:Nat) (rec0:Dt→Option Dt):Prop:=∀x0,l27 jn m [0] [] M0 (s27_1 x0)=rec0 x0
theorem i27_j1_eq m M0 rec0 (h0:H27_0 m M0 rec0) x0:e27 jn m [0,0,1] [M0] (s27_1 x0)=i27_j1 m rec0 x0:=
 tre (g:=fun J=>(jj J 1 0 M0 (s27_1 (Dt.agg [(Dt.str (Dt.S x0 0)),(Dt.int (IntKind.wrap .i64 ((Dt.I x0 1)+1))),(Dt.int (Dt.I x0 2)),(Dt.int (Dt.I x0 3)),(Dt.int (Dt.I x0 4))])) (l27 J m [0] [] M0))) (fun J=>by kernel_rfl) (by simp only[jj_eq,h0];rfl)
theorem i27_l0_eq m:∀M0 x0,l27 jn m [0] [] M0 (s27_1 x0)=i27_l0 m M0 x0
 |0,_=>rfl
 | M0+1,x0=>
   trl (g:=fun J=>(bif (decide ((Dt.I x0 1)<(ByteArray.size (Dt.S x0 0):Int))) then
  ((idxS (Dt.S x0 0) (Dt.I x0 1)).bind fun v0=>
  (bif (v0==32) then
  (jj J 0 1 0 (s27_1 x0) (e27 J m [0,0,1] [M0]))
  else
  ((idxS (Dt.S x0 0) (Dt.I x0 1)).bind fun v1=>
  (bif (v1==9) then
  (jj J 0 1 0 (s27_1 x0) (e27 J m [0,0,1] [M0]))
  else
  ((idxS (Dt.S x0 0) (Dt.I x0 1)).bind fun v2=>
  (bif (v2==10) then
  (jj J 0 1 0 (s27_1 x0) (e27 J m [0,0,1] [M0]))
  else
  ((idxS (Dt.S x0 0) (Dt.I x0 1)).bind fun v3=>
  (bif (v3==13) then
  (jj J 0 1 0 (s27_1 x0) (e27 J m [0,0,1] [M0]))
  else
  some x0))))))))
   else
  some x0)) (fun J=>by kernel_rfl) (by simp only[jj_eq,i27_j1_eq m M0 (i27_l0 m M0) (i27_l0_eq m M0)];rfl)
theorem i27_eq m a0:e27 jn m [] [] ⟨[(.ptr 0 [] 0)],[(.box 51 (.dat 51 a0))],1⟩=i27 (m+1) a0:=
 tre (g:=fun J=>(jj J 1 0 (Nat.succ m) (s27_1 a0) (l27 J m [0] [] (Nat.succ m)))) (fun J=>by kernel_rfl) (by simp only[jj_eq,i27_l0_eq m];rfl)
noncomputable def e29 (J:Nat→Nat→Nat→St→Option (Int×Dt)→Option (Int×Dt)) (m:Nat) (p ms:List Nat) (σ:St):=evAt Tryz.prog env (ct m) J (m+1) 50 22 Tryz.f50 d29 p ms σ
noncomputable def l29 (J:Nat→Nat→Nat→St→Option (Int×Dt)→Option (Int×Dt)) (m:Nat) (p ms:List Nat) (M:Nat) (σ:St):=loopAt Tryz.prog env (ct m) J (m+1) 50 22 Tryz.f50 d29 p ms M σ
noncomputable def s29_0 (x0:Dt):St:=⟨tsOf [],[(.box 51 (.dat 51 x0))],1⟩
theorem i29_j0_eq m x0:e29 jn m [1,1] [] (s29_0 x0)=i29_j0 m x0:=
 tre (g:=fun J=>some (0,x0)) (fun J=>by kernel_rfl) (by rfl)
theorem i29_eq m a0:e29 jn m [] [] ⟨[(.ptr 0 [] 0)],[(.box 51 (.dat 51 a0))],1⟩=i29 (m+1) a0:=
 tre (g:=fun J=>(bif (decide ((Dt.I a0 1)<(ByteArray.size (Dt.S a0 0):Int))) then
  ((idxS (Dt.S a0 0) (Dt.I a0 1)).bind fun v0=>
  some (v0,a0))
   else
  (jj J 0 3 0 (s29_0 a0) (e29 J m [1,1] [])))) (fun J=>by kernel_rfl) (by simp only[jj_eq,i29_j0_eq m];rfl)
noncomputable def e30 (J:Nat→Nat→Nat→St→Option Bool→Option Bool) (m:Nat) (p ms:List Nat) (σ:St):=evAt Tryz.prog env (ct m) J (m+1) 49 37 Tryz.f49 d20 p ms σ
noncomputable def l30 (J:Nat→Nat→Nat→St→Option Bool→Option Bool) (m:Nat) (p ms:List Nat) (M:Nat) (σ:St):=loopAt Tryz.prog env (ct m) J (m+1) 49 37 Tryz.f49 d20 p ms M σ
theorem ref05_opens_eq m a0:e30 jn m [] [] ⟨[(.dat 5 (.int a0))],[],0⟩=ref05_opens (m+1) a0:=
 tre (g:=fun J=>(bif (a0==110) then
  some true
   else
  (bif (a0==116) then
  some true
  else
  (bif (a0==102) then
  some true
  else
  (bif (a0==45) then
  some true
  else
  (bif (decide (48≤a0)) then
  (bif (decide (a0≤57)) then
  some true
  else
  (bif (a0==34) then
  some true
  else
  (bif (a0==91) then
  some true
  else
  some (a0==123))))
  else
  (bif (a0==34) then
  some true
  else
  (bif (a0==91) then
  some true
  else
  some (a0==123))))))))) (fun J=>by kernel_rfl) (by rfl)
noncomputable def e31 (J:Nat→Nat→Nat→St→Option Dt→Option Dt) (m:Nat) (p ms:List Nat) (σ:St):=evAt Tryz.prog env (ct m) J (m+1) 24 19 Tryz.f24 d27 p ms σ
noncomputable def l31 (J:Nat→Nat→Nat→St→Option Dt→Option Dt) (m:Nat) (p ms:List Nat) (M:Nat) (σ:St):=loopAt Tryz.prog env (ct m) J (m+1) 24 19 Tryz.f24 d27 p ms M σ
theorem i31_eq m a0 a1 a2:e31 jn m [] [] ⟨[(.ptr 0 [] 0),(.dat 28 (.int a0)),(.dat 3 (.int a1))],[(.box 51 (.dat 51 a2))],1⟩=i31 (m+1) a0 a1 a2:=
 tre (g:=fun J=>(bif ((Dt.I a2 3)==0) then
  some (Dt.agg [(Dt.str (Dt.S a2 0)),(Dt.int (Dt.I a2 1)),(Dt.int (Dt.I a2 2)),(Dt.int a0),(Dt.int a1)])
   else
  some a2)) (fun J=>by kernel_rfl) (by rfl)
noncomputable def e32 (J:Nat→Nat→Nat→St→Option Dt→Option Dt) (m:Nat) (p ms:List Nat) (σ:St):=evAt Tryz.prog env (ct m) J (m+1) 51 26 Tryz.f51 d27 p ms σ
noncomputable def l32 (J:Nat→Nat→Nat→St→Option Dt→Option Dt) (m:Nat) (p ms:List Nat) (M:Nat) (σ:St):=loopAt Tryz.prog env (ct m) J (m+1) 51 26 Tryz.f51 d27 p ms M σ
noncomputable def s32_1 (x0:Dt):St:=⟨tsOf [(0,(.ptr 0 [] 0))],[(.box 51 (.dat 51 x0))],1⟩
noncomputable def s32_0 (x0:Int) (x1:Bool) (x2:Dt):St:=⟨tsOf [(0,(.ptr 0 [] 0)),(1,(.dat 3 (.int x0))),(14,(.dat 4 (.bool x1)))],[(.box 51 (.dat 51 x2))],1⟩
theorem i32_j1_eq m x0:e32 jn m [1] [] (s32_1 x0)=i32_j1 m x0:=
 tre (g:=fun J=>some (Dt.agg [(Dt.str (Dt.S x0 0)),(Dt.int (Dt.I x0 1)),(Dt.int (IntKind.wrap .i64 ((Dt.I x0 2)+1))),(Dt.int (Dt.I x0 3)),(Dt.int (Dt.I x0 4))])) (fun J=>by kernel_rfl) (by rfl)
theorem i32_j0_eq m x0 x1 x2:e32 jn m [0,1] [] (s32_0 x0 x1 x2)=i32_j0 m x0 x1 x2:=
 tre (g:=fun J=>(bif x1 then
  ((i31 m 2 x0 x2).bind fun r0=>
  (jj J 0 2 0 (s32_1 r0) (e32 J m [1] [])))
   else
  (jj J 0 2 0 (s32_1 x2) (e32 J m [1] [])))) (fun J=>by kernel_rfl) (by simp only[jj_eq,i32_j1_eq m];rfl)
theorem i32_eq m a0 a1 a2:e32 jn m [] [] ⟨[(.ptr 0 [] 0),(.dat 3 (.int a0)),(.dat 3 (.int a1))],[(.box 51 (.dat 51 a2))],1⟩=i32 (m+1) a0 a1 a2:=
 tre (g:=fun J=>(bif (decide (16<a1)) then
  (jj J 0 1 0 (s32_0 a0 true a2) (e32 J m [0,1] []))
   else
  (jj J 0 1 0 (s32_0 a0 (decide (1024≤(Dt.I a2 2))) a2) (e32 J m [0,1] [])))) (fun J=>by kernel_rfl) (by simp only[jj_eq,i32_j0_eq m];rfl)
noncomputable def e34 (J:Nat→Nat→Nat→St→Option Dt→Option Dt) (m:Nat) (p ms:List Nat) (σ:St):=evAt Tryz.prog env (ct m) J (m+1) 74 41 Tryz.f74 d27 p ms σ
noncomputable def l34 (J:Nat→Nat→Nat→St→Option Dt→Option Dt) (m:Nat) (p ms:List Nat) (M:Nat) (σ:St):=loopAt Tryz.prog env (ct m) J (m+1) 74 41 Tryz.f74 d27 p ms M σ
noncomputable def s34_1 (x0:Dt):St:=⟨tsOf [(0,(.ptr 0 [] 0))],[(.box 51 (.dat 51 x0))],1⟩
noncomputable def s34_0 (x0:Bool) (x1:Dt):St:=⟨tsOf [(0,(.ptr 0 [] 0)),(26,(.dat 4 (.bool x0)))],[(.box 51 (.dat 51 x1))],1⟩
theorem i34_j1_eq m x0:e34 jn m [1] [] (s34_1 x0)=i34_j1 m x0:=
 tre (g:=fun J=>some (Dt.agg [(Dt.str (Dt.S x0 0)),(Dt.int (IntKind.wrap .i64 ((Dt.I x0 1)+1))),(Dt.int (Dt.I x0 2)),(Dt.int (Dt.I x0 3)),(Dt.int (Dt.I x0 4))])) (fun J=>by kernel_rfl) (by rfl)
theorem i34_j0_eq m x0 x1:e34 jn m [0,1] [] (s34_0 x0 x1)=i34_j0 m x0 x1:=
 tre (g:=fun J=>(bif x0 then
  ((i31 m 4 (Dt.I x1 1) x1).bind fun r0=>
  some r0)
   else
  (jj J 0 2 0 (s34_1 x1) (e34 J m [1] [])))) (fun J=>by kernel_rfl) (by simp only[jj_eq,i34_j1_eq m];rfl)
theorem i34_eq m a0 a1:e34 jn m [] [] ⟨[(.ptr 0 [] 0),(.dat 5 (.int a0))],[(.box 51 (.dat 51 a1))],1⟩=i34 (m+1) a0 a1:=
 tre (g:=fun J=>(bif (decide ((ByteArray.size (Dt.S a1 0):Int)≤(Dt.I a1 1))) then
  (jj J 0 1 0 (s34_0 true a1) (e34 J m [0,1] []))
   else
  ((idxS (Dt.S a1 0) (Dt.I a1 1)).bind fun v1=>
  (jj J 0 1 0 (s34_0 (v1 !=a0) a1) (e34 J m [0,1] []))))) (fun J=>by kernel_rfl) (by simp only[jj_eq,i34_j0_eq m];rfl)
noncomputable def e41 (J:Nat→Nat→Nat→St→Option ByteArray→Option ByteArray) (m:Nat) (p ms:List Nat) (σ:St):=evAt Tryz.prog env (ct m) J (m+1) 124 36 Tryz.f124 d41 p ms σ
noncomputable def l41 (J:Nat→Nat→Nat→St→Option ByteArray→Option ByteArray) (m:Nat) (p ms:List Nat) (M:Nat) (σ:St):=loopAt Tryz.prog env (ct m) J (m+1) 124 36 Tryz.f124 d41 p ms M σ
noncomputable def s41_1 (x0:Int):St:=⟨tsOf [(0,(.dat 3 (.int x0)))],[],0⟩
theorem ref05_utf_j1_eq m x0:e41 jn m [1,1,1] [] (s41_1 x0)=ref05_utf_j1 m x0:=
 tre (g:=fun J=>some (strOfNums [(IntKind.wrap IntKind.u8 (IntKind.wrap .i64 (224+(IntKind.wrap .i64 (Int.tdiv x0 4096))))),(IntKind.wrap IntKind.u8 (IntKind.wrap .i64 (128+(Int.tmod (IntKind.wrap .i64 (Int.tdiv x0 64)) 64)))),(IntKind.wrap IntKind.u8 (IntKind.wrap .i64 (128+(Int.tmod x0 64))))])) (fun J=>by kernel_rfl) (by rfl)
theorem ref05_utf_j0_eq m x0:e41 jn m [1,1] [] (s41_1 x0)=ref05_utf_j0 m x0:=
 tre (g:=fun J=>(bif (decide (x0<2048)) then
  some (strOfNums [(IntKind.wrap IntKind.u8 (IntKind.wrap .i64 (192+(IntKind.wrap .i64 (Int.tdiv x0 64))))),(IntKind.wrap IntKind.u8 (IntKind.wrap .i64 (128+(Int.tmod x0 64))))])
   else
  (jj J 0 5 0 (s41_1 x0) (e41 J m [1,1,1] [])))) (fun J=>by kernel_rfl) (by simp only[jj_eq,ref05_utf_j1_eq m];rfl)
theorem ref05_utf_eq m a0:e41 jn m [] [] ⟨[(.dat 3 (.int a0))],[],0⟩=ref05_utf (m+1) a0:=
 tre (g:=fun J=>(bif (decide (a0<128)) then
  some (strOfNums [(IntKind.wrap IntKind.u8 a0)])
   else
  (jj J 0 3 0 (s41_1 a0) (e41 J m [1,1] [])))) (fun J=>by kernel_rfl) (by simp only[jj_eq,ref05_utf_j0_eq m];rfl)
def w42_2:List Nat:=[1,0,1,0,0,1]
def w42_0:List Nat:=w42_2++[1]
def w42_1:List Nat:=w42_2++[0,0,1]
noncomputable def e42 (J:Nat→Nat→Nat→St→Option Bool→Option Bool) (m:Nat) (p ms:List Nat) (σ:St):=evAt Tryz.prog env (ct m) J (m+1) 66 28 Tryz.f66 d20 p ms σ
noncomputable def l42 (J:Nat→Nat→Nat→St→Option Bool→Option Bool) (m:Nat) (p ms:List Nat) (M:Nat) (σ:St):=loopAt Tryz.prog env (ct m) J (m+1) 66 28 Tryz.f66 d20 p ms M σ
noncomputable def s42_4 (x0:ByteArray) (x1:Int):St:=⟨tsOf [(0,(.dat 9 (.str x0))),(3,(.dat 3 (.int x1)))],[],0⟩
noncomputable def s42_3 (x0:ByteArray) (x1:Int) (x2:Bool):St:=⟨tsOf [(0,(.dat 9 (.str x0))),(3,(.dat 3 (.int x1))),(19,(.dat 4 (.bool x2)))],[],0⟩
noncomputable def s42_5 (x0:ByteArray):St:=⟨tsOf [(0,(.dat 9 (.str x0)))],[],0⟩
abbrev H42_1 (m M1:Nat) (rec1:ByteArray→Int→Option Bool):Prop:=∀x0 x1,l42 jn m [1,0,1,0] [] M1 (s42_4 x0 x1)=rec1 x0 x1
theorem ref05_Label_j4_eq m M1 rec1 (h1:H42_1 m M1 rec1) x0 x1:e42 jn m w42_0 [M1] (s42_4 x0 x1)=ref05_Label_j4 m rec1 x0 x1:=
 tre (g:=fun J=>(jj J 1 2 M1 (s42_4 x0 (IntKind.wrap .i64 (x1+1))) (l42 J m [1,0,1,0] [] M1))) (fun J=>by kernel_rfl) (by simp only[jj_eq,h1];rfl)
theorem ref05_Label_j3_eq m M1 rec1 (h1:H42_1 m M1 rec1) x0 x1 x2:e42 jn m w42_1 [M1] (s42_3 x0 x1 x2)=ref05_Label_j3 m rec1 x0 x1 x2:=
 tre (g:=fun J=>(bif x2 then
  some false
   else
  (jj J 0 3 0 (s42_4 x0 x1) (e42 J m w42_0 [M1])))) (fun J=>by kernel_rfl) (by simp only[jj_eq,ref05_Label_j4_eq m M1 rec1 h1];rfl)
theorem ref05_Label_j2_eq m M1 rec1 (h1:H42_1 m M1 rec1) x0 x1:e42 jn m w42_2 [M1] (s42_4 x0 x1)=ref05_Label_j2 m rec1 x0 x1:=
 tre (g:=fun J=>((idxS x0 x1).bind fun v0=>
  (bif (decide (v0<32)) then
  (jj J 0 5 0 (s42_3 x0 x1 true) (e42 J m w42_1 [M1]))
  else
  ((idxS x0 x1).bind fun v1=>
  (jj J 0 5 0 (s42_3 x0 x1 (decide (126<v1))) (e42 J m w42_1 [M1])))))) (fun J=>by kernel_rfl) (by simp only[jj_eq,ref05_Label_j3_eq m M1 rec1 h1];rfl)
theorem ref05_Label_j5_eq m x0:e42 jn m [1,1] [] (s42_5 x0)=ref05_Label_j5 m x0:=
 tre (g:=fun J=>(bif (decide (1≤(ByteArray.size x0:Int))) then
  some (decide ((ByteArray.size x0:Int)≤128))
   else
  some false)) (fun J=>by kernel_rfl) (by rfl)
theorem ref05_Label_l1_eq m:∀M1 x0 x1,l42 jn m [1,0,1,0] [] M1 (s42_4 x0 x1)=ref05_Label_l1 m M1 x0 x1
 |0,_,_=>rfl
 | M1+1,x0,x1=>
   trl (g:=fun J=>(bif (decide (x1<(ByteArray.size x0:Int))) then
  (jj J 0 4 0 (s42_4 x0 x1) (e42 J m w42_2 [M1]))
   else
  (jj J 0 6 0 (s42_5 x0) (e42 J m [1,1] [])))) (fun J=>by kernel_rfl) (by simp only[jj_eq,ref05_Label_j2_eq m M1 (ref05_Label_l1 m M1) (ref05_Label_l1_eq m M1),ref05_Label_j5_eq m];rfl)
theorem ref05_Label_j0_eq m x0 x1:e42 jn m [1,0,1] [] (s42_4 x0 x1)=ref05_Label_j0 m x0 x1:=
 tre (g:=fun J=>(jj J 1 2 (Nat.succ m) (s42_4 x0 x1) (l42 J m [1,0,1,0] [] (Nat.succ m)))) (fun J=>by kernel_rfl) (by simp only[jj_eq,ref05_Label_l1_eq m];rfl)
theorem ref05_Label_eq m a0:e42 jn m [] [] ⟨[(.dat 9 (.str a0))],[],0⟩=ref05_Label (m+1) a0:=
 tre (g:=fun J=>(jj J 0 2 0 (s42_4 a0 0) (e42 J m [1,0,1] []))) (fun J=>by kernel_rfl) (by simp only[jj_eq,ref05_Label_j0_eq m];rfl)
def w46_1:List Nat:=[1,0,1,0,0,1]
def w46_0:List Nat:=w46_1++[1]
noncomputable def e46 (J:Nat→Nat→Nat→St→Option (Dt×Dt)→Option (Dt×Dt)) (m:Nat) (p ms:List Nat) (σ:St):=evAt Tryz.prog env (ct m) J (m+1) 76 20 Tryz.f76 d46 p ms σ
noncomputable def l46 (J:Nat→Nat→Nat→St→Option (Dt×Dt)→Option (Dt×Dt)) (m:Nat) (p ms:List Nat) (M:Nat) (σ:St):=loopAt Tryz.prog env (ct m) J (m+1) 76 20 Tryz.f76 d46 p ms M σ
noncomputable def s46_3 (x0:ByteArray) (x1:Int) (x2 x3 x4:Dt):St:=⟨tsOf [(0,(.ptr 0 [] 0)),(1,(.dat 9 (.str x0))),(5,(.ptr 1 [] 0)),(6,(.ptr 2 [] 0)),(7,(.dat 3 (.int x1)))],[(.box 51 (.dat 51 x2)),(.box 25 (.dat 25 x3)),(.box 25 (.dat 25 x4))],1⟩
noncomputable def s46_4 (x0 x1 x2:Dt):St:=⟨tsOf [(5,(.ptr 1 [] 0)),(6,(.ptr 2 [] 0))],[(.box 51 (.dat 51 x0)),(.box 25 (.dat 25 x1)),(.box 25 (.dat 25 x2))],1⟩
abbrev H46_1 (m M1:Nat) (rec1:ByteArray→Int→Dt→Dt→Dt→Option (Dt×Dt)):Prop:=∀x0 x1 x2 x3 x4,l46 jn m [1,0,1,0] [] M1 (s46_3 x0 x1 x2 x3 x4)=rec1 x0 x1 x2 x3 x4
theorem i46_j3_eq m M1 rec1 (h1:H46_1 m M1 rec1) x0 x1 x2 x3 x4:e46 jn m w46_0 [M1] (s46_3 x0 x1 x2 x3 x4)=i46_j3 m rec1 x0 x1 x2 x3 x4:=
 tre (g:=fun J=>(jj J 1 2 M1 (s46_3 x0 (IntKind.wrap .i64 (x1+1)) x2 x3 x4) (l46 J m [1,0,1,0] [] M1))) (fun J=>by kernel_rfl) (by simp only[jj_eq,h1];rfl)
theorem i46_j2_eq m M1 rec1 (h1:H46_1 m M1 rec1) x0 x1 x2 x3 x4:e46 jn m w46_1 [M1] (s46_3 x0 x1 x2 x3 x4)=i46_j2 m rec1 x0 x1 x2 x3 x4:=
 tre (g:=fun J=>((idxS x0 x1).bind fun v0=>
  ((i34 m v0 x2).bind fun r1=>
  (jj J 0 3 0 (s46_3 x0 x1 r1 x3 x4) (e46 J m w46_0 [M1]))))) (fun J=>by kernel_rfl) (by simp only[jj_eq,i46_j3_eq m M1 rec1 h1];rfl)
theorem i46_j4_eq m x0 x1 x2:e46 jn m [1,1] [] (s46_4 x0 x1 x2)=i46_j4 m x0 x1 x2:=
 tre (g:=fun J=>some (x1,x0)) (fun J=>by kernel_rfl) (by rfl)
theorem i46_l1_eq m:∀M1 x0 x1 x2 x3 x4,l46 jn m [1,0,1,0] [] M1 (s46_3 x0 x1 x2 x3 x4)=i46_l1 m M1 x0 x1 x2 x3 x4
 |0,_,_,_,_,_=>rfl
 | M1+1,x0,x1,x2,x3,x4=>
   trl (g:=fun J=>(bif (decide (x1<(ByteArray.size x0:Int))) then
  (jj J 0 4 0 (s46_3 x0 x1 x2 x3 x4) (e46 J m w46_1 [M1]))
   else
  (jj J 0 5 0 (s46_4 x2 x3 x4) (e46 J m [1,1] [])))) (fun J=>by kernel_rfl) (by simp only[jj_eq,i46_j2_eq m M1 (i46_l1 m M1) (i46_l1_eq m M1),i46_j4_eq m];rfl)
theorem i46_j0_eq m x0 x1 x2 x3 x4:e46 jn m [1,0,1] [] (s46_3 x0 x1 x2 x3 x4)=i46_j0 m x0 x1 x2 x3 x4:=
 tre (g:=fun J=>(jj J 1 2 (Nat.succ m) (s46_3 x0 x1 x2 x3 x4) (l46 J m [1,0,1,0] [] (Nat.succ m)))) (fun J=>by kernel_rfl) (by simp only[jj_eq,i46_l1_eq m];rfl)
theorem i46_eq m a0 a1 a2:e46 jn m [] [] ⟨[(.ptr 0 [] 0),(.dat 9 (.str a0)),(.dat 25 a1)],[(.box 51 (.dat 51 a2))],1⟩=i46 (m+1) a0 a1 a2:=
 tre (g:=fun J=>(jj J 0 2 0 (s46_3 a0 0 a2 a1 kza2373) (e46 J m [1,0,1] []))) (fun J=>by kernel_rfl) (by simp only[jj_eq,i46_j0_eq m];rfl)
def w48_9:List Nat:=[1,1,1,1,1,1]
def w48_8:List Nat:=w48_9++[1]
def w48_10:List Nat:=[1,1,1,1,1,0,1]
def w48_7:List Nat:=w48_8++[1,1]
def w48_6:List Nat:=w48_7++[1]
def w48_0:List Nat:=w48_7++[0,0]
def w48_4:List Nat:=w48_6++[1]
def w48_5:List Nat:=w48_6++[0,1]
def w48_2:List Nat:=w48_0++[0,1]
def w48_3:List Nat:=w48_4++[1,1]
def w48_1:List Nat:=w48_2++[0,1,1]
noncomputable def e48 (J:Nat→Nat→Nat→St→Option (Dt×Dt)→Option (Dt×Dt)) (m:Nat) (p ms:List Nat) (σ:St):=evAt Tryz.prog env (ct m) J (m+1) 78 112 Tryz.f78 d46 p ms σ
noncomputable def l48 (J:Nat→Nat→Nat→St→Option (Dt×Dt)→Option (Dt×Dt)) (m:Nat) (p ms:List Nat) (M:Nat) (σ:St):=loopAt Tryz.prog env (ct m) J (m+1) 78 112 Tryz.f78 d46 p ms M σ
noncomputable def s48_7 (x0:Int) (x1:Bool) (x2:Int) (x3:Bool) (x4:Int) (x5 x6:Dt):St:=⟨tsOf [(0,(.ptr 0 [] 0)),(2,(.ptr 1 [] 0)),(3,(.dat 3 (.int x0))),(4,(.dat 4 (.bool x1))),(6,(.dat 79 (.int x2))),(7,(.dat 4 (.bool x3))),(8,(.dat 79 (.int x4)))],[(.box 51 (.dat 51 x5)),(.box 25 (.dat 25 x6))],1⟩
noncomputable def s48_6 (x0:Int) (x1:Bool) (x2:Int) (x3:Bool) (x4 x5:Dt):St:=⟨tsOf [(0,(.ptr 0 [] 0)),(2,(.ptr 1 [] 0)),(3,(.dat 3 (.int x0))),(4,(.dat 4 (.bool x1))),(6,(.dat 79 (.int x2))),(7,(.dat 4 (.bool x3)))],[(.box 51 (.dat 51 x4)),(.box 25 (.dat 25 x5))],1⟩
noncomputable def s48_11 (x0:Int) (x1 x2:Dt):St:=⟨tsOf [(2,(.ptr 1 [] 0)),(9,(.dat 3 (.int x0)))],[(.box 51 (.dat 51 x1)),(.box 25 (.dat 25 x2))],1⟩
noncomputable def s48_10 (x0:Bool) (x1:Int) (x2 x3:Dt):St:=⟨tsOf [(2,(.ptr 1 [] 0)),(4,(.dat 4 (.bool x0))),(6,(.dat 79 (.int x1)))],[(.box 51 (.dat 51 x2)),(.box 25 (.dat 25 x3))],1⟩
noncomputable def s48_9 (x0:Int) (x1:Bool) (x2:Int) (x3:Bool) (x4 x5:Dt):St:=⟨tsOf [(0,(.ptr 0 [] 0)),(2,(.ptr 1 [] 0)),(3,(.dat 3 (.int x0))),(4,(.dat 4 (.bool x1))),(6,(.dat 79 (.int x2))),(100,(.dat 4 (.bool x3)))],[(.box 51 (.dat 51 x4)),(.box 25 (.dat 25 x5))],1⟩
noncomputable def s48_3 (x0:Int) (x1:Bool) (x2 x3:Dt):St:=⟨tsOf [(0,(.ptr 0 [] 0)),(2,(.ptr 1 [] 0)),(3,(.dat 3 (.int x0))),(4,(.dat 4 (.bool x1)))],[(.box 51 (.dat 51 x2)),(.box 25 (.dat 25 x3))],1⟩
noncomputable def s48_2 (x0:Int) (x1:Bool) (x2:Int) (x3 x4:Dt):St:=⟨tsOf [(0,(.ptr 0 [] 0)),(2,(.ptr 1 [] 0)),(3,(.dat 3 (.int x0))),(4,(.dat 4 (.bool x1))),(5,(.dat 5 (.int x2)))],[(.box 51 (.dat 51 x3)),(.box 25 (.dat 25 x4))],1⟩
noncomputable def s48_1 (x0:Int) (x1:Bool) (x2:Int) (x3:Bool) (x4 x5:Dt):St:=⟨tsOf [(0,(.ptr 0 [] 0)),(2,(.ptr 1 [] 0)),(3,(.dat 3 (.int x0))),(4,(.dat 4 (.bool x1))),(5,(.dat 5 (.int x2))),(40,(.dat 4 (.bool x3)))],[(.box 51 (.dat 51 x4)),(.box 25 (.dat 25 x5))],1⟩
abbrev H48_5 (m M5:Nat) (rec5:Int→Bool→Int→Bool→Dt→Dt→Option (Dt×Dt)):Prop:=∀x0 x1 x2 x3 x4 x5,l48 jn m w48_0 [] M5 (s48_6 x0 x1 x2 x3 x4 x5)=rec5 x0 x1 x2 x3 x4 x5
theorem i48_j7_eq m M5 rec5 (h5:H48_5 m M5 rec5) x0 x1 x2 x3 x4 x5 x6:e48 jn m w48_1 [M5] (s48_7 x0 x1 x2 x3 x4 x5 x6)=i48_j7 m rec5 x0 x1 x2 x3 x4 x5 x6:=
 tre (g:=fun J=>(jj J 1 14 M5 (s48_6 x0 x1 (IntKind.wrap IntKind.u64 ((IntKind.wrap IntKind.u64 (10*x2))+x4)) x3 (Dt.agg [(Dt.str (Dt.S x5 0)),(Dt.int (IntKind.wrap .i64 ((Dt.I x5 1)+1))),(Dt.int (Dt.I x5 2)),(Dt.int (Dt.I x5 3)),(Dt.int (Dt.I x5 4))]) x6) (l48 J m w48_0 [] M5))) (fun J=>by kernel_rfl) (by simp only[jj_eq,h5];rfl)
theorem i48_j6_eq m M5 rec5 (h5:H48_5 m M5 rec5) x0 x1 x2 x3 x4 x5:e48 jn m w48_2 [M5] (s48_6 x0 x1 x2 x3 x4 x5)=i48_j6 m rec5 x0 x1 x2 x3 x4 x5:=
 tre (g:=fun J=>((i29 m x4).bind fun r5=>
  (bif (decide ((IntKind.wrap IntKind.u64 (Int.tdiv (IntKind.wrap IntKind.u64 (9223372036854775808-(IntKind.wrap IntKind.u64 (IntKind.wrap IntKind.u8 (r5.1-48))))) 10))<x2)) then
  (jj J 0 18 0 (s48_7 x0 x1 x2 true (IntKind.wrap IntKind.u64 (IntKind.wrap IntKind.u8 (r5.1-48))) r5.2 x5) (e48 J m w48_1 [M5]))
  else
  (jj J 0 18 0 (s48_7 x0 x1 x2 x3 (IntKind.wrap IntKind.u64 (IntKind.wrap IntKind.u8 (r5.1-48))) r5.2 x5) (e48 J m w48_1 [M5]))))) (fun J=>by kernel_rfl) (by simp only[jj_eq,i48_j7_eq m M5 rec5 h5];rfl)
theorem i48_j11_eq m x0 x1 x2:e48 jn m w48_3 [] (s48_11 x0 x1 x2)=i48_j11 m x0 x1 x2:=
 tre (g:=fun J=>some ((Dt.agg [(Dt.int 3),(Dt.int x0),(Dt.str (ByteArray.mk (List.toArray []))),(Dt.lst []),(Dt.lst [])]),x1)) (fun J=>by kernel_rfl) (by rfl)
theorem i48_j10_eq m x0 x1 x2 x3:e48 jn m w48_4 [] (s48_10 x0 x1 x2 x3)=i48_j10 m x0 x1 x2 x3:=
 tre (g:=fun J=>(bif x0 then
  (jj J 0 26 0 (s48_11 (IntKind.wrap .i64 (0-(IntKind.wrap .i64 x1))) x2 x3) (e48 J m w48_3 []))
   else
  (jj J 0 26 0 (s48_11 (IntKind.wrap .i64 x1) x2 x3) (e48 J m w48_3 [])))) (fun J=>by kernel_rfl) (by simp only[jj_eq,i48_j11_eq m];rfl)
theorem i48_j9_eq m x0 x1 x2 x3 x4 x5:e48 jn m w48_5 [] (s48_9 x0 x1 x2 x3 x4 x5)=i48_j9 m x0 x1 x2 x3 x4 x5:=
 tre (g:=fun J=>(bif x3 then
  ((i31 m 2 x0 x4).bind fun r6=>
  some (kza2373,r6))
   else
  (jj J 0 23 0 (s48_10 x1 x2 x4 x5) (e48 J m w48_4 [])))) (fun J=>by kernel_rfl) (by simp only[jj_eq,i48_j10_eq m];rfl)
theorem i48_j8_eq m x0 x1 x2 x3 x4 x5:e48 jn m w48_6 [] (s48_6 x0 x1 x2 x3 x4 x5)=i48_j8 m x0 x1 x2 x3 x4 x5:=
 tre (g:=fun J=>(bif x3 then
  (jj J 0 21 0 (s48_9 x0 x1 x2 true x4 x5) (e48 J m w48_5 []))
   else
  (bif (decide (9223372036854775808<x2)) then
  (jj J 0 21 0 (s48_9 x0 x1 x2 true x4 x5) (e48 J m w48_5 []))
  else
  (bif (x2==9223372036854775808) then
  (jj J 0 21 0 (s48_9 x0 x1 x2 (Bool.not x1) x4 x5) (e48 J m w48_5 []))
  else
  (jj J 0 21 0 (s48_9 x0 x1 x2 false x4 x5) (e48 J m w48_5 [])))))) (fun J=>by kernel_rfl) (by simp only[jj_eq,i48_j9_eq m];rfl)
theorem i48_l5_eq m:∀M5 x0 x1 x2 x3 x4 x5,l48 jn m w48_0 [] M5 (s48_6 x0 x1 x2 x3 x4 x5)=i48_l5 m M5 x0 x1 x2 x3 x4 x5
 |0,_,_,_,_,_,_=>rfl
 | M5+1,x0,x1,x2,x3,x4,x5=>
   trl (g:=fun J=>((i29 m x4).bind fun r3=>
  (bif (decide (48≤r3.1)) then
  ((i29 m r3.2).bind fun r4=>
  (bif (decide (r4.1≤57)) then
  (jj J 0 15 0 (s48_6 x0 x1 x2 x3 r4.2 x5) (e48 J m w48_2 [M5]))
  else
  (jj J 0 20 0 (s48_6 x0 x1 x2 x3 r4.2 x5) (e48 J m w48_6 []))))
  else
  (jj J 0 20 0 (s48_6 x0 x1 x2 x3 r3.2 x5) (e48 J m w48_6 []))))) (fun J=>by kernel_rfl) (by simp only[jj_eq,i48_j6_eq m M5 (i48_l5 m M5) (i48_l5_eq m M5),i48_j8_eq m];rfl)
theorem i48_j4_eq m x0 x1 x2 x3 x4 x5:e48 jn m w48_7 [] (s48_6 x0 x1 x2 x3 x4 x5)=i48_j4 m x0 x1 x2 x3 x4 x5:=
 tre (g:=fun J=>(jj J 1 14 (Nat.succ m) (s48_6 x0 x1 x2 x3 x4 x5) (l48 J m w48_0 [] (Nat.succ m)))) (fun J=>by kernel_rfl) (by simp only[jj_eq,i48_l5_eq m];rfl)
theorem i48_j3_eq m x0 x1 x2 x3:e48 jn m w48_8 [] (s48_3 x0 x1 x2 x3)=i48_j3 m x0 x1 x2 x3:=
 tre (g:=fun J=>(jj J 0 14 0 (s48_6 x0 x1 0 false x2 x3) (e48 J m w48_7 []))) (fun J=>by kernel_rfl) (by simp only[jj_eq,i48_j4_eq m];rfl)
theorem i48_j2_eq m x0 x1 x2 x3 x4:e48 jn m w48_9 [] (s48_2 x0 x1 x2 x3 x4)=i48_j2 m x0 x1 x2 x3 x4:=
 tre (g:=fun J=>(bif (x2==48) then
  some (kz6243f,(Dt.agg [(Dt.str (Dt.S x3 0)),(Dt.int (IntKind.wrap .i64 ((Dt.I x3 1)+1))),(Dt.int (Dt.I x3 2)),(Dt.int (Dt.I x3 3)),(Dt.int (Dt.I x3 4))]))
   else
  (jj J 0 12 0 (s48_3 x0 x1 x3 x4) (e48 J m w48_8 [])))) (fun J=>by kernel_rfl) (by simp only[jj_eq,i48_j3_eq m];rfl)
theorem i48_j1_eq m x0 x1 x2 x3 x4 x5:e48 jn m w48_10 [] (s48_1 x0 x1 x2 x3 x4 x5)=i48_j1 m x0 x1 x2 x3 x4 x5:=
 tre (g:=fun J=>(bif x3 then
  ((i31 m 4 (Dt.I x4 1) x4).bind fun r2=>
  some (kza2373,r2))
   else
  (jj J 0 9 0 (s48_2 x0 x1 x2 x4 x5) (e48 J m w48_9 [])))) (fun J=>by kernel_rfl) (by simp only[jj_eq,i48_j2_eq m];rfl)
theorem i48_j0_eq m x0 x1 x2 x3:e48 jn m [1,1,1,1] [] (s48_3 x0 x1 x2 x3)=i48_j0 m x0 x1 x2 x3:=
 tre (g:=fun J=>((i29 m x2).bind fun r1=>
  (bif (decide (r1.1<48)) then
  (jj J 0 7 0 (s48_1 x0 x1 r1.1 true r1.2 x3) (e48 J m w48_10 []))
  else
  (bif (decide (57<r1.1)) then
  (jj J 0 7 0 (s48_1 x0 x1 r1.1 true r1.2 x3) (e48 J m w48_10 []))
  else
  (bif x1 then
  (jj J 0 7 0 (s48_1 x0 x1 r1.1 (r1.1==48) r1.2 x3) (e48 J m w48_10 []))
  else
  (jj J 0 7 0 (s48_1 x0 x1 r1.1 false r1.2 x3) (e48 J m w48_10 []))))))) (fun J=>by kernel_rfl) (by simp only[jj_eq,i48_j1_eq m];rfl)
theorem i48_eq m a0:e48 jn m [] [] ⟨[(.ptr 0 [] 0)],[(.box 51 (.dat 51 a0))],1⟩=i48 (m+1) a0:=
 tre (g:=fun J=>((i29 m a0).bind fun r0=>
  (bif (r0.1==45) then
  (jj J 0 5 0 (s48_3 (Dt.I a0 1) (r0.1==45) (Dt.agg [(Dt.str (Dt.S r0.2 0)),(Dt.int (IntKind.wrap .i64 ((Dt.I r0.2 1)+1))),(Dt.int (Dt.I r0.2 2)),(Dt.int (Dt.I r0.2 3)),(Dt.int (Dt.I r0.2 4))]) kza2373) (e48 J m [1,1,1,1] []))
  else
  (jj J 0 5 0 (s48_3 (Dt.I a0 1) (r0.1==45) r0.2 kza2373) (e48 J m [1,1,1,1] []))))) (fun J=>by kernel_rfl) (by simp only[jj_eq,i48_j0_eq m];rfl)
def w49_0:List Nat:=[1,1,0,1,0]
def w49_7:List Nat:=[1,1,1,0,1]
def w49_3:List Nat:=[1,1,1,0,1,0]
def w49_2:List Nat:=[1,1,0,1,0,0,1]
def w49_1:List Nat:=w49_2++[1]
def w49_6:List Nat:=w49_3++[0,1]
def w49_4:List Nat:=w49_6++[1]
def w49_5:List Nat:=w49_6++[0,0,1]
noncomputable def e49 (J:Nat→Nat→Nat→St→Option Bool→Option Bool) (m:Nat) (p ms:List Nat) (σ:St):=evAt Tryz.prog env (ct m) J (m+1) 25 99 Tryz.f25 d20 p ms σ
noncomputable def l49 (J:Nat→Nat→Nat→St→Option Bool→Option Bool) (m:Nat) (p ms:List Nat) (M:Nat) (σ:St):=loopAt Tryz.prog env (ct m) J (m+1) 25 99 Tryz.f25 d20 p ms M σ
noncomputable def s49_5 (x0:Int) (x1 x2:Dt):St:=⟨tsOf [(2,(.ptr 0 [] 0)),(3,(.ptr 1 [] 0)),(5,(.dat 3 (.int x0)))],[(.box 25 (.dat 25 x1)),(.box 25 (.dat 25 x2))],0⟩
noncomputable def s49_11 (x0:Int) (x1 x2:Dt):St:=⟨tsOf [(2,(.ptr 0 [] 0)),(3,(.ptr 1 [] 0)),(6,(.dat 3 (.int x0)))],[(.box 25 (.dat 25 x1)),(.box 25 (.dat 25 x2))],0⟩
noncomputable def s49_10 (x0:Int) (x1:Bool) (x2 x3:Dt):St:=⟨tsOf [(2,(.ptr 0 [] 0)),(3,(.ptr 1 [] 0)),(6,(.dat 3 (.int x0))),(98,(.dat 4 (.bool x1)))],[(.box 25 (.dat 25 x2)),(.box 25 (.dat 25 x3))],0⟩
noncomputable def s49_12:St:=⟨tsOf [],[],0⟩
noncomputable def s49_6 (x0 x1:Dt):St:=⟨tsOf [(2,(.ptr 0 [] 0)),(3,(.ptr 1 [] 0))],[(.box 25 (.dat 25 x0)),(.box 25 (.dat 25 x1))],0⟩
noncomputable def s49_0 (x0:Bool) (x1 x2:Dt):St:=⟨tsOf [(2,(.ptr 0 [] 0)),(3,(.ptr 1 [] 0)),(43,(.dat 4 (.bool x0)))],[(.box 25 (.dat 25 x1)),(.box 25 (.dat 25 x2))],0⟩
abbrev H49_3 (m M3:Nat) (rec3:Int→Dt→Dt→Option Bool):Prop:=∀x0 x1 x2,l49 jn m w49_0 [] M3 (s49_5 x0 x1 x2)=rec3 x0 x1 x2
theorem ref02_Same_j5_eq m M3 rec3 (h3:H49_3 m M3 rec3) x0 x1 x2:e49 jn m w49_1 [M3] (s49_5 x0 x1 x2)=ref02_Same_j5 m (ref02_Same m) rec3 x0 x1 x2:=
 tre (g:=fun J=>(jj J 1 4 M3 (s49_5 (IntKind.wrap .i64 (x0+1)) x1 x2) (l49 J m w49_0 [] M3))) (fun J=>by kernel_rfl) (by simp only[jj_eq,h3];rfl)
theorem ref02_Same_j4_eq m M3 rec3 (h3:H49_3 m M3 rec3) x0 x1 x2:e49 jn m w49_2 [M3] (s49_5 x0 x1 x2)=ref02_Same_j4 m (ref02_Same m) rec3 x0 x1 x2:=
 tre (g:=fun J=>((idx (Dt.L x1 3) x0).bind fun v0=>
  ((idx (Dt.L x2 3) x0).bind fun v1=>
  ((ref02_Same m v0 v1).bind fun r2=>
  (bif (Bool.not r2) then
  some false
  else
  (jj J 0 5 0 (s49_5 x0 x1 x2) (e49 J m w49_1 [M3]))))))) (fun J=>by kernel_rfl) (by simp only[jj_eq,ref02_Same_j5_eq m M3 rec3 h3];rfl)
abbrev H49_8 (m M8:Nat) (rec8:Int→Dt→Dt→Option Bool):Prop:=∀x0 x1 x2,l49 jn m w49_3 [] M8 (s49_11 x0 x1 x2)=rec8 x0 x1 x2
theorem ref02_Same_j11_eq m M8 rec8 (h8:H49_8 m M8 rec8) x0 x1 x2:e49 jn m w49_4 [M8] (s49_11 x0 x1 x2)=ref02_Same_j11 m (ref02_Same m) rec8 x0 x1 x2:=
 tre (g:=fun J=>(jj J 1 9 M8 (s49_11 (IntKind.wrap .i64 (x0+1)) x1 x2) (l49 J m w49_3 [] M8))) (fun J=>by kernel_rfl) (by simp only[jj_eq,h8];rfl)
theorem ref02_Same_j10_eq m M8 rec8 (h8:H49_8 m M8 rec8) x0 x1 x2 x3:e49 jn m w49_5 [M8] (s49_10 x0 x1 x2 x3)=ref02_Same_j10 m (ref02_Same m) rec8 x0 x1 x2 x3:=
 tre (g:=fun J=>(bif x1 then
  some false
   else
  (jj J 0 10 0 (s49_11 x0 x2 x3) (e49 J m w49_4 [M8])))) (fun J=>by kernel_rfl) (by simp only[jj_eq,ref02_Same_j11_eq m M8 rec8 h8];rfl)
theorem ref02_Same_j9_eq m M8 rec8 (h8:H49_8 m M8 rec8) x0 x1 x2:e49 jn m w49_6 [M8] (s49_11 x0 x1 x2)=ref02_Same_j9 m (ref02_Same m) rec8 x0 x1 x2:=
 tre (g:=fun J=>((idx (Dt.L x1 4) x0).bind fun v3=>
  ((idx (Dt.L x2 4) x0).bind fun v4=>
  (bif (Bool.not ((ByteArray.toList (Dt.S v3 0))==(ByteArray.toList (Dt.S v4 0)))) then
  (jj J 0 12 0 (s49_10 x0 true x1 x2) (e49 J m w49_5 [M8]))
  else
  ((idx (Dt.L x1 4) x0).bind fun v5=>
  ((idx (Dt.L x2 4) x0).bind fun v6=>
  ((ref02_Same m (Dt.fld v5 1) (Dt.fld v6 1)).bind fun r7=>
  (jj J 0 12 0 (s49_10 x0 (Bool.not r7) x1 x2) (e49 J m w49_5 [M8]))))))))) (fun J=>by kernel_rfl) (by simp only[jj_eq,ref02_Same_j10_eq m M8 rec8 h8];rfl)
theorem ref02_Same_j12_eq m:e49 jn m [1,1,1,1] [] s49_12=ref02_Same_j12 m (ref02_Same m):=
 tre (g:=fun J=>some true) (fun J=>by kernel_rfl) (by rfl)
theorem ref02_Same_l8_eq m:∀M8 x0 x1 x2,l49 jn m w49_3 [] M8 (s49_11 x0 x1 x2)=ref02_Same_l8 m (ref02_Same m) M8 x0 x1 x2
 |0,_,_,_=>rfl
 | M8+1,x0,x1,x2=>
   trl (g:=fun J=>(bif (decide (x0<(List.length (Dt.L x1 4):Int))) then
  (jj J 0 11 0 (s49_11 x0 x1 x2) (e49 J m w49_6 [M8]))
   else
  (jj J 0 13 0 s49_12 (e49 J m [1,1,1,1] [])))) (fun J=>by kernel_rfl) (by simp only[jj_eq,ref02_Same_j9_eq m M8 (ref02_Same_l8 m (ref02_Same m) M8) (ref02_Same_l8_eq m M8),ref02_Same_j12_eq m];rfl)
theorem ref02_Same_j7_eq m x0 x1 x2:e49 jn m w49_7 [] (s49_11 x0 x1 x2)=ref02_Same_j7 m (ref02_Same m) x0 x1 x2:=
 tre (g:=fun J=>(jj J 1 9 (Nat.succ m) (s49_11 x0 x1 x2) (l49 J m w49_3 [] (Nat.succ m)))) (fun J=>by kernel_rfl) (by simp only[jj_eq,ref02_Same_l8_eq m];rfl)
theorem ref02_Same_j6_eq m x0 x1:e49 jn m [1,1,1] [] (s49_6 x0 x1)=ref02_Same_j6 m (ref02_Same m) x0 x1:=
 tre (g:=fun J=>(jj J 0 9 0 (s49_11 0 x0 x1) (e49 J m w49_7 []))) (fun J=>by kernel_rfl) (by simp only[jj_eq,ref02_Same_j7_eq m];rfl)
theorem ref02_Same_l3_eq m:∀M3 x0 x1 x2,l49 jn m w49_0 [] M3 (s49_5 x0 x1 x2)=ref02_Same_l3 m (ref02_Same m) M3 x0 x1 x2
 |0,_,_,_=>rfl
 | M3+1,x0,x1,x2=>
   trl (g:=fun J=>(bif (decide (x0<(List.length (Dt.L x1 3):Int))) then
  (jj J 0 6 0 (s49_5 x0 x1 x2) (e49 J m w49_2 [M3]))
   else
  (jj J 0 8 0 (s49_6 x1 x2) (e49 J m [1,1,1] [])))) (fun J=>by kernel_rfl) (by simp only[jj_eq,ref02_Same_j4_eq m M3 (ref02_Same_l3 m (ref02_Same m) M3) (ref02_Same_l3_eq m M3),ref02_Same_j6_eq m];rfl)
theorem ref02_Same_j2_eq m x0 x1 x2:e49 jn m [1,1,0,1] [] (s49_5 x0 x1 x2)=ref02_Same_j2 m (ref02_Same m) x0 x1 x2:=
 tre (g:=fun J=>(jj J 1 4 (Nat.succ m) (s49_5 x0 x1 x2) (l49 J m w49_0 [] (Nat.succ m)))) (fun J=>by kernel_rfl) (by simp only[jj_eq,ref02_Same_l3_eq m];rfl)
theorem ref02_Same_j1_eq m x0 x1:e49 jn m [1,1] [] (s49_6 x0 x1)=ref02_Same_j1 m (ref02_Same m) x0 x1:=
 tre (g:=fun J=>(jj J 0 4 0 (s49_5 0 x0 x1) (e49 J m [1,1,0,1] []))) (fun J=>by kernel_rfl) (by simp only[jj_eq,ref02_Same_j2_eq m];rfl)
theorem ref02_Same_j0_eq m x0 x1 x2:e49 jn m [1,0,1] [] (s49_0 x0 x1 x2)=ref02_Same_j0 m (ref02_Same m) x0 x1 x2:=
 tre (g:=fun J=>(bif x0 then
  some false
   else
  (jj J 0 3 0 (s49_6 x1 x2) (e49 J m [1,1] [])))) (fun J=>by kernel_rfl) (by simp only[jj_eq,ref02_Same_j1_eq m];rfl)
theorem ref02_Same_eq m a0 a1:e49 jn m [] [] ⟨[(.dat 25 a0),(.dat 25 a1)],[],0⟩=ref02_Same (m+1) a0 a1:=
 tre (g:=fun J=>(bif ((Dt.I a0 0) !=(Dt.I a1 0)) then
  (jj J 0 2 0 (s49_0 true a0 a1) (e49 J m [1,0,1] []))
   else
  (bif ((Dt.I a0 1) !=(Dt.I a1 1)) then
  (jj J 0 2 0 (s49_0 true a0 a1) (e49 J m [1,0,1] []))
  else
  (bif (Bool.not ((ByteArray.toList (Dt.S a0 2))==(ByteArray.toList (Dt.S a1 2)))) then
  (jj J 0 2 0 (s49_0 true a0 a1) (e49 J m [1,0,1] []))
  else
  (bif ((List.length (Dt.L a0 3):Int) !=(List.length (Dt.L a1 3):Int)) then
  (jj J 0 2 0 (s49_0 true a0 a1) (e49 J m [1,0,1] []))
  else
  (jj J 0 2 0 (s49_0 ((List.length (Dt.L a0 4):Int) !=(List.length (Dt.L a1 4):Int)) a0 a1) (e49 J m [1,0,1] []))))))) (fun J=>by kernel_rfl) (by simp only[jj_eq,ref02_Same_j0_eq m];rfl)
noncomputable def e4 (J:Nat→Nat→Nat→St→Option Bool→Option Bool) (m:Nat) (p ms:List Nat) (σ:St):=evAt Tryz.prog env (ct m) J (m+1) 11 8 Tryz.f11 d20 p ms σ
noncomputable def l4 (J:Nat→Nat→Nat→St→Option Bool→Option Bool) (m:Nat) (p ms:List Nat) (M:Nat) (σ:St):=loopAt Tryz.prog env (ct m) J (m+1) 11 8 Tryz.f11 d20 p ms M σ
theorem ref05_Same_eq m a0 a1:e4 jn m [] [] ⟨[(.dat 25 a0),(.dat 25 a1)],[],0⟩=ref05_Same (m+1) a0 a1:=
 tre (g:=fun J=>((ref02_Same m a0 a1).bind fun r0=>
  some r0)) (fun J=>by kernel_rfl) (by rfl)
def w50_1:List Nat:=[1,0,1,0,0,1]
def w50_0:List Nat:=w50_1++[1]
noncomputable def e50 (J:Nat→Nat→Nat→St→Option Int→Option Int) (m:Nat) (p ms:List Nat) (σ:St):=evAt Tryz.prog env (ct m) J (m+1) 88 13 Tryz.f88 d50 p ms σ
noncomputable def l50 (J:Nat→Nat→Nat→St→Option Int→Option Int) (m:Nat) (p ms:List Nat) (M:Nat) (σ:St):=loopAt Tryz.prog env (ct m) J (m+1) 88 13 Tryz.f88 d50 p ms M σ
noncomputable def s50_3 (x0 x1:Int):St:=⟨tsOf [(0,(.dat 5 (.int x0))),(3,(.dat 3 (.int x1)))],[],0⟩
noncomputable def s50_4:St:=⟨tsOf [],[],0⟩
abbrev H50_1 (m M1:Nat) (rec1:Int→Int→Option Int):Prop:=∀x0 x1,l50 jn m [1,0,1,0] [] M1 (s50_3 x0 x1)=rec1 x0 x1
theorem ref05_place_j3_eq m M1 rec1 (h1:H50_1 m M1 rec1) x0 x1:e50 jn m w50_0 [M1] (s50_3 x0 x1)=ref05_place_j3 m rec1 x0 x1:=
 tre (g:=fun J=>(jj J 1 2 M1 (s50_3 x0 (IntKind.wrap .i64 (x1+1))) (l50 J m [1,0,1,0] [] M1))) (fun J=>by kernel_rfl) (by simp only[jj_eq,h1];rfl)
theorem ref05_place_j2_eq m M1 rec1 (h1:H50_1 m M1 rec1) x0 x1:e50 jn m w50_1 [M1] (s50_3 x0 x1)=ref05_place_j2 m rec1 x0 x1:=
 tre (g:=fun J=>((idxS (ByteArray.mk (List.toArray [48,49,50,51,52,53,54,55,56,57,97,98,99,100,101,102])) x1).bind fun v0=>
  (bif (v0==x0) then
  some x1
  else
  (jj J 0 3 0 (s50_3 x0 x1) (e50 J m w50_0 [M1]))))) (fun J=>by kernel_rfl) (by simp only[jj_eq,ref05_place_j3_eq m M1 rec1 h1];rfl)
theorem ref05_place_j4_eq m:e50 jn m [1,1] [] s50_4=ref05_place_j4 m:=
 tre (g:=fun J=>some (-1)) (fun J=>by kernel_rfl) (by rfl)
theorem ref05_place_l1_eq m:∀M1 x0 x1,l50 jn m [1,0,1,0] [] M1 (s50_3 x0 x1)=ref05_place_l1 m M1 x0 x1
 |0,_,_=>rfl
 | M1+1,x0,x1=>
   trl (g:=fun J=>(bif (decide (x1<16)) then
  (jj J 0 4 0 (s50_3 x0 x1) (e50 J m w50_1 [M1]))
   else
  (jj J 0 6 0 s50_4 (e50 J m [1,1] [])))) (fun J=>by kernel_rfl) (by simp only[jj_eq,ref05_place_j2_eq m M1 (ref05_place_l1 m M1) (ref05_place_l1_eq m M1),ref05_place_j4_eq m];rfl)
theorem ref05_place_j0_eq m x0 x1:e50 jn m [1,0,1] [] (s50_3 x0 x1)=ref05_place_j0 m x0 x1:=
 tre (g:=fun J=>(jj J 1 2 (Nat.succ m) (s50_3 x0 x1) (l50 J m [1,0,1,0] [] (Nat.succ m)))) (fun J=>by kernel_rfl) (by simp only[jj_eq,ref05_place_l1_eq m];rfl)
theorem ref05_place_eq m a0:e50 jn m [] [] ⟨[(.dat 5 (.int a0))],[],0⟩=ref05_place (m+1) a0:=
 tre (g:=fun J=>(jj J 0 2 0 (s50_3 a0 0) (e50 J m [1,0,1] []))) (fun J=>by kernel_rfl) (by simp only[jj_eq,ref05_place_j0_eq m];rfl)
noncomputable def e40 (J:Nat→Nat→Nat→St→Option Int→Option Int) (m:Nat) (p ms:List Nat) (σ:St):=evAt Tryz.prog env (ct m) J (m+1) 123 13 Tryz.f123 d50 p ms σ
noncomputable def l40 (J:Nat→Nat→Nat→St→Option Int→Option Int) (m:Nat) (p ms:List Nat) (M:Nat) (σ:St):=loopAt Tryz.prog env (ct m) J (m+1) 123 13 Tryz.f123 d50 p ms M σ
noncomputable def s40_1 (x0:Int):St:=⟨tsOf [(0,(.dat 5 (.int x0)))],[],0⟩
noncomputable def s40_0 (x0:Int) (x1:Bool):St:=⟨tsOf [(0,(.dat 5 (.int x0))),(8,(.dat 4 (.bool x1)))],[],0⟩
theorem ref05_hexadecimal_j1_eq m x0:e40 jn m [1,1] [] (s40_1 x0)=ref05_hexadecimal_j1 m x0:=
 tre (g:=fun J=>((ref05_place m x0).bind fun r0=>
  some r0)) (fun J=>by kernel_rfl) (by rfl)
theorem ref05_hexadecimal_j0_eq m x0 x1:e40 jn m [1,0,1] [] (s40_0 x0 x1)=ref05_hexadecimal_j0 m x0 x1:=
 tre (g:=fun J=>(bif x1 then
  (jj J 0 3 0 (s40_1 (IntKind.wrap IntKind.u8 (x0+32))) (e40 J m [1,1] []))
   else
  (jj J 0 3 0 (s40_1 x0) (e40 J m [1,1] [])))) (fun J=>by kernel_rfl) (by simp only[jj_eq,ref05_hexadecimal_j1_eq m];rfl)
theorem ref05_hexadecimal_eq m a0:e40 jn m [] [] ⟨[(.dat 5 (.int a0))],[],0⟩=ref05_hexadecimal (m+1) a0:=
 tre (g:=fun J=>(bif (decide (65≤a0)) then
  (jj J 0 2 0 (s40_0 a0 (decide (a0≤70))) (e40 J m [1,0,1] []))
   else
  (jj J 0 2 0 (s40_0 a0 false) (e40 J m [1,0,1] [])))) (fun J=>by kernel_rfl) (by simp only[jj_eq,ref05_hexadecimal_j0_eq m];rfl)
def w39_0:List Nat:=[1,1,0,1,0]
def w39_5:List Nat:=[1,1,0,1,0,0,1]
def w39_1:List Nat:=w39_5++[1]
def w39_4:List Nat:=w39_5++[0,0,1,1]
def w39_2:List Nat:=w39_4++[1]
def w39_3:List Nat:=w39_4++[0,1]
noncomputable def e39 (J:Nat→Nat→Nat→St→Option (ByteArray×Dt)→Option (ByteArray×Dt)) (m:Nat) (p ms:List Nat) (σ:St):=evAt Tryz.prog env (ct m) J (m+1) 110 64 Tryz.f110 d39 p ms σ
noncomputable def l39 (J:Nat→Nat→Nat→St→Option (ByteArray×Dt)→Option (ByteArray×Dt)) (m:Nat) (p ms:List Nat) (M:Nat) (σ:St):=loopAt Tryz.prog env (ct m) J (m+1) 110 64 Tryz.f110 d39 p ms M σ
noncomputable def s39_6 (x0 x1:Int) (x2:Dt):St:=⟨tsOf [(0,(.ptr 0 [] 0)),(3,(.dat 3 (.int x0))),(4,(.dat 3 (.int x1)))],[(.box 51 (.dat 51 x2))],1⟩
noncomputable def s39_5 (x0 x1 x2:Int) (x3:Dt):St:=⟨tsOf [(0,(.ptr 0 [] 0)),(3,(.dat 3 (.int x0))),(4,(.dat 3 (.int x1))),(5,(.dat 3 (.int x2)))],[(.box 51 (.dat 51 x3))],1⟩
noncomputable def s39_4 (x0 x1 x2:Int) (x3:Bool) (x4:Dt):St:=⟨tsOf [(0,(.ptr 0 [] 0)),(3,(.dat 3 (.int x0))),(4,(.dat 3 (.int x1))),(5,(.dat 3 (.int x2))),(43,(.dat 4 (.bool x3)))],[(.box 51 (.dat 51 x4))],1⟩
noncomputable def s39_7 (x0:Int) (x1:Dt):St:=⟨tsOf [(3,(.dat 3 (.int x0)))],[(.box 51 (.dat 51 x1))],1⟩
abbrev H39_1 (m M1:Nat) (rec1:Int→Int→Dt→Option (ByteArray×Dt)):Prop:=∀x0 x1 x2,l39 jn m w39_0 [] M1 (s39_6 x0 x1 x2)=rec1 x0 x1 x2
theorem i39_j6_eq m M1 rec1 (h1:H39_1 m M1 rec1) x0 x1 x2:e39 jn m w39_1 [M1] (s39_6 x0 x1 x2)=i39_j6 m rec1 x0 x1 x2:=
 tre (g:=fun J=>(jj J 1 3 M1 (s39_6 x0 (IntKind.wrap .i64 (x1+1)) x2) (l39 J m w39_0 [] M1))) (fun J=>by kernel_rfl) (by simp only[jj_eq,h1];rfl)
theorem i39_j5_eq m M1 rec1 (h1:H39_1 m M1 rec1) x0 x1 x2 x3:e39 jn m w39_2 [M1] (s39_5 x0 x1 x2 x3)=i39_j5 m rec1 x0 x1 x2 x3:=
 tre (g:=fun J=>(jj J 0 4 0 (s39_6 (IntKind.wrap .i64 ((IntKind.wrap .i64 (16*x0))+x2)) x1 (Dt.agg [(Dt.str (Dt.S x3 0)),(Dt.int (IntKind.wrap .i64 ((Dt.I x3 1)+1))),(Dt.int (Dt.I x3 2)),(Dt.int (Dt.I x3 3)),(Dt.int (Dt.I x3 4))])) (e39 J m w39_1 [M1]))) (fun J=>by kernel_rfl) (by simp only[jj_eq,i39_j6_eq m M1 rec1 h1];rfl)
theorem i39_j4_eq m M1 rec1 (h1:H39_1 m M1 rec1) x0 x1 x2 x3 x4:e39 jn m w39_3 [M1] (s39_4 x0 x1 x2 x3 x4)=i39_j4 m rec1 x0 x1 x2 x3 x4:=
 tre (g:=fun J=>(bif x3 then
  ((i31 m 4 (Dt.I x4 1) x4).bind fun r2=>
  some ((ByteArray.mk (List.toArray [])),r2))
   else
  (jj J 0 11 0 (s39_5 x0 x1 x2 x4) (e39 J m w39_2 [M1])))) (fun J=>by kernel_rfl) (by simp only[jj_eq,i39_j5_eq m M1 rec1 h1];rfl)
theorem i39_j3_eq m M1 rec1 (h1:H39_1 m M1 rec1) x0 x1 x2 x3:e39 jn m w39_4 [M1] (s39_5 x0 x1 x2 x3)=i39_j3 m rec1 x0 x1 x2 x3:=
 tre (g:=fun J=>(bif (decide (x2<0)) then
  (jj J 0 9 0 (s39_4 x0 x1 x2 true x3) (e39 J m w39_3 [M1]))
   else
  (bif (x1==1) then
  (bif (x0==13) then
  (jj J 0 9 0 (s39_4 x0 x1 x2 (decide (8≤x2)) x3) (e39 J m w39_3 [M1]))
  else
  (jj J 0 9 0 (s39_4 x0 x1 x2 false x3) (e39 J m w39_3 [M1])))
  else
  (jj J 0 9 0 (s39_4 x0 x1 x2 false x3) (e39 J m w39_3 [M1]))))) (fun J=>by kernel_rfl) (by simp only[jj_eq,i39_j4_eq m M1 rec1 h1];rfl)
theorem i39_j2_eq m M1 rec1 (h1:H39_1 m M1 rec1) x0 x1 x2:e39 jn m w39_5 [M1] (s39_6 x0 x1 x2)=i39_j2 m rec1 x0 x1 x2:=
 tre (g:=fun J=>(bif (decide ((Dt.I x2 1)<(ByteArray.size (Dt.S x2 0):Int))) then
  ((idxS (Dt.S x2 0) (Dt.I x2 1)).bind fun v0=>
  ((ref05_hexadecimal m v0).bind fun r1=>
  (jj J 0 8 0 (s39_5 x0 x1 r1 x2) (e39 J m w39_4 [M1]))))
   else
  (jj J 0 8 0 (s39_5 x0 x1 (-1) x2) (e39 J m w39_4 [M1])))) (fun J=>by kernel_rfl) (by simp only[jj_eq,i39_j3_eq m M1 rec1 h1];rfl)
theorem i39_j7_eq m x0 x1:e39 jn m [1,1,1] [] (s39_7 x0 x1)=i39_j7 m x0 x1:=
 tre (g:=fun J=>((ref05_utf m x0).bind fun r3=>
  some (r3,x1))) (fun J=>by kernel_rfl) (by rfl)
theorem i39_l1_eq m:∀M1 x0 x1 x2,l39 jn m w39_0 [] M1 (s39_6 x0 x1 x2)=i39_l1 m M1 x0 x1 x2
 |0,_,_,_=>rfl
 | M1+1,x0,x1,x2=>
   trl (g:=fun J=>(bif (decide (x1<4)) then
  (jj J 0 5 0 (s39_6 x0 x1 x2) (e39 J m w39_5 [M1]))
   else
  (jj J 0 13 0 (s39_7 x0 x2) (e39 J m [1,1,1] [])))) (fun J=>by kernel_rfl) (by simp only[jj_eq,i39_j2_eq m M1 (i39_l1 m M1) (i39_l1_eq m M1),i39_j7_eq m];rfl)
theorem i39_j0_eq m x0 x1 x2:e39 jn m [1,1,0,1] [] (s39_6 x0 x1 x2)=i39_j0 m x0 x1 x2:=
 tre (g:=fun J=>(jj J 1 3 (Nat.succ m) (s39_6 x0 x1 x2) (l39 J m w39_0 [] (Nat.succ m)))) (fun J=>by kernel_rfl) (by simp only[jj_eq,i39_l1_eq m];rfl)
theorem i39_eq m a0:e39 jn m [] [] ⟨[(.ptr 0 [] 0)],[(.box 51 (.dat 51 a0))],1⟩=i39 (m+1) a0:=
 tre (g:=fun J=>(jj J 0 3 0 (s39_6 0 0 a0) (e39 J m [1,1,0,1] []))) (fun J=>by kernel_rfl) (by simp only[jj_eq,i39_j0_eq m];rfl)
def w38_0:List Nat:=[1,1,0,1,0]
def w38_2:List Nat:=[1,1,0,1,0,0,1]
def w38_1:List Nat:=w38_2++[1]
noncomputable def e38 (J:Nat→Nat→Nat→St→Option (ByteArray×Dt)→Option (ByteArray×Dt)) (m:Nat) (p ms:List Nat) (σ:St):=evAt Tryz.prog env (ct m) J (m+1) 94 45 Tryz.f94 d39 p ms σ
noncomputable def l38 (J:Nat→Nat→Nat→St→Option (ByteArray×Dt)→Option (ByteArray×Dt)) (m:Nat) (p ms:List Nat) (M:Nat) (σ:St):=loopAt Tryz.prog env (ct m) J (m+1) 94 45 Tryz.f94 d39 p ms M σ
noncomputable def s38_3 (x0 x1:Int) (x2:Dt):St:=⟨tsOf [(0,(.ptr 0 [] 0)),(3,(.dat 5 (.int x0))),(4,(.dat 3 (.int x1)))],[(.box 51 (.dat 51 x2))],1⟩
noncomputable def s38_5 (x0:Dt):St:=⟨tsOf [(0,(.ptr 0 [] 0))],[(.box 51 (.dat 51 x0))],1⟩
noncomputable def s38_4 (x0:Int) (x1:Dt):St:=⟨tsOf [(0,(.ptr 0 [] 0)),(3,(.dat 5 (.int x0)))],[(.box 51 (.dat 51 x1))],1⟩
abbrev H38_1 (m M1:Nat) (rec1:Int→Int→Dt→Option (ByteArray×Dt)):Prop:=∀x0 x1 x2,l38 jn m w38_0 [] M1 (s38_3 x0 x1 x2)=rec1 x0 x1 x2
theorem i38_j3_eq m M1 rec1 (h1:H38_1 m M1 rec1) x0 x1 x2:e38 jn m w38_1 [M1] (s38_3 x0 x1 x2)=i38_j3 m rec1 x0 x1 x2:=
 tre (g:=fun J=>(jj J 1 3 M1 (s38_3 x0 (IntKind.wrap .i64 (x1+1)) x2) (l38 J m w38_0 [] M1))) (fun J=>by kernel_rfl) (by simp only[jj_eq,h1];rfl)
theorem i38_j2_eq m M1 rec1 (h1:H38_1 m M1 rec1) x0 x1 x2:e38 jn m w38_2 [M1] (s38_3 x0 x1 x2)=i38_j2 m rec1 x0 x1 x2:=
 tre (g:=fun J=>((idxS (ByteArray.mk (List.toArray [34,92,47,98,102,110,114,116])) x1).bind fun v1=>
  (bif (x0==v1) then
  ((cutS (ByteArray.mk (List.toArray [34,92,47,8,12,10,13,9])) x1 (IntKind.wrap .i64 (x1+1))).bind fun v2=>
  some (v2,(Dt.agg [(Dt.str (Dt.S x2 0)),(Dt.int (IntKind.wrap .i64 ((Dt.I x2 1)+1))),(Dt.int (Dt.I x2 2)),(Dt.int (Dt.I x2 3)),(Dt.int (Dt.I x2 4))])))
  else
  (jj J 0 4 0 (s38_3 x0 x1 x2) (e38 J m w38_1 [M1]))))) (fun J=>by kernel_rfl) (by simp only[jj_eq,i38_j3_eq m M1 rec1 h1];rfl)
theorem i38_j5_eq m x0:e38 jn m [1,1,1,1] [] (s38_5 x0)=i38_j5 m x0:=
 tre (g:=fun J=>((i39 m (Dt.agg [(Dt.str (Dt.S x0 0)),(Dt.int (IntKind.wrap .i64 ((Dt.I x0 1)+1))),(Dt.int (Dt.I x0 2)),(Dt.int (Dt.I x0 3)),(Dt.int (Dt.I x0 4))])).bind fun r4=>
  some (r4.1,r4.2))) (fun J=>by kernel_rfl) (by rfl)
theorem i38_j4_eq m x0 x1:e38 jn m [1,1,1] [] (s38_4 x0 x1)=i38_j4 m x0 x1:=
 tre (g:=fun J=>(bif (x0 !=117) then
  ((i31 m 4 (Dt.I x1 1) x1).bind fun r3=>
  some ((ByteArray.mk (List.toArray [])),r3))
   else
  (jj J 0 11 0 (s38_5 x1) (e38 J m [1,1,1,1] [])))) (fun J=>by kernel_rfl) (by simp only[jj_eq,i38_j5_eq m];rfl)
theorem i38_l1_eq m:∀M1 x0 x1 x2,l38 jn m w38_0 [] M1 (s38_3 x0 x1 x2)=i38_l1 m M1 x0 x1 x2
 |0,_,_,_=>rfl
 | M1+1,x0,x1,x2=>
   trl (g:=fun J=>(bif (decide (x1<8)) then
  (jj J 0 5 0 (s38_3 x0 x1 x2) (e38 J m w38_2 [M1]))
   else
  (jj J 0 8 0 (s38_4 x0 x2) (e38 J m [1,1,1] [])))) (fun J=>by kernel_rfl) (by simp only[jj_eq,i38_j2_eq m M1 (i38_l1 m M1) (i38_l1_eq m M1),i38_j4_eq m];rfl)
theorem i38_j0_eq m x0 x1 x2:e38 jn m [1,1,0,1] [] (s38_3 x0 x1 x2)=i38_j0 m x0 x1 x2:=
 tre (g:=fun J=>(jj J 1 3 (Nat.succ m) (s38_3 x0 x1 x2) (l38 J m w38_0 [] (Nat.succ m)))) (fun J=>by kernel_rfl) (by simp only[jj_eq,i38_l1_eq m];rfl)
theorem i38_eq m a0:e38 jn m [] [] ⟨[(.ptr 0 [] 0)],[(.box 51 (.dat 51 a0))],1⟩=i38 (m+1) a0:=
 tre (g:=fun J=>((i29 m a0).bind fun r0=>
  (jj J 0 3 0 (s38_3 r0.1 0 r0.2) (e38 J m [1,1,0,1] [])))) (fun J=>by kernel_rfl) (by simp only[jj_eq,i38_j0_eq m];rfl)
def w37_0:List Nat:=[1,1,1,0,0]
def w37_3:List Nat:=[1,1,1,0,0,0,1]
def w37_1:List Nat:=w37_3++[0,1]
def w37_2:List Nat:=w37_3++[0,0,1]
noncomputable def e37 (J:Nat→Nat→Nat→St→Option (ByteArray×Dt)→Option (ByteArray×Dt)) (m:Nat) (p ms:List Nat) (σ:St):=evAt Tryz.prog env (ct m) J (m+1) 77 73 Tryz.f77 d39 p ms σ
noncomputable def l37 (J:Nat→Nat→Nat→St→Option (ByteArray×Dt)→Option (ByteArray×Dt)) (m:Nat) (p ms:List Nat) (M:Nat) (σ:St):=loopAt Tryz.prog env (ct m) J (m+1) 77 73 Tryz.f77 d39 p ms M σ
noncomputable def s37_4 (x0:ByteArray) (x1:Dt):St:=⟨tsOf [(0,(.ptr 0 [] 0)),(3,(.dat 9 (.str x0)))],[(.box 51 (.dat 51 x1))],1⟩
noncomputable def s37_3 (x0:ByteArray) (x1:Bool) (x2:Dt):St:=⟨tsOf [(0,(.ptr 0 [] 0)),(3,(.dat 9 (.str x0))),(33,(.dat 4 (.bool x1)))],[(.box 51 (.dat 51 x2))],1⟩
noncomputable def s37_5 (x0:ByteArray) (x1:Dt):St:=⟨tsOf [(3,(.dat 9 (.str x0)))],[(.box 51 (.dat 51 x1))],1⟩
abbrev H37_1 (m M1:Nat) (rec1:ByteArray→Dt→Option (ByteArray×Dt)):Prop:=∀x0 x1,l37 jn m w37_0 [] M1 (s37_4 x0 x1)=rec1 x0 x1
theorem i37_j4_eq m M1 rec1 (h1:H37_1 m M1 rec1) x0 x1:e37 jn m w37_1 [M1] (s37_4 x0 x1)=i37_j4 m rec1 x0 x1:=
 tre (g:=fun J=>((idxS (Dt.S x1 0) (Dt.I x1 1)).bind fun v2=>
  (bif (v2==34) then
  some (x0,(Dt.agg [(Dt.str (Dt.S x1 0)),(Dt.int (IntKind.wrap .i64 ((Dt.I x1 1)+1))),(Dt.int (Dt.I x1 2)),(Dt.int (Dt.I x1 3)),(Dt.int (Dt.I x1 4))]))
  else
  (bif (v2==92) then
  ((i38 m (Dt.agg [(Dt.str (Dt.S x1 0)),(Dt.int (IntKind.wrap .i64 ((Dt.I x1 1)+1))),(Dt.int (Dt.I x1 2)),(Dt.int (Dt.I x1 3)),(Dt.int (Dt.I x1 4))])).bind fun r3=>
  (bif (Nat.ble ((ByteArray.size x0)+(ByteArray.size r3.1)) 1152921504606846976) then
  (jj J 1 3 M1 (s37_4 (x0++r3.1) r3.2) (l37 J m w37_0 [] M1))
  else
  none))
  else
  (bif (Nat.ble ((ByteArray.size x0)+(ByteArray.size (strOfNums [v2]))) 1152921504606846976) then
  (jj J 1 3 M1 (s37_4 (x0++(strOfNums [v2])) (Dt.agg [(Dt.str (Dt.S x1 0)),(Dt.int (IntKind.wrap .i64 ((Dt.I x1 1)+1))),(Dt.int (Dt.I x1 2)),(Dt.int (Dt.I x1 3)),(Dt.int (Dt.I x1 4))])) (l37 J m w37_0 [] M1))
  else
  none))))) (fun J=>by kernel_rfl) (by simp only[jj_eq,h1];rfl)
theorem i37_j3_eq m M1 rec1 (h1:H37_1 m M1 rec1) x0 x1 x2:e37 jn m w37_2 [M1] (s37_3 x0 x1 x2)=i37_j3 m rec1 x0 x1 x2:=
 tre (g:=fun J=>(bif x1 then
  ((i31 m 4 (Dt.I x2 1) x2).bind fun r1=>
  some ((ByteArray.mk (List.toArray [])),r1))
   else
  (jj J 0 7 0 (s37_4 x0 x2) (e37 J m w37_1 [M1])))) (fun J=>by kernel_rfl) (by simp only[jj_eq,i37_j4_eq m M1 rec1 h1];rfl)
theorem i37_j2_eq m M1 rec1 (h1:H37_1 m M1 rec1) x0 x1:e37 jn m w37_3 [M1] (s37_4 x0 x1)=i37_j2 m rec1 x0 x1:=
 tre (g:=fun J=>(bif (decide ((ByteArray.size (Dt.S x1 0):Int)≤(Dt.I x1 1))) then
  (jj J 0 5 0 (s37_3 x0 true x1) (e37 J m w37_2 [M1]))
   else
  ((idxS (Dt.S x1 0) (Dt.I x1 1)).bind fun v4=>
  (jj J 0 5 0 (s37_3 x0 (decide (v4<32)) x1) (e37 J m w37_2 [M1]))))) (fun J=>by kernel_rfl) (by simp only[jj_eq,i37_j3_eq m M1 rec1 h1];rfl)
theorem i37_j5_eq m x0 x1:e37 jn m [1,1,1,1] [] (s37_5 x0 x1)=i37_j5 m x0 x1:=
 tre (g:=fun J=>some (x0,x1)) (fun J=>by kernel_rfl) (by rfl)
theorem i37_l1_eq m:∀M1 x0 x1,l37 jn m w37_0 [] M1 (s37_4 x0 x1)=i37_l1 m M1 x0 x1
 |0,_,_=>rfl
 | M1+1,x0,x1=>
   trl (g:=fun J=>(bif ((Dt.I x1 3)==0) then
  (jj J 0 4 0 (s37_4 x0 x1) (e37 J m w37_3 [M1]))
   else
  (jj J 0 15 0 (s37_5 x0 x1) (e37 J m [1,1,1,1] [])))) (fun J=>by kernel_rfl) (by simp only[jj_eq,i37_j2_eq m M1 (i37_l1 m M1) (i37_l1_eq m M1),i37_j5_eq m];rfl)
theorem i37_j0_eq m x0 x1:e37 jn m [1,1,1] [] (s37_4 x0 x1)=i37_j0 m x0 x1:=
 tre (g:=fun J=>(jj J 1 3 (Nat.succ m) (s37_4 x0 x1) (l37 J m w37_0 [] (Nat.succ m)))) (fun J=>by kernel_rfl) (by simp only[jj_eq,i37_l1_eq m];rfl)
theorem i37_eq m a0:e37 jn m [] [] ⟨[(.ptr 0 [] 0)],[(.box 51 (.dat 51 a0))],1⟩=i37 (m+1) a0:=
 tre (g:=fun J=>((i34 m 34 a0).bind fun r0=>
  (jj J 0 3 0 (s37_4 (ByteArray.mk (List.toArray [])) r0) (e37 J m [1,1,1] [])))) (fun J=>by kernel_rfl) (by simp only[jj_eq,i37_j0_eq m];rfl)
def w36_3:List Nat:=[1,1,1,1,1]
def w36_4:List Nat:=[1,1,1,1,0,1]
def w36_0:List Nat:=w36_4++[0]
def w36_2:List Nat:=w36_0++[0,1]
def w36_1:List Nat:=w36_2++[1]
noncomputable def e36 (J:Nat→Nat→Nat→St→Option (ByteArray×Dt×List Dt)→Option (ByteArray×Dt×List Dt)) (m:Nat) (p ms:List Nat) (σ:St):=evAt Tryz.prog env (ct m) J (m+1) 75 43 Tryz.f75 d36 p ms σ
noncomputable def l36 (J:Nat→Nat→Nat→St→Option (ByteArray×Dt×List Dt)→Option (ByteArray×Dt×List Dt)) (m:Nat) (p ms:List Nat) (M:Nat) (σ:St):=loopAt Tryz.prog env (ct m) J (m+1) 75 43 Tryz.f75 d36 p ms M σ
noncomputable def s36_4 (x0:Int) (x1:ByteArray) (x2:Int) (x3:Dt) (x4:List Dt):St:=⟨tsOf [(0,(.ptr 0 [] 0)),(1,(.row 1)),(5,(.dat 3 (.int x0))),(6,(.dat 9 (.str x1))),(7,(.dat 3 (.int x2)))],[(.box 51 (.dat 51 x3)),(.row 23 x4)],2⟩
noncomputable def s36_5 (x0:ByteArray) (x1:Dt) (x2:List Dt):St:=⟨tsOf [(6,(.dat 9 (.str x0)))],[(.box 51 (.dat 51 x1)),(.row 23 x2)],2⟩
noncomputable def s36_0 (x0:Int) (x1:ByteArray) (x2:Dt) (x3:List Dt):St:=⟨tsOf [(0,(.ptr 0 [] 0)),(1,(.row 1)),(5,(.dat 3 (.int x0))),(6,(.dat 9 (.str x1)))],[(.box 51 (.dat 51 x2)),(.row 23 x3)],2⟩
abbrev H36_2 (m M2:Nat) (rec2:Int→ByteArray→Int→Dt→List Dt→Option (ByteArray×Dt×List Dt)):Prop:=∀x0 x1 x2 x3 x4,l36 jn m w36_0 [] M2 (s36_4 x0 x1 x2 x3 x4)=rec2 x0 x1 x2 x3 x4
theorem i36_j4_eq m M2 rec2 (h2:H36_2 m M2 rec2) x0 x1 x2 x3 x4:e36 jn m w36_1 [M2] (s36_4 x0 x1 x2 x3 x4)=i36_j4 m rec2 x0 x1 x2 x3 x4:=
 tre (g:=fun J=>(jj J 1 8 M2 (s36_4 x0 x1 (IntKind.wrap .i64 (x2+1)) x3 x4) (l36 J m w36_0 [] M2))) (fun J=>by kernel_rfl) (by simp only[jj_eq,h2];rfl)
theorem i36_j3_eq m M2 rec2 (h2:H36_2 m M2 rec2) x0 x1 x2 x3 x4:e36 jn m w36_2 [M2] (s36_4 x0 x1 x2 x3 x4)=i36_j3 m rec2 x0 x1 x2 x3 x4:=
 tre (g:=fun J=>((inL x4 x2).bind fun v2=>
  ((x4[(Int.toNat x2)]?).bind fun v3=>
  (bif ((ByteArray.toList (Dt.S v3 0))==(ByteArray.toList x1)) then
  ((i31 m 4 x0 x3).bind fun r4=>
  (jj J 0 9 0 (s36_4 x0 x1 x2 r4 x4) (e36 J m w36_1 [M2])))
  else
  (jj J 0 9 0 (s36_4 x0 x1 x2 x3 x4) (e36 J m w36_1 [M2])))))) (fun J=>by kernel_rfl) (by simp only[jj_eq,i36_j4_eq m M2 rec2 h2];rfl)
theorem i36_j5_eq m x0 x1 x2:e36 jn m w36_3 [] (s36_5 x0 x1 x2)=i36_j5 m x0 x1 x2:=
 tre (g:=fun J=>some (x0,x1,x2)) (fun J=>by kernel_rfl) (by rfl)
theorem i36_l2_eq m:∀M2 x0 x1 x2 x3 x4,l36 jn m w36_0 [] M2 (s36_4 x0 x1 x2 x3 x4)=i36_l2 m M2 x0 x1 x2 x3 x4
 |0,_,_,_,_,_=>rfl
 | M2+1,x0,x1,x2,x3,x4=>
   trl (g:=fun J=>(bif (decide (x2<(List.length x4:Int))) then
  (jj J 0 10 0 (s36_4 x0 x1 x2 x3 x4) (e36 J m w36_2 [M2]))
   else
  (jj J 0 12 0 (s36_5 x1 x3 x4) (e36 J m w36_3 [])))) (fun J=>by kernel_rfl) (by simp only[jj_eq,i36_j3_eq m M2 (i36_l2 m M2) (i36_l2_eq m M2),i36_j5_eq m];rfl)
theorem i36_j1_eq m x0 x1 x2 x3 x4:e36 jn m w36_4 [] (s36_4 x0 x1 x2 x3 x4)=i36_j1 m x0 x1 x2 x3 x4:=
 tre (g:=fun J=>(jj J 1 8 (Nat.succ m) (s36_4 x0 x1 x2 x3 x4) (l36 J m w36_0 [] (Nat.succ m)))) (fun J=>by kernel_rfl) (by simp only[jj_eq,i36_l2_eq m];rfl)
theorem i36_j0_eq m x0 x1 x2 x3:e36 jn m [1,1,1,1] [] (s36_0 x0 x1 x2 x3)=i36_j0 m x0 x1 x2 x3:=
 tre (g:=fun J=>(jj J 0 8 0 (s36_4 x0 x1 0 x2 x3) (e36 J m w36_4 []))) (fun J=>by kernel_rfl) (by simp only[jj_eq,i36_j1_eq m];rfl)
theorem i36_eq m a0 a1:e36 jn m [] [] ⟨[(.ptr 0 [] 0),(.row 1)],[(.box 51 (.dat 51 a0)),(.row 23 a1)],2⟩=i36 (m+1) a0 a1:=
 tre (g:=fun J=>((i37 m a0).bind fun r0=>
  (bif (decide (128<(ByteArray.size r0.1:Int))) then
  ((i31 m 2 (Dt.I a0 1) r0.2).bind fun r1=>
  (jj J 0 7 0 (s36_0 (Dt.I a0 1) r0.1 r1 a1) (e36 J m [1,1,1,1] [])))
  else
  ((ref05_Label m r0.1).bind fun r5=>
  (bif (Bool.not r5) then
  ((i31 m 4 (Dt.I a0 1) r0.2).bind fun r6=>
  (jj J 0 7 0 (s36_0 (Dt.I a0 1) r0.1 r6 a1) (e36 J m [1,1,1,1] [])))
  else
  (jj J 0 7 0 (s36_0 (Dt.I a0 1) r0.1 r0.2 a1) (e36 J m [1,1,1,1] []))))))) (fun J=>by kernel_rfl) (by simp only[jj_eq,i36_j0_eq m];rfl)
def w44_5:List Nat:=[1,1,1,0,1]
def w44_0:List Nat:=[1,1,1,0,1,0]
def w44_4:List Nat:=w44_0++[0,1]
def w44_1:List Nat:=w44_4++[1]
def w44_2:List Nat:=w44_4++[0,0,1,1]
def w44_3:List Nat:=w44_4++[0,0,1,0,1]
noncomputable def e44 (J:Nat→Nat→Nat→St→Option (ByteArray×Bool)→Option (ByteArray×Bool)) (m:Nat) (p ms:List Nat) (σ:St):=evAt Tryz.prog env (ct m) J (m+1) 67 43 Tryz.f67 d23 p ms σ
noncomputable def l44 (J:Nat→Nat→Nat→St→Option (ByteArray×Bool)→Option (ByteArray×Bool)) (m:Nat) (p ms:List Nat) (M:Nat) (σ:St):=loopAt Tryz.prog env (ct m) J (m+1) 67 43 Tryz.f67 d23 p ms M σ
noncomputable def s44_6 (x0 x1:ByteArray) (x2:Int):St:=⟨tsOf [(0,(.dat 9 (.str x0))),(4,(.dat 9 (.str x1))),(5,(.dat 3 (.int x2)))],[],0⟩
noncomputable def s44_5 (x0 x1:ByteArray) (x2 x3 x4:Int):St:=⟨tsOf [(0,(.dat 9 (.str x0))),(4,(.dat 9 (.str x1))),(5,(.dat 3 (.int x2))),(6,(.dat 3 (.int x3))),(7,(.dat 3 (.int x4)))],[],0⟩
noncomputable def s44_4 (x0 x1:ByteArray) (x2 x3 x4:Int) (x5:Bool):St:=⟨tsOf [(0,(.dat 9 (.str x0))),(4,(.dat 9 (.str x1))),(5,(.dat 3 (.int x2))),(6,(.dat 3 (.int x3))),(7,(.dat 3 (.int x4))),(32,(.dat 4 (.bool x5)))],[],0⟩
noncomputable def s44_7 (x0:ByteArray):St:=⟨tsOf [(4,(.dat 9 (.str x0)))],[],0⟩
noncomputable def s44_0 (x0:ByteArray):St:=⟨tsOf [(0,(.dat 9 (.str x0)))],[],0⟩
abbrev H44_2 (m M2:Nat) (rec2:ByteArray→ByteArray→Int→Option (ByteArray×Bool)):Prop:=∀x0 x1 x2,l44 jn m w44_0 [] M2 (s44_6 x0 x1 x2)=rec2 x0 x1 x2
theorem ref05_unhex_j6_eq m M2 rec2 (h2:H44_2 m M2 rec2) x0 x1 x2:e44 jn m w44_1 [M2] (s44_6 x0 x1 x2)=ref05_unhex_j6 m rec2 x0 x1 x2:=
 tre (g:=fun J=>(jj J 1 5 M2 (s44_6 x0 x1 (IntKind.wrap .i64 (x2+2))) (l44 J m w44_0 [] M2))) (fun J=>by kernel_rfl) (by simp only[jj_eq,h2];rfl)
theorem ref05_unhex_j5_eq m M2 rec2 (h2:H44_2 m M2 rec2) x0 x1 x2 x3 x4:e44 jn m w44_2 [M2] (s44_5 x0 x1 x2 x3 x4)=ref05_unhex_j5 m rec2 x0 x1 x2 x3 x4:=
 tre (g:=fun J=>(bif (Nat.ble ((ByteArray.size x1)+(ByteArray.size (strOfNums [(IntKind.wrap IntKind.u8 (IntKind.wrap .i64 ((IntKind.wrap .i64 (16*x3))+x4)))]))) 1152921504606846976) then
  (jj J 0 6 0 (s44_6 x0 (x1++(strOfNums [(IntKind.wrap IntKind.u8 (IntKind.wrap .i64 ((IntKind.wrap .i64 (16*x3))+x4)))])) x2) (e44 J m w44_1 [M2]))
   else
  none)) (fun J=>by kernel_rfl) (by simp only[jj_eq,ref05_unhex_j6_eq m M2 rec2 h2];rfl)
theorem ref05_unhex_j4_eq m M2 rec2 (h2:H44_2 m M2 rec2) x0 x1 x2 x3 x4 x5:e44 jn m w44_3 [M2] (s44_4 x0 x1 x2 x3 x4 x5)=ref05_unhex_j4 m rec2 x0 x1 x2 x3 x4 x5:=
 tre (g:=fun J=>(bif x5 then
  some ((ByteArray.mk (List.toArray [])),false)
   else
  (jj J 0 10 0 (s44_5 x0 x1 x2 x3 x4) (e44 J m w44_2 [M2])))) (fun J=>by kernel_rfl) (by simp only[jj_eq,ref05_unhex_j5_eq m M2 rec2 h2];rfl)
theorem ref05_unhex_j3_eq m M2 rec2 (h2:H44_2 m M2 rec2) x0 x1 x2:e44 jn m w44_4 [M2] (s44_6 x0 x1 x2)=ref05_unhex_j3 m rec2 x0 x1 x2:=
 tre (g:=fun J=>((idxS x0 x2).bind fun v0=>
  ((ref05_place m v0).bind fun r1=>
  ((idxS x0 (IntKind.wrap .i64 (x2+1))).bind fun v2=>
  ((ref05_place m v2).bind fun r3=>
  (bif (decide (r1<0)) then
  (jj J 0 9 0 (s44_4 x0 x1 x2 r1 r3 true) (e44 J m w44_3 [M2]))
  else
  (jj J 0 9 0 (s44_4 x0 x1 x2 r1 r3 (decide (r3<0))) (e44 J m w44_3 [M2])))))))) (fun J=>by kernel_rfl) (by simp only[jj_eq,ref05_unhex_j4_eq m M2 rec2 h2];rfl)
theorem ref05_unhex_j7_eq m x0:e44 jn m [1,1,1,1] [] (s44_7 x0)=ref05_unhex_j7 m x0:=
 tre (g:=fun J=>some (x0,true)) (fun J=>by kernel_rfl) (by rfl)
theorem ref05_unhex_l2_eq m:∀M2 x0 x1 x2,l44 jn m w44_0 [] M2 (s44_6 x0 x1 x2)=ref05_unhex_l2 m M2 x0 x1 x2
 |0,_,_,_=>rfl
 | M2+1,x0,x1,x2=>
   trl (g:=fun J=>(bif (decide (x2<(ByteArray.size x0:Int))) then
  (jj J 0 7 0 (s44_6 x0 x1 x2) (e44 J m w44_4 [M2]))
   else
  (jj J 0 11 0 (s44_7 x1) (e44 J m [1,1,1,1] [])))) (fun J=>by kernel_rfl) (by simp only[jj_eq,ref05_unhex_j3_eq m M2 (ref05_unhex_l2 m M2) (ref05_unhex_l2_eq m M2),ref05_unhex_j7_eq m];rfl)
theorem ref05_unhex_j1_eq m x0 x1 x2:e44 jn m w44_5 [] (s44_6 x0 x1 x2)=ref05_unhex_j1 m x0 x1 x2:=
 tre (g:=fun J=>(jj J 1 5 (Nat.succ m) (s44_6 x0 x1 x2) (l44 J m w44_0 [] (Nat.succ m)))) (fun J=>by kernel_rfl) (by simp only[jj_eq,ref05_unhex_l2_eq m];rfl)
theorem ref05_unhex_j0_eq m x0:e44 jn m [1,1] [] (s44_0 x0)=ref05_unhex_j0 m x0:=
 tre (g:=fun J=>(jj J 0 5 0 (s44_6 x0 (ByteArray.mk (List.toArray [])) 0) (e44 J m w44_5 []))) (fun J=>by kernel_rfl) (by simp only[jj_eq,ref05_unhex_j1_eq m];rfl)
theorem ref05_unhex_eq m a0:e44 jn m [] [] ⟨[(.dat 9 (.str a0))],[],0⟩=ref05_unhex (m+1) a0:=
 tre (g:=fun J=>(bif ((Int.tmod (ByteArray.size a0:Int) 2)==1) then
  some ((ByteArray.mk (List.toArray [])),false)
   else
  (jj J 0 3 0 (s44_0 a0) (e44 J m [1,1] [])))) (fun J=>by kernel_rfl) (by simp only[jj_eq,ref05_unhex_j0_eq m];rfl)
def w43_6:List Nat:=[1,1,1,1,1]
def w43_0:List Nat:=[1,1,1,1,1,1]
def w43_5:List Nat:=[1,1,1,1,1,0,0,1]
def w43_4:List Nat:=w43_5++[1,1]
def w43_3:List Nat:=w43_4++[1,1]
def w43_2:List Nat:=w43_3++[1,1]
def w43_1:List Nat:=w43_2++[1,1]
noncomputable def e43 (J:Nat→Nat→Nat→St→Option (Dt×Bool×List Dt)→Option (Dt×Bool×List Dt)) (m:Nat) (p ms:List Nat) (σ:St):=evAt Tryz.prog env (ct m) J (m+1) 38 105 Tryz.f38 d22 p ms σ
noncomputable def l43 (J:Nat→Nat→Nat→St→Option (Dt×Bool×List Dt)→Option (Dt×Bool×List Dt)) (m:Nat) (p ms:List Nat) (M:Nat) (σ:St):=loopAt Tryz.prog env (ct m) J (m+1) 38 105 Tryz.f38 d22 p ms M σ
noncomputable def s43_7 (x0:List Dt) (x1:Dt):St:=⟨tsOf [(2,(.ptr 1 [] 0))],[(.row 23 x0),(.box 25 (.dat 25 x1))],1⟩
noncomputable def s43_6 (x0:Bool) (x1:List Dt) (x2:Dt):St:=⟨tsOf [(2,(.ptr 1 [] 0)),(87,(.dat 4 (.bool x0)))],[(.row 23 x1),(.box 25 (.dat 25 x2))],1⟩
noncomputable def s43_5 (x0:Bool) (x1:List Dt) (x2 x3:Dt):St:=⟨tsOf [(0,(.row 0)),(2,(.ptr 1 [] 0)),(4,(.ptr 2 [] 0)),(70,(.dat 4 (.bool x0)))],[(.row 23 x1),(.box 25 (.dat 25 x2)),(.box 25 (.dat 25 x3))],1⟩
noncomputable def s43_4 (x0:Bool) (x1:List Dt) (x2 x3:Dt):St:=⟨tsOf [(0,(.row 0)),(2,(.ptr 1 [] 0)),(4,(.ptr 2 [] 0)),(51,(.dat 4 (.bool x0)))],[(.row 23 x1),(.box 25 (.dat 25 x2)),(.box 25 (.dat 25 x3))],1⟩
noncomputable def s43_3 (x0:ByteArray) (x1:Bool) (x2:List Dt) (x3 x4:Dt):St:=⟨tsOf [(0,(.row 0)),(2,(.ptr 1 [] 0)),(4,(.ptr 2 [] 0)),(5,(.dat 9 (.str x0))),(40,(.dat 4 (.bool x1)))],[(.row 23 x2),(.box 25 (.dat 25 x3)),(.box 25 (.dat 25 x4))],1⟩
noncomputable def s43_2 (x0:ByteArray) (x1 x2:Bool) (x3:List Dt) (x4 x5:Dt):St:=⟨tsOf [(0,(.row 0)),(2,(.ptr 1 [] 0)),(4,(.ptr 2 [] 0)),(5,(.dat 9 (.str x0))),(6,(.dat 4 (.bool x1))),(24,(.dat 4 (.bool x2)))],[(.row 23 x3),(.box 25 (.dat 25 x4)),(.box 25 (.dat 25 x5))],1⟩
noncomputable def s43_1 (x0:ByteArray) (x1:Bool) (x2:List Dt) (x3 x4:Dt):St:=⟨tsOf [(0,(.row 0)),(2,(.ptr 1 [] 0)),(4,(.ptr 2 [] 0)),(5,(.dat 9 (.str x0))),(6,(.dat 4 (.bool x1)))],[(.row 23 x2),(.box 25 (.dat 25 x3)),(.box 25 (.dat 25 x4))],1⟩
noncomputable def s43_0 (x0:List Dt) (x1:Dt):St:=⟨tsOf [(0,(.row 0)),(2,(.ptr 1 [] 0))],[(.row 23 x0),(.box 25 (.dat 25 x1))],1⟩
theorem i43_j7_eq m x0 x1:e43 jn m w43_0 [] (s43_7 x0 x1)=i43_j7 m x0 x1:=
 tre (g:=fun J=>some (kza2373,false,x0)) (fun J=>by kernel_rfl) (by rfl)
theorem i43_j6_eq m x0 x1 x2:e43 jn m w43_1 [] (s43_6 x0 x1 x2)=i43_j6 m x0 x1 x2:=
 tre (g:=fun J=>(bif x0 then
  some (kzedecf,true,x1)
   else
  (jj J 0 17 0 (s43_7 x1 x2) (e43 J m w43_0 [])))) (fun J=>by kernel_rfl) (by simp only[jj_eq,i43_j7_eq m];rfl)
theorem i43_j5_eq m x0 x1 x2 x3:e43 jn m w43_2 [] (s43_5 x0 x1 x2 x3)=i43_j5 m x0 x1 x2 x3:=
 tre (g:=fun J=>(bif x0 then
  some (kz2ef54,true,x1)
   else
  ((inL x1 0).bind fun v11=>
  ((x1[0]?).bind fun v12=>
  (bif ((ByteArray.toList (Dt.S v12 0))==[36,109,97,120]) then
  (bif ((Dt.I x3 0)==3) then
  (jj J 0 16 0 (s43_6 ((Dt.I x3 1)==1) x1 x2) (e43 J m w43_1 []))
  else
  (jj J 0 16 0 (s43_6 false x1 x2) (e43 J m w43_1 [])))
  else
  (jj J 0 16 0 (s43_6 false x1 x2) (e43 J m w43_1 []))))))) (fun J=>by kernel_rfl) (by simp only[jj_eq,i43_j6_eq m];rfl)
theorem i43_j4_eq m x0 x1 x2 x3:e43 jn m w43_3 [] (s43_4 x0 x1 x2 x3)=i43_j4 m x0 x1 x2 x3:=
 tre (g:=fun J=>(bif x0 then
  some ((Dt.agg [(Dt.int 10),(Dt.int (Dt.I x3 1)),(Dt.str (ByteArray.mk (List.toArray []))),(Dt.lst []),(Dt.lst [])]),true,x1)
   else
  ((inL x1 0).bind fun v9=>
  ((x1[0]?).bind fun v10=>
  (bif ((ByteArray.toList (Dt.S v10 0))==[36,109,105,110]) then
  (bif ((Dt.I x3 0)==3) then
  (jj J 0 14 0 (s43_5 ((Dt.I x3 1)==1) x1 x2 x3) (e43 J m w43_2 []))
  else
  (jj J 0 14 0 (s43_5 false x1 x2 x3) (e43 J m w43_2 [])))
  else
  (jj J 0 14 0 (s43_5 false x1 x2 x3) (e43 J m w43_2 []))))))) (fun J=>by kernel_rfl) (by simp only[jj_eq,i43_j5_eq m];rfl)
theorem i43_j3_eq m x0 x1 x2 x3 x4:e43 jn m w43_4 [] (s43_3 x0 x1 x2 x3 x4)=i43_j3 m x0 x1 x2 x3 x4:=
 tre (g:=fun J=>(bif x1 then
  some ((Dt.agg [(Dt.int 7),(Dt.int 0),(Dt.str x0),(Dt.lst []),(Dt.lst [])]),true,x2)
   else
  ((inL x2 0).bind fun v7=>
  ((x2[0]?).bind fun v8=>
  (bif ((ByteArray.toList (Dt.S v8 0))==[36,116,105,109,101]) then
  (bif ((Dt.I x4 0)==3) then
  (jj J 0 12 0 (s43_4 (decide (0≤(Dt.I x4 1))) x2 x3 x4) (e43 J m w43_3 []))
  else
  (jj J 0 12 0 (s43_4 false x2 x3 x4) (e43 J m w43_3 [])))
  else
  (jj J 0 12 0 (s43_4 false x2 x3 x4) (e43 J m w43_3 []))))))) (fun J=>by kernel_rfl) (by simp only[jj_eq,i43_j4_eq m];rfl)
theorem i43_j2_eq m x0 x1 x2 x3 x4 x5:e43 jn m w43_5 [] (s43_2 x0 x1 x2 x3 x4 x5)=i43_j2 m x0 x1 x2 x3 x4 x5:=
 tre (g:=fun J=>(bif x2 then
  some ((Dt.agg [(Dt.int 8),(Dt.int 0),(Dt.str x0),(Dt.lst []),(Dt.lst [])]),true,x3)
   else
  ((inL x3 0).bind fun v5=>
  ((x3[0]?).bind fun v6=>
  (bif ((ByteArray.toList (Dt.S v6 0))==[36,98,121,116,101,115]) then
  (jj J 0 10 0 (s43_3 x0 x1 x3 x4 x5) (e43 J m w43_4 []))
  else
  (jj J 0 10 0 (s43_3 x0 false x3 x4 x5) (e43 J m w43_4 []))))))) (fun J=>by kernel_rfl) (by simp only[jj_eq,i43_j3_eq m];rfl)
theorem i43_j1_eq m x0 x1 x2 x3 x4:e43 jn m w43_6 [] (s43_1 x0 x1 x2 x3 x4)=i43_j1 m x0 x1 x2 x3 x4:=
 tre (g:=fun J=>((inL x2 0).bind fun v3=>
  ((x2[0]?).bind fun v4=>
  (bif ((ByteArray.toList (Dt.S v4 0))==[36,105,100]) then
  (bif x1 then
  (jj J 0 8 0 (s43_2 x0 x1 ((ByteArray.size x0:Int)==12) x2 x3 x4) (e43 J m w43_5 []))
  else
  (jj J 0 8 0 (s43_2 x0 x1 false x2 x3 x4) (e43 J m w43_5 [])))
  else
  (jj J 0 8 0 (s43_2 x0 x1 false x2 x3 x4) (e43 J m w43_5 [])))))) (fun J=>by kernel_rfl) (by simp only[jj_eq,i43_j2_eq m];rfl)
theorem i43_j0_eq m x0 x1:e43 jn m [1,1] [] (s43_0 x0 x1)=i43_j0 m x0 x1:=
 tre (g:=fun J=>((inL x0 0).bind fun v0=>
  ((x0[0]?).bind fun v1=>
  (bif ((Dt.I (Dt.fld v1 1) 0)==4) then
  ((ref05_unhex m (Dt.S (Dt.fld v1 1) 2)).bind fun r2=>
  (jj J 0 7 0 (s43_1 r2.1 r2.2 x0 x1 (Dt.fld v1 1)) (e43 J m w43_6 [])))
  else
  (jj J 0 7 0 (s43_1 (ByteArray.mk (List.toArray [])) false x0 x1 (Dt.fld v1 1)) (e43 J m w43_6 [])))))) (fun J=>by kernel_rfl) (by simp only[jj_eq,i43_j1_eq m];rfl)
theorem i43_eq m a0:e43 jn m [] [] ⟨[(.row 0)],[(.row 23 a0)],1⟩=i43 (m+1) a0:=
 tre (g:=fun J=>(bif ((List.length a0:Int) !=1) then
  some (kza2373,false,a0)
   else
  (jj J 0 3 0 (s43_0 a0 kza2373) (e43 J m [1,1] [])))) (fun J=>by kernel_rfl) (by simp only[jj_eq,i43_j0_eq m];rfl)
def w58_7:List Nat:=[1,1,0,1,0,1]
def w58_0:List Nat:=w58_7++[0]
def w58_6:List Nat:=[1,1,1,0,1,0,1]
def w58_3:List Nat:=w58_6++[0]
def w58_2:List Nat:=w58_0++[0,1]
def w58_1:List Nat:=w58_2++[1]
def w58_5:List Nat:=w58_3++[0,1]
def w58_4:List Nat:=w58_5++[1]
noncomputable def e58 (J:Nat→Nat→Nat→St→Option (List Dt)→Option (List Dt)) (m:Nat) (p ms:List Nat) (σ:St):=evAt Tryz.prog env (ct m) J (m+1) 86 44 Tryz.f86 d58 p ms σ
noncomputable def l58 (J:Nat→Nat→Nat→St→Option (List Dt)→Option (List Dt)) (m:Nat) (p ms:List Nat) (M:Nat) (σ:St):=loopAt Tryz.prog env (ct m) J (m+1) 86 44 Tryz.f86 d58 p ms M σ
noncomputable def s58_3 (x0:Int) (x1:Dt) (x2:List Dt):St:=⟨tsOf [(1,(.ptr 0 [] 0)),(3,(.row 1)),(4,(.dat 3 (.int x0)))],[(.box 25 (.dat 25 x1)),(.row 22 x2)],0⟩
noncomputable def s58_8 (x0:Int) (x1:Dt) (x2:List Dt):St:=⟨tsOf [(1,(.ptr 0 [] 0)),(3,(.row 1)),(5,(.dat 3 (.int x0)))],[(.box 25 (.dat 25 x1)),(.row 22 x2)],0⟩
noncomputable def s58_9 (x0:List Dt):St:=⟨tsOf [(3,(.row 0))],[(.row 22 x0)],0⟩
noncomputable def s58_4 (x0:Dt) (x1:List Dt):St:=⟨tsOf [(1,(.ptr 0 [] 0)),(3,(.row 1))],[(.box 25 (.dat 25 x0)),(.row 22 x1)],0⟩
abbrev H58_1 (m M1:Nat) (rec1:Int→Dt→List Dt→Option (List Dt)):Prop:=∀x0 x1 x2,l58 jn m w58_0 [] M1 (s58_3 x0 x1 x2)=rec1 x0 x1 x2
theorem ref01_Parts_j3_eq m M1 rec1 (h1:H58_1 m M1 rec1) x0 x1 x2:e58 jn m w58_1 [M1] (s58_3 x0 x1 x2)=ref01_Parts_j3 m rec1 x0 x1 x2:=
 tre (g:=fun J=>(jj J 1 4 M1 (s58_3 (IntKind.wrap .i64 (x0+1)) x1 x2) (l58 J m w58_0 [] M1))) (fun J=>by kernel_rfl) (by simp only[jj_eq,h1];rfl)
theorem ref01_Parts_j2_eq m M1 rec1 (h1:H58_1 m M1 rec1) x0 x1 x2:e58 jn m w58_2 [M1] (s58_3 x0 x1 x2)=ref01_Parts_j2 m rec1 x0 x1 x2:=
 tre (g:=fun J=>((idx (Dt.L x1 3) x0).bind fun v0=>
  ((app x2 [v0]).bind fun v1=>
  (jj J 0 5 0 (s58_3 x0 x1 v1) (e58 J m w58_1 [M1]))))) (fun J=>by kernel_rfl) (by simp only[jj_eq,ref01_Parts_j3_eq m M1 rec1 h1];rfl)
abbrev H58_6 (m M6:Nat) (rec6:Int→Dt→List Dt→Option (List Dt)):Prop:=∀x0 x1 x2,l58 jn m w58_3 [] M6 (s58_8 x0 x1 x2)=rec6 x0 x1 x2
theorem ref01_Parts_j8_eq m M6 rec6 (h6:H58_6 m M6 rec6) x0 x1 x2:e58 jn m w58_4 [M6] (s58_8 x0 x1 x2)=ref01_Parts_j8 m rec6 x0 x1 x2:=
 tre (g:=fun J=>(jj J 1 9 M6 (s58_8 (IntKind.wrap .i64 (x0+1)) x1 x2) (l58 J m w58_3 [] M6))) (fun J=>by kernel_rfl) (by simp only[jj_eq,h6];rfl)
theorem ref01_Parts_j7_eq m M6 rec6 (h6:H58_6 m M6 rec6) x0 x1 x2:e58 jn m w58_5 [M6] (s58_8 x0 x1 x2)=ref01_Parts_j7 m rec6 x0 x1 x2:=
 tre (g:=fun J=>((idx (Dt.L x1 4) x0).bind fun v2=>
  ((app x2 [(Dt.fld v2 1)]).bind fun v3=>
  (jj J 0 10 0 (s58_8 x0 x1 v3) (e58 J m w58_4 [M6]))))) (fun J=>by kernel_rfl) (by simp only[jj_eq,ref01_Parts_j8_eq m M6 rec6 h6];rfl)
theorem ref01_Parts_j9_eq m x0:e58 jn m [1,1,1,1] [] (s58_9 x0)=ref01_Parts_j9 m x0:=
 tre (g:=fun J=>some x0) (fun J=>by kernel_rfl) (by rfl)
theorem ref01_Parts_l6_eq m:∀M6 x0 x1 x2,l58 jn m w58_3 [] M6 (s58_8 x0 x1 x2)=ref01_Parts_l6 m M6 x0 x1 x2
 |0,_,_,_=>rfl
 | M6+1,x0,x1,x2=>
   trl (g:=fun J=>(bif (decide (x0<(List.length (Dt.L x1 4):Int))) then
  (jj J 0 11 0 (s58_8 x0 x1 x2) (e58 J m w58_5 [M6]))
   else
  (jj J 0 12 0 (s58_9 x2) (e58 J m [1,1,1,1] [])))) (fun J=>by kernel_rfl) (by simp only[jj_eq,ref01_Parts_j7_eq m M6 (ref01_Parts_l6 m M6) (ref01_Parts_l6_eq m M6),ref01_Parts_j9_eq m];rfl)
theorem ref01_Parts_j5_eq m x0 x1 x2:e58 jn m w58_6 [] (s58_8 x0 x1 x2)=ref01_Parts_j5 m x0 x1 x2:=
 tre (g:=fun J=>(jj J 1 9 (Nat.succ m) (s58_8 x0 x1 x2) (l58 J m w58_3 [] (Nat.succ m)))) (fun J=>by kernel_rfl) (by simp only[jj_eq,ref01_Parts_l6_eq m];rfl)
theorem ref01_Parts_j4_eq m x0 x1:e58 jn m [1,1,1] [] (s58_4 x0 x1)=ref01_Parts_j4 m x0 x1:=
 tre (g:=fun J=>(bif ((Dt.I x0 0)==5) then
  (jj J 0 9 0 (s58_8 0 x0 x1) (e58 J m w58_6 []))
   else
  (jj J 0 12 0 (s58_9 x1) (e58 J m [1,1,1,1] [])))) (fun J=>by kernel_rfl) (by simp only[jj_eq,ref01_Parts_j5_eq m,ref01_Parts_j9_eq m];rfl)
theorem ref01_Parts_l1_eq m:∀M1 x0 x1 x2,l58 jn m w58_0 [] M1 (s58_3 x0 x1 x2)=ref01_Parts_l1 m M1 x0 x1 x2
 |0,_,_,_=>rfl
 | M1+1,x0,x1,x2=>
   trl (g:=fun J=>(bif (decide (x0<(List.length (Dt.L x1 3):Int))) then
  (jj J 0 6 0 (s58_3 x0 x1 x2) (e58 J m w58_2 [M1]))
   else
  (jj J 0 7 0 (s58_4 x1 x2) (e58 J m [1,1,1] [])))) (fun J=>by kernel_rfl) (by simp only[jj_eq,ref01_Parts_j2_eq m M1 (ref01_Parts_l1 m M1) (ref01_Parts_l1_eq m M1),ref01_Parts_j4_eq m];rfl)
theorem ref01_Parts_j0_eq m x0 x1 x2:e58 jn m w58_7 [] (s58_3 x0 x1 x2)=ref01_Parts_j0 m x0 x1 x2:=
 tre (g:=fun J=>(jj J 1 4 (Nat.succ m) (s58_3 x0 x1 x2) (l58 J m w58_0 [] (Nat.succ m)))) (fun J=>by kernel_rfl) (by simp only[jj_eq,ref01_Parts_l1_eq m];rfl)
theorem ref01_Parts_eq m a0:e58 jn m [] [] ⟨[(.dat 25 a0)],[],0⟩=ref01_Parts (m+1) a0:=
 tre (g:=fun J=>(bif ((Dt.I a0 0)==6) then
  (jj J 0 4 0 (s58_3 0 a0 []) (e58 J m w58_7 []))
   else
  (jj J 0 7 0 (s58_4 a0 []) (e58 J m [1,1,1] [])))) (fun J=>by kernel_rfl) (by simp only[jj_eq,ref01_Parts_j0_eq m,ref01_Parts_j4_eq m];rfl)
def w54_3:List Nat:=[1,1,1,1,1]
def w54_4:List Nat:=[1,1,1,1,0,1]
def w54_0:List Nat:=w54_4++[0]
def w54_2:List Nat:=w54_0++[0,1]
def w54_1:List Nat:=w54_2++[1]
noncomputable def e54 (J:Nat→Nat→Nat→St→Option Int→Option Int) (m:Nat) (p ms:List Nat) (σ:St):=evAt Tryz.prog env (ct m) J (m+1) 63 34 Tryz.f63 d50 p ms σ
noncomputable def l54 (J:Nat→Nat→Nat→St→Option Int→Option Int) (m:Nat) (p ms:List Nat) (M:Nat) (σ:St):=loopAt Tryz.prog env (ct m) J (m+1) 63 34 Tryz.f63 d50 p ms M σ
noncomputable def s54_5 (x0:Int) (x1:List Dt) (x2 x3:Int):St:=⟨tsOf [(1,(.dat 3 (.int x0))),(5,(.dat 22 (.lst x1))),(6,(.dat 3 (.int x2))),(7,(.dat 3 (.int x3)))],[],0⟩
noncomputable def s54_6 (x0:Int):St:=⟨tsOf [(6,(.dat 3 (.int x0)))],[],0⟩
noncomputable def s54_1 (x0:Int) (x1:List Dt):St:=⟨tsOf [(1,(.dat 3 (.int x0))),(5,(.dat 22 (.lst x1)))],[],0⟩
noncomputable def s54_0 (x0:Int) (x1:List Dt) (x2:Bool):St:=⟨tsOf [(1,(.dat 3 (.int x0))),(5,(.dat 22 (.lst x1))),(16,(.dat 4 (.bool x2)))],[],0⟩
abbrev H54_3 (m M3:Nat) (rec3:Int→List Dt→Int→Int→Option Int):Prop:=∀x0 x1 x2 x3,l54 jn m w54_0 [] M3 (s54_5 x0 x1 x2 x3)=rec3 x0 x1 x2 x3
theorem ref01_levels_j5_eq m M3 rec3 (h3:H54_3 m M3 rec3) x0 x1 x2 x3:e54 jn m w54_1 [M3] (s54_5 x0 x1 x2 x3)=ref01_levels_j5 m (ref01_levels m) rec3 x0 x1 x2 x3:=
 tre (g:=fun J=>(jj J 1 6 M3 (s54_5 x0 x1 x2 (IntKind.wrap .i64 (x3+1))) (l54 J m w54_0 [] M3))) (fun J=>by kernel_rfl) (by simp only[jj_eq,h3];rfl)
theorem ref01_levels_j4_eq m M3 rec3 (h3:H54_3 m M3 rec3) x0 x1 x2 x3:e54 jn m w54_2 [M3] (s54_5 x0 x1 x2 x3)=ref01_levels_j4 m (ref01_levels m) rec3 x0 x1 x2 x3:=
 tre (g:=fun J=>((idx x1 x3).bind fun v1=>
  ((ref01_levels m v1 (IntKind.wrap .i64 (x0-1))).bind fun r2=>
  (jj J 0 7 0 (s54_5 x0 x1 (bif (decide (x2<r2)) then r2 else x2) x3) (e54 J m w54_1 [M3]))))) (fun J=>by kernel_rfl) (by simp only[jj_eq,ref01_levels_j5_eq m M3 rec3 h3];rfl)
theorem ref01_levels_j6_eq m x0:e54 jn m w54_3 [] (s54_6 x0)=ref01_levels_j6 m (ref01_levels m) x0:=
 tre (g:=fun J=>some (IntKind.wrap .i64 (x0+1))) (fun J=>by kernel_rfl) (by rfl)
theorem ref01_levels_l3_eq m:∀M3 x0 x1 x2 x3,l54 jn m w54_0 [] M3 (s54_5 x0 x1 x2 x3)=ref01_levels_l3 m (ref01_levels m) M3 x0 x1 x2 x3
 |0,_,_,_,_=>rfl
 | M3+1,x0,x1,x2,x3=>
   trl (g:=fun J=>(bif (decide (x3<(List.length x1:Int))) then
  (jj J 0 8 0 (s54_5 x0 x1 x2 x3) (e54 J m w54_2 [M3]))
   else
  (jj J 0 9 0 (s54_6 x2) (e54 J m w54_3 [])))) (fun J=>by kernel_rfl) (by simp only[jj_eq,ref01_levels_j4_eq m M3 (ref01_levels_l3 m (ref01_levels m) M3) (ref01_levels_l3_eq m M3),ref01_levels_j6_eq m];rfl)
theorem ref01_levels_j2_eq m x0 x1 x2 x3:e54 jn m w54_4 [] (s54_5 x0 x1 x2 x3)=ref01_levels_j2 m (ref01_levels m) x0 x1 x2 x3:=
 tre (g:=fun J=>(jj J 1 6 (Nat.succ m) (s54_5 x0 x1 x2 x3) (l54 J m w54_0 [] (Nat.succ m)))) (fun J=>by kernel_rfl) (by simp only[jj_eq,ref01_levels_l3_eq m];rfl)
theorem ref01_levels_j1_eq m x0 x1:e54 jn m [1,1,1] [] (s54_1 x0 x1)=ref01_levels_j1 m (ref01_levels m) x0 x1:=
 tre (g:=fun J=>(jj J 0 6 0 (s54_5 x0 x1 0 0) (e54 J m w54_4 []))) (fun J=>by kernel_rfl) (by simp only[jj_eq,ref01_levels_j2_eq m];rfl)
theorem ref01_levels_j0_eq m x0 x1 x2:e54 jn m [1,1,0,1] [] (s54_0 x0 x1 x2)=ref01_levels_j0 m (ref01_levels m) x0 x1 x2:=
 tre (g:=fun J=>(bif x2 then
  some 1
   else
  (jj J 0 4 0 (s54_1 x0 x1) (e54 J m [1,1,1] [])))) (fun J=>by kernel_rfl) (by simp only[jj_eq,ref01_levels_j1_eq m];rfl)
theorem ref01_levels_eq m a0 a1:e54 jn m [] [] ⟨[(.dat 25 a0),(.dat 3 (.int a1))],[],0⟩=ref01_levels (m+1) a0 a1:=
 tre (g:=fun J=>((ref01_Parts m a0).bind fun r0=>
  (bif (decide (a1<2)) then
  (jj J 0 3 0 (s54_0 a1 r0 true) (e54 J m [1,1,0,1] []))
  else
  (jj J 0 3 0 (s54_0 a1 r0 ((List.length r0:Int)==0)) (e54 J m [1,1,0,1] []))))) (fun J=>by kernel_rfl) (by simp only[jj_eq,ref01_levels_j0_eq m];rfl)
noncomputable def e51 (J:Nat→Nat→Nat→St→Option Int→Option Int) (m:Nat) (p ms:List Nat) (σ:St):=evAt Tryz.prog env (ct m) J (m+1) 35 5 Tryz.f35 d50 p ms σ
noncomputable def l51 (J:Nat→Nat→Nat→St→Option Int→Option Int) (m:Nat) (p ms:List Nat) (M:Nat) (σ:St):=loopAt Tryz.prog env (ct m) J (m+1) 35 5 Tryz.f35 d50 p ms M σ
theorem ref01_Depth_eq m a0:e51 jn m [] [] ⟨[(.dat 25 a0)],[],0⟩=ref01_Depth (m+1) a0:=
 tre (g:=fun J=>((ref01_levels m a0 17).bind fun r0=>
  some r0)) (fun J=>by kernel_rfl) (by rfl)
def w55_3:List Nat:=[1,1,1,0,1]
def w55_0:List Nat:=[1,1,1,0,1,0]
def w55_2:List Nat:=w55_0++[0,1]
def w55_1:List Nat:=w55_2++[1]
noncomputable def e55 (J:Nat→Nat→Nat→St→Option Int→Option Int) (m:Nat) (p ms:List Nat) (σ:St):=evAt Tryz.prog env (ct m) J (m+1) 64 32 Tryz.f64 d50 p ms σ
noncomputable def l55 (J:Nat→Nat→Nat→St→Option Int→Option Int) (m:Nat) (p ms:List Nat) (M:Nat) (σ:St):=loopAt Tryz.prog env (ct m) J (m+1) 64 32 Tryz.f64 d50 p ms M σ
noncomputable def s55_3 (x0 x1:Int) (x2:List Dt) (x3:Int):St:=⟨tsOf [(1,(.dat 3 (.int x0))),(5,(.dat 3 (.int x1))),(6,(.dat 22 (.lst x2))),(7,(.dat 3 (.int x3)))],[],0⟩
noncomputable def s55_4 (x0:Int):St:=⟨tsOf [(5,(.dat 3 (.int x0)))],[],0⟩
abbrev H55_1 (m M1:Nat) (rec1:Int→Int→List Dt→Int→Option Int):Prop:=∀x0 x1 x2 x3,l55 jn m w55_0 [] M1 (s55_3 x0 x1 x2 x3)=rec1 x0 x1 x2 x3
theorem ref01_count_j3_eq m M1 rec1 (h1:H55_1 m M1 rec1) x0 x1 x2 x3:e55 jn m w55_1 [M1] (s55_3 x0 x1 x2 x3)=ref01_count_j3 m (ref01_count m) rec1 x0 x1 x2 x3:=
 tre (g:=fun J=>(jj J 1 4 M1 (s55_3 x0 x1 x2 (IntKind.wrap .i64 (x3+1))) (l55 J m w55_0 [] M1))) (fun J=>by kernel_rfl) (by simp only[jj_eq,h1];rfl)
theorem ref01_count_j2_eq m M1 rec1 (h1:H55_1 m M1 rec1) x0 x1 x2 x3:e55 jn m w55_2 [M1] (s55_3 x0 x1 x2 x3)=ref01_count_j2 m (ref01_count m) rec1 x0 x1 x2 x3:=
 tre (g:=fun J=>((idx x2 x3).bind fun v1=>
  ((ref01_count m v1 (IntKind.wrap .i64 (x0-x1))).bind fun r2=>
  (jj J 0 5 0 (s55_3 x0 (IntKind.wrap .i64 (x1+r2)) x2 x3) (e55 J m w55_1 [M1]))))) (fun J=>by kernel_rfl) (by simp only[jj_eq,ref01_count_j3_eq m M1 rec1 h1];rfl)
theorem ref01_count_j4_eq m x0:e55 jn m [1,1,1,1] [] (s55_4 x0)=ref01_count_j4 m (ref01_count m) x0:=
 tre (g:=fun J=>some x0) (fun J=>by kernel_rfl) (by rfl)
theorem ref01_count_l1_eq m:∀M1 x0 x1 x2 x3,l55 jn m w55_0 [] M1 (s55_3 x0 x1 x2 x3)=ref01_count_l1 m (ref01_count m) M1 x0 x1 x2 x3
 |0,_,_,_,_=>rfl
 | M1+1,x0,x1,x2,x3=>
   trl (g:=fun J=>(bif (decide (x3<(List.length x2:Int))) then
  (bif (decide (x1<x0)) then
  (jj J 0 6 0 (s55_3 x0 x1 x2 x3) (e55 J m w55_2 [M1]))
  else
  (jj J 0 7 0 (s55_4 x1) (e55 J m [1,1,1,1] [])))
   else
  (jj J 0 7 0 (s55_4 x1) (e55 J m [1,1,1,1] [])))) (fun J=>by kernel_rfl) (by simp only[jj_eq,ref01_count_j2_eq m M1 (ref01_count_l1 m (ref01_count m) M1) (ref01_count_l1_eq m M1),ref01_count_j4_eq m];rfl)
theorem ref01_count_j0_eq m x0 x1 x2 x3:e55 jn m w55_3 [] (s55_3 x0 x1 x2 x3)=ref01_count_j0 m (ref01_count m) x0 x1 x2 x3:=
 tre (g:=fun J=>(jj J 1 4 (Nat.succ m) (s55_3 x0 x1 x2 x3) (l55 J m w55_0 [] (Nat.succ m)))) (fun J=>by kernel_rfl) (by simp only[jj_eq,ref01_count_l1_eq m];rfl)
theorem ref01_count_eq m a0 a1:e55 jn m [] [] ⟨[(.dat 25 a0),(.dat 3 (.int a1))],[],0⟩=ref01_count (m+1) a0 a1:=
 tre (g:=fun J=>((ref01_Parts m a0).bind fun r0=>
  (jj J 0 4 0 (s55_3 a1 1 r0 0) (e55 J m w55_3 [])))) (fun J=>by kernel_rfl) (by simp only[jj_eq,ref01_count_j0_eq m];rfl)
noncomputable def e52 (J:Nat→Nat→Nat→St→Option Int→Option Int) (m:Nat) (p ms:List Nat) (σ:St):=evAt Tryz.prog env (ct m) J (m+1) 36 5 Tryz.f36 d50 p ms σ
noncomputable def l52 (J:Nat→Nat→Nat→St→Option Int→Option Int) (m:Nat) (p ms:List Nat) (M:Nat) (σ:St):=loopAt Tryz.prog env (ct m) J (m+1) 36 5 Tryz.f36 d50 p ms M σ
theorem ref01_Nodes_eq m a0:e52 jn m [] [] ⟨[(.dat 25 a0)],[],0⟩=ref01_Nodes (m+1) a0:=
 tre (g:=fun J=>((ref01_count m a0 1025).bind fun r0=>
  some r0)) (fun J=>by kernel_rfl) (by rfl)
def w59_0:List Nat:=[1,1,0,1,0]
def w59_3:List Nat:=[1,1,0,1,0,0,1]
def w59_1:List Nat:=w59_3++[1]
def w59_2:List Nat:=w59_3++[0,0,1]
noncomputable def e59 (J:Nat→Nat→Nat→St→Option Bool→Option Bool) (m:Nat) (p ms:List Nat) (σ:St):=evAt Tryz.prog env (ct m) J (m+1) 116 33 Tryz.f116 d20 p ms σ
noncomputable def l59 (J:Nat→Nat→Nat→St→Option Bool→Option Bool) (m:Nat) (p ms:List Nat) (M:Nat) (σ:St):=loopAt Tryz.prog env (ct m) J (m+1) 116 33 Tryz.f116 d20 p ms M σ
noncomputable def s59_5 (x0:ByteArray) (x1 x2 x3:Int):St:=⟨tsOf [(0,(.dat 9 (.str x0))),(1,(.dat 3 (.int x1))),(2,(.dat 3 (.int x2))),(7,(.dat 3 (.int x3)))],[],0⟩
noncomputable def s59_4 (x0:ByteArray) (x1 x2 x3:Int) (x4:Bool):St:=⟨tsOf [(0,(.dat 9 (.str x0))),(1,(.dat 3 (.int x1))),(2,(.dat 3 (.int x2))),(7,(.dat 3 (.int x3))),(32,(.dat 4 (.bool x4)))],[],0⟩
noncomputable def s59_6:St:=⟨tsOf [],[],0⟩
noncomputable def s59_0 (x0:ByteArray) (x1 x2:Int):St:=⟨tsOf [(0,(.dat 9 (.str x0))),(1,(.dat 3 (.int x1))),(2,(.dat 3 (.int x2)))],[],0⟩
abbrev H59_2 (m M2:Nat) (rec2:ByteArray→Int→Int→Int→Option Bool):Prop:=∀x0 x1 x2 x3,l59 jn m w59_0 [] M2 (s59_5 x0 x1 x2 x3)=rec2 x0 x1 x2 x3
theorem ref01_tail_j5_eq m M2 rec2 (h2:H59_2 m M2 rec2) x0 x1 x2 x3:e59 jn m w59_1 [M2] (s59_5 x0 x1 x2 x3)=ref01_tail_j5 m rec2 x0 x1 x2 x3:=
 tre (g:=fun J=>(jj J 1 4 M2 (s59_5 x0 x1 x2 (IntKind.wrap .i64 (x3+1))) (l59 J m w59_0 [] M2))) (fun J=>by kernel_rfl) (by simp only[jj_eq,h2];rfl)
theorem ref01_tail_j4_eq m M2 rec2 (h2:H59_2 m M2 rec2) x0 x1 x2 x3 x4:e59 jn m w59_2 [M2] (s59_4 x0 x1 x2 x3 x4)=ref01_tail_j4 m rec2 x0 x1 x2 x3 x4:=
 tre (g:=fun J=>(bif x4 then
  some false
   else
  (jj J 0 5 0 (s59_5 x0 x1 x2 x3) (e59 J m w59_1 [M2])))) (fun J=>by kernel_rfl) (by simp only[jj_eq,ref01_tail_j5_eq m M2 rec2 h2];rfl)
theorem ref01_tail_j3_eq m M2 rec2 (h2:H59_2 m M2 rec2) x0 x1 x2 x3:e59 jn m w59_3 [M2] (s59_5 x0 x1 x2 x3)=ref01_tail_j3 m rec2 x0 x1 x2 x3:=
 tre (g:=fun J=>((idxS x0 (IntKind.wrap .i64 (x1+x3))).bind fun v0=>
  (bif (decide (v0<128)) then
  (jj J 0 7 0 (s59_4 x0 x1 x2 x3 true) (e59 J m w59_2 [M2]))
  else
  ((idxS x0 (IntKind.wrap .i64 (x1+x3))).bind fun v1=>
  (jj J 0 7 0 (s59_4 x0 x1 x2 x3 (decide (191<v1))) (e59 J m w59_2 [M2])))))) (fun J=>by kernel_rfl) (by simp only[jj_eq,ref01_tail_j4_eq m M2 rec2 h2];rfl)
theorem ref01_tail_j6_eq m:e59 jn m [1,1,1] [] s59_6=ref01_tail_j6 m:=
 tre (g:=fun J=>some true) (fun J=>by kernel_rfl) (by rfl)
theorem ref01_tail_l2_eq m:∀M2 x0 x1 x2 x3,l59 jn m w59_0 [] M2 (s59_5 x0 x1 x2 x3)=ref01_tail_l2 m M2 x0 x1 x2 x3
 |0,_,_,_,_=>rfl
 | M2+1,x0,x1,x2,x3=>
   trl (g:=fun J=>(bif (decide (x3<x2)) then
  (jj J 0 6 0 (s59_5 x0 x1 x2 x3) (e59 J m w59_3 [M2]))
   else
  (jj J 0 8 0 s59_6 (e59 J m [1,1,1] [])))) (fun J=>by kernel_rfl) (by simp only[jj_eq,ref01_tail_j3_eq m M2 (ref01_tail_l2 m M2) (ref01_tail_l2_eq m M2),ref01_tail_j6_eq m];rfl)
theorem ref01_tail_j1_eq m x0 x1 x2 x3:e59 jn m [1,1,0,1] [] (s59_5 x0 x1 x2 x3)=ref01_tail_j1 m x0 x1 x2 x3:=
 tre (g:=fun J=>(jj J 1 4 (Nat.succ m) (s59_5 x0 x1 x2 x3) (l59 J m w59_0 [] (Nat.succ m)))) (fun J=>by kernel_rfl) (by simp only[jj_eq,ref01_tail_l2_eq m];rfl)
theorem ref01_tail_j0_eq m x0 x1 x2:e59 jn m [1,1] [] (s59_0 x0 x1 x2)=ref01_tail_j0 m x0 x1 x2:=
 tre (g:=fun J=>(jj J 0 4 0 (s59_5 x0 x1 x2 0) (e59 J m [1,1,0,1] []))) (fun J=>by kernel_rfl) (by simp only[jj_eq,ref01_tail_j1_eq m];rfl)
theorem ref01_tail_eq m a0 a1 a2:e59 jn m [] [] ⟨[(.dat 9 (.str a0)),(.dat 3 (.int a1)),(.dat 3 (.int a2))],[],0⟩=ref01_tail (m+1) a0 a1 a2:=
 tre (g:=fun J=>(bif (decide ((ByteArray.size a0:Int)<(IntKind.wrap .i64 (a1+a2)))) then
  some false
   else
  (jj J 0 3 0 (s59_0 a0 a1 a2) (e59 J m [1,1] [])))) (fun J=>by kernel_rfl) (by simp only[jj_eq,ref01_tail_j0_eq m];rfl)
def w56_7:List Nat:=[1,0,1,0,0,1]
def w56_3:List Nat:=w56_7++[0,1,1,1]
def w56_2:List Nat:=w56_3++[1]
def w56_0:List Nat:=w56_2++[1]
def w56_1:List Nat:=w56_2++[0,1]
def w56_6:List Nat:=w56_7++[0,1,1,0,0,1,1,1]
def w56_5:List Nat:=w56_6++[1,1]
def w56_4:List Nat:=w56_5++[1,1]
noncomputable def e56 (J:Nat→Nat→Nat→St→Option Bool→Option Bool) (m:Nat) (p ms:List Nat) (σ:St):=evAt Tryz.prog env (ct m) J (m+1) 101 89 Tryz.f101 d20 p ms σ
noncomputable def l56 (J:Nat→Nat→Nat→St→Option Bool→Option Bool) (m:Nat) (p ms:List Nat) (M:Nat) (σ:St):=loopAt Tryz.prog env (ct m) J (m+1) 101 89 Tryz.f101 d20 p ms M σ
noncomputable def s56_6 (x0:ByteArray) (x1 x2:Int):St:=⟨tsOf [(0,(.dat 9 (.str x0))),(3,(.dat 3 (.int x1))),(5,(.dat 3 (.int x2)))],[],0⟩
noncomputable def s56_5 (x0:ByteArray) (x1 x2:Int) (x3:Bool):St:=⟨tsOf [(0,(.dat 9 (.str x0))),(3,(.dat 3 (.int x1))),(5,(.dat 3 (.int x2))),(84,(.dat 4 (.bool x3)))],[],0⟩
noncomputable def s56_4 (x0:ByteArray) (x1 x2 x3:Int):St:=⟨tsOf [(0,(.dat 9 (.str x0))),(3,(.dat 3 (.int x1))),(4,(.dat 5 (.int x2))),(5,(.dat 3 (.int x3)))],[],0⟩
noncomputable def s56_9 (x0:ByteArray) (x1 x2:Int) (x3:Bool):St:=⟨tsOf [(0,(.dat 9 (.str x0))),(3,(.dat 3 (.int x1))),(4,(.dat 5 (.int x2))),(30,(.dat 4 (.bool x3)))],[],0⟩
noncomputable def s56_8 (x0:ByteArray) (x1 x2:Int) (x3:Bool):St:=⟨tsOf [(0,(.dat 9 (.str x0))),(3,(.dat 3 (.int x1))),(4,(.dat 5 (.int x2))),(23,(.dat 4 (.bool x3)))],[],0⟩
noncomputable def s56_7 (x0:ByteArray) (x1 x2:Int) (x3:Bool):St:=⟨tsOf [(0,(.dat 9 (.str x0))),(3,(.dat 3 (.int x1))),(4,(.dat 5 (.int x2))),(16,(.dat 4 (.bool x3)))],[],0⟩
noncomputable def s56_2 (x0:ByteArray) (x1:Int):St:=⟨tsOf [(0,(.dat 9 (.str x0))),(3,(.dat 3 (.int x1)))],[],0⟩
noncomputable def s56_10:St:=⟨tsOf [],[],0⟩
abbrev H56_1 (m M1:Nat) (rec1:ByteArray→Int→Option Bool):Prop:=∀x0 x1,l56 jn m [1,0,1,0] [] M1 (s56_2 x0 x1)=rec1 x0 x1
theorem ref01_UTF8_j6_eq m M1 rec1 (h1:H56_1 m M1 rec1) x0 x1 x2:e56 jn m w56_0 [M1] (s56_6 x0 x1 x2)=ref01_UTF8_j6 m rec1 x0 x1 x2:=
 tre (g:=fun J=>(jj J 1 2 M1 (s56_2 x0 (IntKind.wrap .i64 ((IntKind.wrap .i64 (x1+x2))+1))) (l56 J m [1,0,1,0] [] M1))) (fun J=>by kernel_rfl) (by simp only[jj_eq,h1];rfl)
theorem ref01_UTF8_j5_eq m M1 rec1 (h1:H56_1 m M1 rec1) x0 x1 x2 x3:e56 jn m w56_1 [M1] (s56_5 x0 x1 x2 x3)=ref01_UTF8_j5 m rec1 x0 x1 x2 x3:=
 tre (g:=fun J=>(bif x3 then
  some false
   else
  (jj J 0 17 0 (s56_6 x0 x1 x2) (e56 J m w56_0 [M1])))) (fun J=>by kernel_rfl) (by simp only[jj_eq,ref01_UTF8_j6_eq m M1 rec1 h1];rfl)
theorem ref01_UTF8_j4_eq m M1 rec1 (h1:H56_1 m M1 rec1) x0 x1 x2 x3:e56 jn m w56_2 [M1] (s56_4 x0 x1 x2 x3)=ref01_UTF8_j4 m rec1 x0 x1 x2 x3:=
 tre (g:=fun J=>(bif (x2==224) then
  ((idxS x0 (IntKind.wrap .i64 (x1+1))).bind fun v2=>
  (bif (decide (v2<160)) then
  (jj J 0 16 0 (s56_5 x0 x1 x3 true) (e56 J m w56_1 [M1]))
  else
  (bif (x2==237) then
  ((idxS x0 (IntKind.wrap .i64 (x1+1))).bind fun v3=>
  (bif (decide (159<v3)) then
  (jj J 0 16 0 (s56_5 x0 x1 x3 true) (e56 J m w56_1 [M1]))
  else
  (bif (x2==240) then
  ((idxS x0 (IntKind.wrap .i64 (x1+1))).bind fun v4=>
  (bif (decide (v4<144)) then
  (jj J 0 16 0 (s56_5 x0 x1 x3 true) (e56 J m w56_1 [M1]))
  else
  (bif (x2==244) then
  ((idxS x0 (IntKind.wrap .i64 (x1+1))).bind fun v5=>
  (jj J 0 16 0 (s56_5 x0 x1 x3 (decide (143<v5))) (e56 J m w56_1 [M1])))
  else
  (jj J 0 16 0 (s56_5 x0 x1 x3 false) (e56 J m w56_1 [M1])))))
  else
  (bif (x2==244) then
  ((idxS x0 (IntKind.wrap .i64 (x1+1))).bind fun v6=>
  (jj J 0 16 0 (s56_5 x0 x1 x3 (decide (143<v6))) (e56 J m w56_1 [M1])))
  else
  (jj J 0 16 0 (s56_5 x0 x1 x3 false) (e56 J m w56_1 [M1]))))))
  else
  (bif (x2==240) then
  ((idxS x0 (IntKind.wrap .i64 (x1+1))).bind fun v7=>
  (bif (decide (v7<144)) then
  (jj J 0 16 0 (s56_5 x0 x1 x3 true) (e56 J m w56_1 [M1]))
  else
  (bif (x2==244) then
  ((idxS x0 (IntKind.wrap .i64 (x1+1))).bind fun v8=>
  (jj J 0 16 0 (s56_5 x0 x1 x3 (decide (143<v8))) (e56 J m w56_1 [M1])))
  else
  (jj J 0 16 0 (s56_5 x0 x1 x3 false) (e56 J m w56_1 [M1])))))
  else
  (bif (x2==244) then
  ((idxS x0 (IntKind.wrap .i64 (x1+1))).bind fun v9=>
  (jj J 0 16 0 (s56_5 x0 x1 x3 (decide (143<v9))) (e56 J m w56_1 [M1])))
  else
  (jj J 0 16 0 (s56_5 x0 x1 x3 false) (e56 J m w56_1 [M1])))))))
   else
  (bif (x2==237) then
  ((idxS x0 (IntKind.wrap .i64 (x1+1))).bind fun v10=>
  (bif (decide (159<v10)) then
  (jj J 0 16 0 (s56_5 x0 x1 x3 true) (e56 J m w56_1 [M1]))
  else
  (bif (x2==240) then
  ((idxS x0 (IntKind.wrap .i64 (x1+1))).bind fun v11=>
  (bif (decide (v11<144)) then
  (jj J 0 16 0 (s56_5 x0 x1 x3 true) (e56 J m w56_1 [M1]))
  else
  (bif (x2==244) then
  ((idxS x0 (IntKind.wrap .i64 (x1+1))).bind fun v12=>
  (jj J 0 16 0 (s56_5 x0 x1 x3 (decide (143<v12))) (e56 J m w56_1 [M1])))
  else
  (jj J 0 16 0 (s56_5 x0 x1 x3 false) (e56 J m w56_1 [M1])))))
  else
  (bif (x2==244) then
  ((idxS x0 (IntKind.wrap .i64 (x1+1))).bind fun v13=>
  (jj J 0 16 0 (s56_5 x0 x1 x3 (decide (143<v13))) (e56 J m w56_1 [M1])))
  else
  (jj J 0 16 0 (s56_5 x0 x1 x3 false) (e56 J m w56_1 [M1]))))))
  else
  (bif (x2==240) then
  ((idxS x0 (IntKind.wrap .i64 (x1+1))).bind fun v14=>
  (bif (decide (v14<144)) then
  (jj J 0 16 0 (s56_5 x0 x1 x3 true) (e56 J m w56_1 [M1]))
  else
  (bif (x2==244) then
  ((idxS x0 (IntKind.wrap .i64 (x1+1))).bind fun v15=>
  (jj J 0 16 0 (s56_5 x0 x1 x3 (decide (143<v15))) (e56 J m w56_1 [M1])))
  else
  (jj J 0 16 0 (s56_5 x0 x1 x3 false) (e56 J m w56_1 [M1])))))
  else
  (bif (x2==244) then
  ((idxS x0 (IntKind.wrap .i64 (x1+1))).bind fun v16=>
  (jj J 0 16 0 (s56_5 x0 x1 x3 (decide (143<v16))) (e56 J m w56_1 [M1])))
  else
  (jj J 0 16 0 (s56_5 x0 x1 x3 false) (e56 J m w56_1 [M1]))))))) (fun J=>by kernel_rfl) (by simp only[jj_eq,ref01_UTF8_j5_eq m M1 rec1 h1];rfl)
theorem ref01_UTF8_j3_eq m M1 rec1 (h1:H56_1 m M1 rec1) x0 x1 x2 x3:e56 jn m w56_3 [M1] (s56_4 x0 x1 x2 x3)=ref01_UTF8_j3 m rec1 x0 x1 x2 x3:=
 tre (g:=fun J=>((ref01_tail m x0 (IntKind.wrap .i64 (x1+1)) x3).bind fun r1=>
  (bif (Bool.not r1) then
  some false
  else
  (jj J 0 15 0 (s56_4 x0 x1 x2 x3) (e56 J m w56_2 [M1]))))) (fun J=>by kernel_rfl) (by simp only[jj_eq,ref01_UTF8_j4_eq m M1 rec1 h1];rfl)
theorem ref01_UTF8_j9_eq m M1 rec1 (h1:H56_1 m M1 rec1) x0 x1 x2 x3:e56 jn m w56_4 [M1] (s56_9 x0 x1 x2 x3)=ref01_UTF8_j9 m rec1 x0 x1 x2 x3:=
 tre (g:=fun J=>(bif x3 then
  (jj J 0 13 0 (s56_4 x0 x1 x2 3) (e56 J m w56_3 [M1]))
   else
  some false)) (fun J=>by kernel_rfl) (by simp only[jj_eq,ref01_UTF8_j3_eq m M1 rec1 h1];rfl)
theorem ref01_UTF8_j8_eq m M1 rec1 (h1:H56_1 m M1 rec1) x0 x1 x2 x3:e56 jn m w56_5 [M1] (s56_8 x0 x1 x2 x3)=ref01_UTF8_j8 m rec1 x0 x1 x2 x3:=
 tre (g:=fun J=>(bif x3 then
  (jj J 0 13 0 (s56_4 x0 x1 x2 2) (e56 J m w56_3 [M1]))
   else
  (bif (decide (240≤x2)) then
  (jj J 0 12 0 (s56_9 x0 x1 x2 (decide (x2≤244))) (e56 J m w56_4 [M1]))
  else
  (jj J 0 12 0 (s56_9 x0 x1 x2 false) (e56 J m w56_4 [M1]))))) (fun J=>by kernel_rfl) (by simp only[jj_eq,ref01_UTF8_j3_eq m M1 rec1 h1,ref01_UTF8_j9_eq m M1 rec1 h1];rfl)
theorem ref01_UTF8_j7_eq m M1 rec1 (h1:H56_1 m M1 rec1) x0 x1 x2 x3:e56 jn m w56_6 [M1] (s56_7 x0 x1 x2 x3)=ref01_UTF8_j7 m rec1 x0 x1 x2 x3:=
 tre (g:=fun J=>(bif x3 then
  (jj J 0 13 0 (s56_4 x0 x1 x2 1) (e56 J m w56_3 [M1]))
   else
  (bif (decide (224≤x2)) then
  (jj J 0 10 0 (s56_8 x0 x1 x2 (decide (x2≤239))) (e56 J m w56_5 [M1]))
  else
  (jj J 0 10 0 (s56_8 x0 x1 x2 false) (e56 J m w56_5 [M1]))))) (fun J=>by kernel_rfl) (by simp only[jj_eq,ref01_UTF8_j3_eq m M1 rec1 h1,ref01_UTF8_j8_eq m M1 rec1 h1];rfl)
theorem ref01_UTF8_j2_eq m M1 rec1 (h1:H56_1 m M1 rec1) x0 x1:e56 jn m w56_7 [M1] (s56_2 x0 x1)=ref01_UTF8_j2 m rec1 x0 x1:=
 tre (g:=fun J=>((idxS x0 x1).bind fun v0=>
  (bif (decide (v0<128)) then
  (jj J 0 13 0 (s56_4 x0 x1 v0 0) (e56 J m w56_3 [M1]))
  else
  (bif (decide (194≤v0)) then
  (jj J 0 8 0 (s56_7 x0 x1 v0 (decide (v0≤223))) (e56 J m w56_6 [M1]))
  else
  (jj J 0 8 0 (s56_7 x0 x1 v0 false) (e56 J m w56_6 [M1])))))) (fun J=>by kernel_rfl) (by simp only[jj_eq,ref01_UTF8_j3_eq m M1 rec1 h1,ref01_UTF8_j7_eq m M1 rec1 h1];rfl)
theorem ref01_UTF8_j10_eq m:e56 jn m [1,1] [] s56_10=ref01_UTF8_j10 m:=
 tre (g:=fun J=>some true) (fun J=>by kernel_rfl) (by rfl)
theorem ref01_UTF8_l1_eq m:∀M1 x0 x1,l56 jn m [1,0,1,0] [] M1 (s56_2 x0 x1)=ref01_UTF8_l1 m M1 x0 x1
 |0,_,_=>rfl
 | M1+1,x0,x1=>
   trl (g:=fun J=>(bif (decide (x1<(ByteArray.size x0:Int))) then
  (jj J 0 3 0 (s56_2 x0 x1) (e56 J m w56_7 [M1]))
   else
  (jj J 0 18 0 s56_10 (e56 J m [1,1] [])))) (fun J=>by kernel_rfl) (by simp only[jj_eq,ref01_UTF8_j2_eq m M1 (ref01_UTF8_l1 m M1) (ref01_UTF8_l1_eq m M1),ref01_UTF8_j10_eq m];rfl)
theorem ref01_UTF8_j0_eq m x0 x1:e56 jn m [1,0,1] [] (s56_2 x0 x1)=ref01_UTF8_j0 m x0 x1:=
 tre (g:=fun J=>(jj J 1 2 (Nat.succ m) (s56_2 x0 x1) (l56 J m [1,0,1,0] [] (Nat.succ m)))) (fun J=>by kernel_rfl) (by simp only[jj_eq,ref01_UTF8_l1_eq m];rfl)
theorem ref01_UTF8_eq m a0:e56 jn m [] [] ⟨[(.dat 9 (.str a0))],[],0⟩=ref01_UTF8 (m+1) a0:=
 tre (g:=fun J=>(jj J 0 2 0 (s56_2 a0 0) (e56 J m [1,0,1] []))) (fun J=>by kernel_rfl) (by simp only[jj_eq,ref01_UTF8_j0_eq m];rfl)
def w60_0:List Nat:=[1,1,0,1,0]
def w60_3:List Nat:=[1,1,0,1,0,0,1]
def w60_1:List Nat:=w60_3++[1]
def w60_2:List Nat:=w60_3++[0,0,1]
noncomputable def e60 (J:Nat→Nat→Nat→St→Option Bool→Option Bool) (m:Nat) (p ms:List Nat) (σ:St):=evAt Tryz.prog env (ct m) J (m+1) 117 39 Tryz.f117 d20 p ms σ
noncomputable def l60 (J:Nat→Nat→Nat→St→Option Bool→Option Bool) (m:Nat) (p ms:List Nat) (M:Nat) (σ:St):=loopAt Tryz.prog env (ct m) J (m+1) 117 39 Tryz.f117 d20 p ms M σ
noncomputable def s60_6 (x0:ByteArray) (x1:Int):St:=⟨tsOf [(0,(.dat 9 (.str x0))),(3,(.dat 3 (.int x1)))],[],0⟩
noncomputable def s60_5 (x0:ByteArray) (x1:Int) (x2:Bool):St:=⟨tsOf [(0,(.dat 9 (.str x0))),(3,(.dat 3 (.int x1))),(38,(.dat 4 (.bool x2)))],[],0⟩
noncomputable def s60_7:St:=⟨tsOf [],[],0⟩
noncomputable def s60_1 (x0:ByteArray):St:=⟨tsOf [(0,(.dat 9 (.str x0)))],[],0⟩
noncomputable def s60_0 (x0:ByteArray) (x1:Bool):St:=⟨tsOf [(0,(.dat 9 (.str x0))),(16,(.dat 4 (.bool x1)))],[],0⟩
abbrev H60_3 (m M3:Nat) (rec3:ByteArray→Int→Option Bool):Prop:=∀x0 x1,l60 jn m w60_0 [] M3 (s60_6 x0 x1)=rec3 x0 x1
theorem ref01_Name_j6_eq m M3 rec3 (h3:H60_3 m M3 rec3) x0 x1:e60 jn m w60_1 [M3] (s60_6 x0 x1)=ref01_Name_j6 m rec3 x0 x1:=
 tre (g:=fun J=>(jj J 1 4 M3 (s60_6 x0 (IntKind.wrap .i64 (x1+1))) (l60 J m w60_0 [] M3))) (fun J=>by kernel_rfl) (by simp only[jj_eq,h3];rfl)
theorem ref01_Name_j5_eq m M3 rec3 (h3:H60_3 m M3 rec3) x0 x1 x2:e60 jn m w60_2 [M3] (s60_5 x0 x1 x2)=ref01_Name_j5 m rec3 x0 x1 x2:=
 tre (g:=fun J=>(bif x2 then
  some false
   else
  (jj J 0 5 0 (s60_6 x0 x1) (e60 J m w60_1 [M3])))) (fun J=>by kernel_rfl) (by simp only[jj_eq,ref01_Name_j6_eq m M3 rec3 h3];rfl)
theorem ref01_Name_j4_eq m M3 rec3 (h3:H60_3 m M3 rec3) x0 x1:e60 jn m w60_3 [M3] (s60_6 x0 x1)=ref01_Name_j4 m rec3 x0 x1:=
 tre (g:=fun J=>((idxS x0 x1).bind fun v0=>
  (bif (decide (v0<33)) then
  (jj J 0 7 0 (s60_5 x0 x1 true) (e60 J m w60_2 [M3]))
  else
  ((idxS x0 x1).bind fun v1=>
  (bif (decide (126<v1)) then
  (jj J 0 7 0 (s60_5 x0 x1 true) (e60 J m w60_2 [M3]))
  else
  ((idxS x0 x1).bind fun v2=>
  (jj J 0 7 0 (s60_5 x0 x1 (v2==46)) (e60 J m w60_2 [M3])))))))) (fun J=>by kernel_rfl) (by simp only[jj_eq,ref01_Name_j5_eq m M3 rec3 h3];rfl)
theorem ref01_Name_j7_eq m:e60 jn m [1,1,1] [] s60_7=ref01_Name_j7 m:=
 tre (g:=fun J=>some true) (fun J=>by kernel_rfl) (by rfl)
theorem ref01_Name_l3_eq m:∀M3 x0 x1,l60 jn m w60_0 [] M3 (s60_6 x0 x1)=ref01_Name_l3 m M3 x0 x1
 |0,_,_=>rfl
 | M3+1,x0,x1=>
   trl (g:=fun J=>(bif (decide (x1<(ByteArray.size x0:Int))) then
  (jj J 0 6 0 (s60_6 x0 x1) (e60 J m w60_3 [M3]))
   else
  (jj J 0 8 0 s60_7 (e60 J m [1,1,1] [])))) (fun J=>by kernel_rfl) (by simp only[jj_eq,ref01_Name_j4_eq m M3 (ref01_Name_l3 m M3) (ref01_Name_l3_eq m M3),ref01_Name_j7_eq m];rfl)
theorem ref01_Name_j2_eq m x0 x1:e60 jn m [1,1,0,1] [] (s60_6 x0 x1)=ref01_Name_j2 m x0 x1:=
 tre (g:=fun J=>(jj J 1 4 (Nat.succ m) (s60_6 x0 x1) (l60 J m w60_0 [] (Nat.succ m)))) (fun J=>by kernel_rfl) (by simp only[jj_eq,ref01_Name_l3_eq m];rfl)
theorem ref01_Name_j1_eq m x0:e60 jn m [1,1] [] (s60_1 x0)=ref01_Name_j1 m x0:=
 tre (g:=fun J=>(jj J 0 4 0 (s60_6 x0 0) (e60 J m [1,1,0,1] []))) (fun J=>by kernel_rfl) (by simp only[jj_eq,ref01_Name_j2_eq m];rfl)
theorem ref01_Name_j0_eq m x0 x1:e60 jn m [1,0,1] [] (s60_0 x0 x1)=ref01_Name_j0 m x0 x1:=
 tre (g:=fun J=>(bif x1 then
  some false
   else
  (jj J 0 3 0 (s60_1 x0) (e60 J m [1,1] [])))) (fun J=>by kernel_rfl) (by simp only[jj_eq,ref01_Name_j1_eq m];rfl)
theorem ref01_Name_eq m a0:e60 jn m [] [] ⟨[(.dat 9 (.str a0))],[],0⟩=ref01_Name (m+1) a0:=
 tre (g:=fun J=>(bif (decide ((ByteArray.size a0:Int)<1)) then
  (jj J 0 2 0 (s60_0 a0 true) (e60 J m [1,0,1] []))
   else
  (bif (decide (32<(ByteArray.size a0:Int))) then
  (jj J 0 2 0 (s60_0 a0 true) (e60 J m [1,0,1] []))
  else
  ((idxS a0 0).bind fun v3=>
  (jj J 0 2 0 (s60_0 a0 (v3==36)) (e60 J m [1,0,1] [])))))) (fun J=>by kernel_rfl) (by simp only[jj_eq,ref01_Name_j0_eq m];rfl)
def w61_0:List Nat:=[1,1,0,1,0]
def w61_3:List Nat:=[1,1,0,1,0,0,1]
def w61_1:List Nat:=w61_3++[1]
def w61_2:List Nat:=w61_3++[0,0,1]
noncomputable def e61 (J:Nat→Nat→Nat→St→Option Bool→Option Bool) (m:Nat) (p ms:List Nat) (σ:St):=evAt Tryz.prog env (ct m) J (m+1) 118 28 Tryz.f118 d20 p ms σ
noncomputable def l61 (J:Nat→Nat→Nat→St→Option Bool→Option Bool) (m:Nat) (p ms:List Nat) (M:Nat) (σ:St):=loopAt Tryz.prog env (ct m) J (m+1) 118 28 Tryz.f118 d20 p ms M σ
noncomputable def s61_6 (x0:ByteArray) (x1:Int):St:=⟨tsOf [(0,(.dat 9 (.str x0))),(3,(.dat 3 (.int x1)))],[],0⟩
noncomputable def s61_5 (x0:ByteArray) (x1:Int) (x2:Bool):St:=⟨tsOf [(0,(.dat 9 (.str x0))),(3,(.dat 3 (.int x1))),(27,(.dat 4 (.bool x2)))],[],0⟩
noncomputable def s61_7:St:=⟨tsOf [],[],0⟩
noncomputable def s61_1 (x0:ByteArray):St:=⟨tsOf [(0,(.dat 9 (.str x0)))],[],0⟩
noncomputable def s61_0 (x0:ByteArray) (x1:Bool):St:=⟨tsOf [(0,(.dat 9 (.str x0))),(11,(.dat 4 (.bool x1)))],[],0⟩
abbrev H61_3 (m M3:Nat) (rec3:ByteArray→Int→Option Bool):Prop:=∀x0 x1,l61 jn m w61_0 [] M3 (s61_6 x0 x1)=rec3 x0 x1
theorem ref01_wide_j6_eq m M3 rec3 (h3:H61_3 m M3 rec3) x0 x1:e61 jn m w61_1 [M3] (s61_6 x0 x1)=ref01_wide_j6 m rec3 x0 x1:=
 tre (g:=fun J=>(jj J 1 4 M3 (s61_6 x0 (IntKind.wrap .i64 (x1+1))) (l61 J m w61_0 [] M3))) (fun J=>by kernel_rfl) (by simp only[jj_eq,h3];rfl)
theorem ref01_wide_j5_eq m M3 rec3 (h3:H61_3 m M3 rec3) x0 x1 x2:e61 jn m w61_2 [M3] (s61_5 x0 x1 x2)=ref01_wide_j5 m rec3 x0 x1 x2:=
 tre (g:=fun J=>(bif x2 then
  some false
   else
  (jj J 0 5 0 (s61_6 x0 x1) (e61 J m w61_1 [M3])))) (fun J=>by kernel_rfl) (by simp only[jj_eq,ref01_wide_j6_eq m M3 rec3 h3];rfl)
theorem ref01_wide_j4_eq m M3 rec3 (h3:H61_3 m M3 rec3) x0 x1:e61 jn m w61_3 [M3] (s61_6 x0 x1)=ref01_wide_j4 m rec3 x0 x1:=
 tre (g:=fun J=>((idxS x0 x1).bind fun v0=>
  (bif (decide (v0<32)) then
  (jj J 0 7 0 (s61_5 x0 x1 true) (e61 J m w61_2 [M3]))
  else
  ((idxS x0 x1).bind fun v1=>
  (jj J 0 7 0 (s61_5 x0 x1 (decide (126<v1))) (e61 J m w61_2 [M3])))))) (fun J=>by kernel_rfl) (by simp only[jj_eq,ref01_wide_j5_eq m M3 rec3 h3];rfl)
theorem ref01_wide_j7_eq m:e61 jn m [1,1,1] [] s61_7=ref01_wide_j7 m:=
 tre (g:=fun J=>some true) (fun J=>by kernel_rfl) (by rfl)
theorem ref01_wide_l3_eq m:∀M3 x0 x1,l61 jn m w61_0 [] M3 (s61_6 x0 x1)=ref01_wide_l3 m M3 x0 x1
 |0,_,_=>rfl
 | M3+1,x0,x1=>
   trl (g:=fun J=>(bif (decide (x1<(ByteArray.size x0:Int))) then
  (jj J 0 6 0 (s61_6 x0 x1) (e61 J m w61_3 [M3]))
   else
  (jj J 0 8 0 s61_7 (e61 J m [1,1,1] [])))) (fun J=>by kernel_rfl) (by simp only[jj_eq,ref01_wide_j4_eq m M3 (ref01_wide_l3 m M3) (ref01_wide_l3_eq m M3),ref01_wide_j7_eq m];rfl)
theorem ref01_wide_j2_eq m x0 x1:e61 jn m [1,1,0,1] [] (s61_6 x0 x1)=ref01_wide_j2 m x0 x1:=
 tre (g:=fun J=>(jj J 1 4 (Nat.succ m) (s61_6 x0 x1) (l61 J m w61_0 [] (Nat.succ m)))) (fun J=>by kernel_rfl) (by simp only[jj_eq,ref01_wide_l3_eq m];rfl)
theorem ref01_wide_j1_eq m x0:e61 jn m [1,1] [] (s61_1 x0)=ref01_wide_j1 m x0:=
 tre (g:=fun J=>(jj J 0 4 0 (s61_6 x0 0) (e61 J m [1,1,0,1] []))) (fun J=>by kernel_rfl) (by simp only[jj_eq,ref01_wide_j2_eq m];rfl)
theorem ref01_wide_j0_eq m x0 x1:e61 jn m [1,0,1] [] (s61_0 x0 x1)=ref01_wide_j0 m x0 x1:=
 tre (g:=fun J=>(bif x1 then
  some false
   else
  (jj J 0 3 0 (s61_1 x0) (e61 J m [1,1] [])))) (fun J=>by kernel_rfl) (by simp only[jj_eq,ref01_wide_j1_eq m];rfl)
theorem ref01_wide_eq m a0:e61 jn m [] [] ⟨[(.dat 9 (.str a0))],[],0⟩=ref01_wide (m+1) a0:=
 tre (g:=fun J=>(bif (decide ((ByteArray.size a0:Int)<1)) then
  (jj J 0 2 0 (s61_0 a0 true) (e61 J m [1,0,1] []))
   else
  (jj J 0 2 0 (s61_0 a0 (decide (128<(ByteArray.size a0:Int)))) (e61 J m [1,0,1] [])))) (fun J=>by kernel_rfl) (by simp only[jj_eq,ref01_wide_j0_eq m];rfl)
def w53_6:List Nat:=[1,1,1,1,1]
def w53_5:List Nat:=[1,1,1,1,1,1]
def w53_7:List Nat:=[1,1,1,1,0,1]
def w53_3:List Nat:=w53_5++[1]
def w53_4:List Nat:=w53_5++[0,1]
def w53_0:List Nat:=w53_4++[0]
def w53_2:List Nat:=w53_0++[0,1]
def w53_1:List Nat:=w53_2++[1]
noncomputable def e53 (J:Nat→Nat→Nat→St→Option Bool→Option Bool) (m:Nat) (p ms:List Nat) (σ:St):=evAt Tryz.prog env (ct m) J (m+1) 87 138 Tryz.f87 d20 p ms σ
noncomputable def l53 (J:Nat→Nat→Nat→St→Option Bool→Option Bool) (m:Nat) (p ms:List Nat) (M:Nat) (σ:St):=loopAt Tryz.prog env (ct m) J (m+1) 87 138 Tryz.f87 d20 p ms M σ
noncomputable def s53_10 (x0:Bool) (x1:Int) (x2:Dt):St:=⟨tsOf [(1,(.dat 4 (.bool x0))),(2,(.ptr 0 [] 0)),(7,(.dat 3 (.int x1)))],[(.box 25 (.dat 25 x2))],0⟩
noncomputable def s53_11 (x0:Bool) (x1:Dt):St:=⟨tsOf [(1,(.dat 4 (.bool x0))),(2,(.ptr 0 [] 0))],[(.box 25 (.dat 25 x1))],0⟩
noncomputable def s53_4 (x0 x1:Bool) (x2:Dt):St:=⟨tsOf [(1,(.dat 4 (.bool x0))),(2,(.ptr 0 [] 0)),(79,(.dat 4 (.bool x1)))],[(.box 25 (.dat 25 x2))],0⟩
noncomputable def s53_3 (x0 x1 x2:Bool) (x3:Dt):St:=⟨tsOf [(1,(.dat 4 (.bool x0))),(2,(.ptr 0 [] 0)),(5,(.dat 4 (.bool x1))),(6,(.dat 4 (.bool x2)))],[(.box 25 (.dat 25 x3))],0⟩
noncomputable def s53_2 (x0 x1:Bool) (x2:Dt):St:=⟨tsOf [(1,(.dat 4 (.bool x0))),(2,(.ptr 0 [] 0)),(5,(.dat 4 (.bool x1)))],[(.box 25 (.dat 25 x2))],0⟩
noncomputable def s53_0 (x0 x1:Bool) (x2:Dt):St:=⟨tsOf [(1,(.dat 4 (.bool x0))),(2,(.ptr 0 [] 0)),(27,(.dat 4 (.bool x1)))],[(.box 25 (.dat 25 x2))],0⟩
abbrev H53_8 (m M8:Nat) (rec8:Bool→Int→Dt→Option Bool):Prop:=∀x0 x1 x2,l53 jn m w53_0 [] M8 (s53_10 x0 x1 x2)=rec8 x0 x1 x2
theorem ref01_formed_j10_eq m M8 rec8 (h8:H53_8 m M8 rec8) x0 x1 x2:e53 jn m w53_1 [M8] (s53_10 x0 x1 x2)=ref01_formed_j10 m (ref01_formed m) (ref01_fields m) rec8 x0 x1 x2:=
 tre (g:=fun J=>(jj J 1 19 M8 (s53_10 x0 (IntKind.wrap .i64 (x1+1)) x2) (l53 J m w53_0 [] M8))) (fun J=>by kernel_rfl) (by simp only[jj_eq,h8];rfl)
theorem ref01_formed_j9_eq m M8 rec8 (h8:H53_8 m M8 rec8) x0 x1 x2:e53 jn m w53_2 [M8] (s53_10 x0 x1 x2)=ref01_formed_j9 m (ref01_formed m) (ref01_fields m) rec8 x0 x1 x2:=
 tre (g:=fun J=>((idx (Dt.L x2 3) x1).bind fun v1=>
  ((ref01_formed m v1 x0).bind fun r2=>
  (bif (Bool.not r2) then
  some false
  else
  (jj J 0 20 0 (s53_10 x0 x1 x2) (e53 J m w53_1 [M8])))))) (fun J=>by kernel_rfl) (by simp only[jj_eq,ref01_formed_j10_eq m M8 rec8 h8];rfl)
theorem ref01_formed_j11_eq m x0 x1:e53 jn m w53_3 [] (s53_11 x0 x1)=ref01_formed_j11 m (ref01_formed m) (ref01_fields m) x0 x1:=
 tre (g:=fun J=>((ref01_fields m x1 x0).bind fun r3=>
  some r3)) (fun J=>by kernel_rfl) (by rfl)
theorem ref01_formed_l8_eq m:∀M8 x0 x1 x2,l53 jn m w53_0 [] M8 (s53_10 x0 x1 x2)=ref01_formed_l8 m (ref01_formed m) (ref01_fields m) M8 x0 x1 x2
 |0,_,_,_=>rfl
 | M8+1,x0,x1,x2=>
   trl (g:=fun J=>(bif (decide (x1<(List.length (Dt.L x2 3):Int))) then
  (jj J 0 21 0 (s53_10 x0 x1 x2) (e53 J m w53_2 [M8]))
   else
  (jj J 0 23 0 (s53_11 x0 x2) (e53 J m w53_3 [])))) (fun J=>by kernel_rfl) (by simp only[jj_eq,ref01_formed_j9_eq m M8 (ref01_formed_l8 m (ref01_formed m) (ref01_fields m) M8) (ref01_formed_l8_eq m M8),ref01_formed_j11_eq m];rfl)
theorem ref01_formed_j7_eq m x0 x1 x2:e53 jn m w53_4 [] (s53_10 x0 x1 x2)=ref01_formed_j7 m (ref01_formed m) (ref01_fields m) x0 x1 x2:=
 tre (g:=fun J=>(jj J 1 19 (Nat.succ m) (s53_10 x0 x1 x2) (l53 J m w53_0 [] (Nat.succ m)))) (fun J=>by kernel_rfl) (by simp only[jj_eq,ref01_formed_l8_eq m];rfl)
theorem ref01_formed_j6_eq m x0 x1:e53 jn m w53_5 [] (s53_11 x0 x1)=ref01_formed_j6 m (ref01_formed m) (ref01_fields m) x0 x1:=
 tre (g:=fun J=>(jj J 0 19 0 (s53_10 x0 0 x1) (e53 J m w53_4 []))) (fun J=>by kernel_rfl) (by simp only[jj_eq,ref01_formed_j7_eq m];rfl)
theorem ref01_formed_j5_eq m x0 x1:e53 jn m w53_6 [] (s53_11 x0 x1)=ref01_formed_j5 m (ref01_formed m) (ref01_fields m) x0 x1:=
 tre (g:=fun J=>(bif ((Dt.I x1 0)==9) then
  (bif ((Dt.I x1 1)==0) then
  some true
  else
  some ((Dt.I x1 1)==1))
   else
  (bif ((Dt.I x1 0)==10) then
  some (decide (0≤(Dt.I x1 1)))
  else
  (bif ((Dt.I x1 0)==4) then
  (bif (decide ((ByteArray.size (Dt.S x1 2):Int)≤4096)) then
  ((ref01_UTF8 m (Dt.S x1 2)).bind fun r0=>
  some r0)
  else
  some false)
  else
  (bif ((Dt.I x1 0)==7) then
  some (decide ((ByteArray.size (Dt.S x1 2):Int)≤4096))
  else
  (bif ((Dt.I x1 0)==8) then
  some ((ByteArray.size (Dt.S x1 2):Int)==12)
  else
  (jj J 0 18 0 (s53_11 x0 x1) (e53 J m w53_5 [])))))))) (fun J=>by kernel_rfl) (by simp only[jj_eq,ref01_formed_j6_eq m];rfl)
theorem ref01_formed_j4_eq m x0 x1 x2:e53 jn m w53_7 [] (s53_4 x0 x1 x2)=ref01_formed_j4 m (ref01_formed m) (ref01_fields m) x0 x1 x2:=
 tre (g:=fun J=>(bif x1 then
  some false
   else
  (jj J 0 7 0 (s53_11 x0 x2) (e53 J m w53_6 [])))) (fun J=>by kernel_rfl) (by simp only[jj_eq,ref01_formed_j5_eq m];rfl)
theorem ref01_formed_j3_eq m x0 x1 x2 x3:e53 jn m [1,1,1,1] [] (s53_3 x0 x1 x2 x3)=ref01_formed_j3 m (ref01_formed m) (ref01_fields m) x0 x1 x2 x3:=
 tre (g:=fun J=>(bif (Bool.not x1) then
  (bif (Bool.not ((ByteArray.toList (Dt.S x3 2))==[])) then
  (jj J 0 6 0 (s53_4 x0 true x3) (e53 J m w53_7 []))
  else
  (bif (Bool.not x2) then
  (bif ((Dt.I x3 1) !=0) then
  (jj J 0 6 0 (s53_4 x0 true x3) (e53 J m w53_7 []))
  else
  (bif (decide ((Dt.I x3 0)<1)) then
  (jj J 0 6 0 (s53_4 x0 true x3) (e53 J m w53_7 []))
  else
  (jj J 0 6 0 (s53_4 x0 (decide (11<(Dt.I x3 0))) x3) (e53 J m w53_7 []))))
  else
  (bif (decide ((Dt.I x3 0)<1)) then
  (jj J 0 6 0 (s53_4 x0 true x3) (e53 J m w53_7 []))
  else
  (jj J 0 6 0 (s53_4 x0 (decide (11<(Dt.I x3 0))) x3) (e53 J m w53_7 [])))))
   else
  (bif (Bool.not x2) then
  (bif ((Dt.I x3 1) !=0) then
  (jj J 0 6 0 (s53_4 x0 true x3) (e53 J m w53_7 []))
  else
  (bif (decide ((Dt.I x3 0)<1)) then
  (jj J 0 6 0 (s53_4 x0 true x3) (e53 J m w53_7 []))
  else
  (jj J 0 6 0 (s53_4 x0 (decide (11<(Dt.I x3 0))) x3) (e53 J m w53_7 []))))
  else
  (bif (decide ((Dt.I x3 0)<1)) then
  (jj J 0 6 0 (s53_4 x0 true x3) (e53 J m w53_7 []))
  else
  (jj J 0 6 0 (s53_4 x0 (decide (11<(Dt.I x3 0))) x3) (e53 J m w53_7 [])))))) (fun J=>by kernel_rfl) (by simp only[jj_eq,ref01_formed_j4_eq m];rfl)
theorem ref01_formed_j2_eq m x0 x1 x2:e53 jn m [1,1,1] [] (s53_2 x0 x1 x2)=ref01_formed_j2 m (ref01_formed m) (ref01_fields m) x0 x1 x2:=
 tre (g:=fun J=>(bif ((Dt.I x2 0)==3) then
  (jj J 0 5 0 (s53_3 x0 x1 true x2) (e53 J m [1,1,1,1] []))
   else
  (bif ((Dt.I x2 0)==9) then
  (jj J 0 5 0 (s53_3 x0 x1 true x2) (e53 J m [1,1,1,1] []))
  else
  (jj J 0 5 0 (s53_3 x0 x1 ((Dt.I x2 0)==10) x2) (e53 J m [1,1,1,1] []))))) (fun J=>by kernel_rfl) (by simp only[jj_eq,ref01_formed_j3_eq m];rfl)
theorem ref01_formed_j1_eq m x0 x1:e53 jn m [1,1] [] (s53_11 x0 x1)=ref01_formed_j1 m (ref01_formed m) (ref01_fields m) x0 x1:=
 tre (g:=fun J=>(bif ((Dt.I x1 0)==4) then
  (jj J 0 4 0 (s53_2 x0 true x1) (e53 J m [1,1,1] []))
   else
  (bif ((Dt.I x1 0)==7) then
  (jj J 0 4 0 (s53_2 x0 true x1) (e53 J m [1,1,1] []))
  else
  (jj J 0 4 0 (s53_2 x0 ((Dt.I x1 0)==8) x1) (e53 J m [1,1,1] []))))) (fun J=>by kernel_rfl) (by simp only[jj_eq,ref01_formed_j2_eq m];rfl)
theorem ref01_formed_j0_eq m x0 x1 x2:e53 jn m [1,0,1] [] (s53_0 x0 x1 x2)=ref01_formed_j0 m (ref01_formed m) (ref01_fields m) x0 x1 x2:=
 tre (g:=fun J=>(bif x1 then
  some false
   else
  (jj J 0 3 0 (s53_11 x0 x2) (e53 J m [1,1] [])))) (fun J=>by kernel_rfl) (by simp only[jj_eq,ref01_formed_j1_eq m];rfl)
theorem ref01_formed_eq m a0 a1:e53 jn m [] [] ⟨[(.dat 25 a0),(.dat 4 (.bool a1))],[],0⟩=ref01_formed (m+1) a0 a1:=
 tre (g:=fun J=>(bif ((Dt.I a0 0) !=6) then
  (bif (decide (0<(List.length (Dt.L a0 3):Int))) then
  (jj J 0 2 0 (s53_0 a1 true a0) (e53 J m [1,0,1] []))
  else
  (bif ((Dt.I a0 0) !=5) then
  (jj J 0 2 0 (s53_0 a1 (decide (0<(List.length (Dt.L a0 4):Int))) a0) (e53 J m [1,0,1] []))
  else
  (jj J 0 2 0 (s53_0 a1 false a0) (e53 J m [1,0,1] []))))
   else
  (bif ((Dt.I a0 0) !=5) then
  (jj J 0 2 0 (s53_0 a1 (decide (0<(List.length (Dt.L a0 4):Int))) a0) (e53 J m [1,0,1] []))
  else
  (jj J 0 2 0 (s53_0 a1 false a0) (e53 J m [1,0,1] []))))) (fun J=>by kernel_rfl) (by simp only[jj_eq,ref01_formed_j0_eq m];rfl)
end Go.Proofs.YtmejbpmceflcjaaGreatDoor
