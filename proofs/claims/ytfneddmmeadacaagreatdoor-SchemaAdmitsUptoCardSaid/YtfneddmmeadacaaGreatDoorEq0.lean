/- Generated: each function's run in the abstract machine is its shallow function. -/
import Derived.Test.YtfneddmmeadacaaGreatDoorCt
import Derived.Test.YtfneddmmeadacaaGreatDoorAmEnv
import Derived.KernelRfl
set_option linter.unusedVariables false
set_option linter.unusedSimpArgs false
namespace Go.Proofs.YtfneddmmeadacaaGreatDoor
open Go.Am
set_option maxRecDepth 100000
def w9_0:List Nat:=[1,1,0,1,0]
def w9_6:List Nat:=[1,1,1,0,1]
def w9_3:List Nat:=[1,1,1,0,1,0]
def w9_2:List Nat:=[1,1,0,1,0,0,1]
def w9_1:List Nat:=w9_2++[1]
def w9_5:List Nat:=w9_3++[0,1]
def w9_4:List Nat:=w9_5++[1]
noncomputable def e9 (J:Nat→Nat→Nat→St→Option Int→Option Int) (m:Nat) (p ms:List Nat) (σ:St):=evAt Tryz.prog env (ct m) J (m+1) 29 56 Tryz.f29 d9 p ms σ
noncomputable def l9 (J:Nat→Nat→Nat→St→Option Int→Option Int) (m:Nat) (p ms:List Nat) (M:Nat) (σ:St):=loopAt Tryz.prog env (ct m) J (m+1) 29 56 Tryz.f29 d9 p ms M σ
noncomputable def s9_3 (x0 x1 x2:Int) (x3:Dt):St:=⟨tsOf [(1,(.dat 3 (.int x0))),(2,(.ptr 0 [] 0)),(5,(.dat 3 (.int x1))),(6,(.dat 3 (.int x2)))],[(.box 32 (.dat 32 x3))],0⟩
noncomputable def s9_8 (x0 x1 x2:Int) (x3:Dt):St:=⟨tsOf [(1,(.dat 3 (.int x0))),(2,(.ptr 0 [] 0)),(5,(.dat 3 (.int x1))),(7,(.dat 3 (.int x2)))],[(.box 32 (.dat 32 x3))],0⟩
noncomputable def s9_9 (x0:Int):St:=⟨tsOf [(5,(.dat 3 (.int x0)))],[],0⟩
noncomputable def s9_4 (x0 x1:Int) (x2:Dt):St:=⟨tsOf [(1,(.dat 3 (.int x0))),(2,(.ptr 0 [] 0)),(5,(.dat 3 (.int x1)))],[(.box 32 (.dat 32 x2))],0⟩
abbrev H9_1 (m M1:Nat) (rec1:Int→Int→Int→Dt→Option Int):Prop:=∀x0 x1 x2 x3,l9 jn m w9_0 [] M1 (s9_3 x0 x1 x2 x3)=rec1 x0 x1 x2 x3
theorem ref14_Count_j3_eq m M1 rec1 (h1:H9_1 m M1 rec1) x0 x1 x2 x3:e9 jn m w9_1 [M1] (s9_3 x0 x1 x2 x3)=ref14_Count_j3 m (ref14_Count m) rec1 x0 x1 x2 x3:=
 tre (g:=fun J=>(jj J 1 3 M1 (s9_3 x0 x1 (IntKind.wrap .i64 (x2+1)) x3) (l9 J m w9_0 [] M1))) (fun J=>by kernel_rfl) (by simp only[jj_eq,h1];rfl)
theorem ref14_Count_j2_eq m M1 rec1 (h1:H9_1 m M1 rec1) x0 x1 x2 x3:e9 jn m w9_2 [M1] (s9_3 x0 x1 x2 x3)=ref14_Count_j2 m (ref14_Count m) rec1 x0 x1 x2 x3:=
 tre (g:=fun J=>((idx (Dt.L x3 9) x2).bind fun v0=>
  ((ref14_Count m (Dt.fld v0 1) (IntKind.wrap .i64 (x0-x1))).bind fun r1=>
  (jj J 0 4 0 (s9_3 x0 (IntKind.wrap .i64 (x1+r1)) x2 x3) (e9 J m w9_1 [M1]))))) (fun J=>by kernel_rfl) (by simp only[jj_eq,ref14_Count_j3_eq m M1 rec1 h1];rfl)
abbrev H9_6 (m M6:Nat) (rec6:Int→Int→Int→Dt→Option Int):Prop:=∀x0 x1 x2 x3,l9 jn m w9_3 [] M6 (s9_8 x0 x1 x2 x3)=rec6 x0 x1 x2 x3
theorem ref14_Count_j8_eq m M6 rec6 (h6:H9_6 m M6 rec6) x0 x1 x2 x3:e9 jn m w9_4 [M6] (s9_8 x0 x1 x2 x3)=ref14_Count_j8 m (ref14_Count m) rec6 x0 x1 x2 x3:=
 tre (g:=fun J=>(jj J 1 7 M6 (s9_8 x0 x1 (IntKind.wrap .i64 (x2+1)) x3) (l9 J m w9_3 [] M6))) (fun J=>by kernel_rfl) (by simp only[jj_eq,h6];rfl)
theorem ref14_Count_j7_eq m M6 rec6 (h6:H9_6 m M6 rec6) x0 x1 x2 x3:e9 jn m w9_5 [M6] (s9_8 x0 x1 x2 x3)=ref14_Count_j7 m (ref14_Count m) rec6 x0 x1 x2 x3:=
 tre (g:=fun J=>((idx (Dt.L x3 11) x2).bind fun v2=>
  ((ref14_Count m v2 (IntKind.wrap .i64 (x0-x1))).bind fun r3=>
  (jj J 0 8 0 (s9_8 x0 (IntKind.wrap .i64 (x1+r3)) x2 x3) (e9 J m w9_4 [M6]))))) (fun J=>by kernel_rfl) (by simp only[jj_eq,ref14_Count_j8_eq m M6 rec6 h6];rfl)
theorem ref14_Count_j9_eq m x0:e9 jn m [1,1,1,1] [] (s9_9 x0)=ref14_Count_j9 m (ref14_Count m) x0:=
 tre (g:=fun J=>some x0) (fun J=>by kernel_rfl) (by rfl)
theorem ref14_Count_l6_eq m:∀M6 x0 x1 x2 x3,l9 jn m w9_3 [] M6 (s9_8 x0 x1 x2 x3)=ref14_Count_l6 m (ref14_Count m) M6 x0 x1 x2 x3
 |0,_,_,_,_=>rfl
 | M6+1,x0,x1,x2,x3=>
   trl (g:=fun J=>(bif (decide (x2<(List.length (Dt.L x3 11):Int))) then
  (bif (decide (x1<x0)) then
  (jj J 0 9 0 (s9_8 x0 x1 x2 x3) (e9 J m w9_5 [M6]))
  else
  (jj J 0 10 0 (s9_9 x1) (e9 J m [1,1,1,1] [])))
   else
  (jj J 0 10 0 (s9_9 x1) (e9 J m [1,1,1,1] [])))) (fun J=>by kernel_rfl) (by simp only[jj_eq,ref14_Count_j7_eq m M6 (ref14_Count_l6 m (ref14_Count m) M6) (ref14_Count_l6_eq m M6),ref14_Count_j9_eq m];rfl)
theorem ref14_Count_j5_eq m x0 x1 x2 x3:e9 jn m w9_6 [] (s9_8 x0 x1 x2 x3)=ref14_Count_j5 m (ref14_Count m) x0 x1 x2 x3:=
 tre (g:=fun J=>(jj J 1 7 (Nat.succ m) (s9_8 x0 x1 x2 x3) (l9 J m w9_3 [] (Nat.succ m)))) (fun J=>by kernel_rfl) (by simp only[jj_eq,ref14_Count_l6_eq m];rfl)
theorem ref14_Count_j4_eq m x0 x1 x2:e9 jn m [1,1,1] [] (s9_4 x0 x1 x2)=ref14_Count_j4 m (ref14_Count m) x0 x1 x2:=
 tre (g:=fun J=>(jj J 0 7 0 (s9_8 x0 x1 0 x2) (e9 J m w9_6 []))) (fun J=>by kernel_rfl) (by simp only[jj_eq,ref14_Count_j5_eq m];rfl)
theorem ref14_Count_l1_eq m:∀M1 x0 x1 x2 x3,l9 jn m w9_0 [] M1 (s9_3 x0 x1 x2 x3)=ref14_Count_l1 m (ref14_Count m) M1 x0 x1 x2 x3
 |0,_,_,_,_=>rfl
 | M1+1,x0,x1,x2,x3=>
   trl (g:=fun J=>(bif (decide (x2<(List.length (Dt.L x3 9):Int))) then
  (bif (decide (x1<x0)) then
  (jj J 0 5 0 (s9_3 x0 x1 x2 x3) (e9 J m w9_2 [M1]))
  else
  (jj J 0 6 0 (s9_4 x0 x1 x3) (e9 J m [1,1,1] [])))
   else
  (jj J 0 6 0 (s9_4 x0 x1 x3) (e9 J m [1,1,1] [])))) (fun J=>by kernel_rfl) (by simp only[jj_eq,ref14_Count_j2_eq m M1 (ref14_Count_l1 m (ref14_Count m) M1) (ref14_Count_l1_eq m M1),ref14_Count_j4_eq m];rfl)
theorem ref14_Count_j0_eq m x0 x1 x2 x3:e9 jn m [1,1,0,1] [] (s9_3 x0 x1 x2 x3)=ref14_Count_j0 m (ref14_Count m) x0 x1 x2 x3:=
 tre (g:=fun J=>(jj J 1 3 (Nat.succ m) (s9_3 x0 x1 x2 x3) (l9 J m w9_0 [] (Nat.succ m)))) (fun J=>by kernel_rfl) (by simp only[jj_eq,ref14_Count_l1_eq m];rfl)
theorem ref14_Count_eq m a0 a1:e9 jn m [] [] ⟨[(.dat 32 a0),(.dat 3 (.int a1))],[],0⟩=ref14_Count (m+1) a0 a1:=
 tre (g:=fun J=>(jj J 0 3 0 (s9_3 a1 1 0 a0) (e9 J m [1,1,0,1] []))) (fun J=>by kernel_rfl) (by simp only[jj_eq,ref14_Count_j0_eq m];rfl)
noncomputable def e13 (J:Nat→Nat→Nat→St→Option Bool→Option Bool) (m:Nat) (p ms:List Nat) (σ:St):=evAt Tryz.prog env (ct m) J (m+1) 48 22 Tryz.f48 d13 p ms σ
noncomputable def l13 (J:Nat→Nat→Nat→St→Option Bool→Option Bool) (m:Nat) (p ms:List Nat) (M:Nat) (σ:St):=loopAt Tryz.prog env (ct m) J (m+1) 48 22 Tryz.f48 d13 p ms M σ
theorem schema_hasKind_eq m a0 a1:e13 jn m [] [] ⟨[(.dat 3 (.int a0)),(.dat 3 (.int a1))],[],0⟩=schema_hasKind (m+1) a0 a1:=
 tre (g:=fun J=>(bif (a0==0) then
  some true
   else
  (bif (decide (0≤a1)) then
  (bif (decide (a1≤11)) then
  (bif (decide (0≤a1)) then
  some ((andI IntKind.i64 (shrI IntKind.i64 a0 a1) 1)==1)
  else
  none)
  else
  some false)
  else
  some false))) (fun J=>by kernel_rfl) (by rfl)
def w15_0:List Nat:=[1,1,0,1,0]
def w15_6:List Nat:=[1,1,1,1,1]
def w15_7:List Nat:=[1,1,1,1,0,1]
def w15_3:List Nat:=w15_7++[0]
def w15_2:List Nat:=[1,1,0,1,0,0,1,1]
def w15_1:List Nat:=w15_2++[1]
def w15_5:List Nat:=w15_3++[0,1,1]
def w15_4:List Nat:=w15_5++[1]
noncomputable def e15 (J:Nat→Nat→Nat→St→Option (List Dt)→Option (List Dt)) (m:Nat) (p ms:List Nat) (σ:St):=evAt Tryz.prog env (ct m) J (m+1) 45 36 Tryz.f45 d15 p ms σ
noncomputable def l15 (J:Nat→Nat→Nat→St→Option (List Dt)→Option (List Dt)) (m:Nat) (p ms:List Nat) (M:Nat) (σ:St):=loopAt Tryz.prog env (ct m) J (m+1) 45 36 Tryz.f45 d15 p ms M σ
noncomputable def s15_3 (x0:List Dt) (x1:Int) (x2:List Dt) (x3 x4:Int):St:=⟨tsOf [(0,(.dat 100 (.lst x0))),(3,(.dat 3 (.int x1))),(9,(.dat 100 (.lst x2))),(10,(.dat 3 (.int x3))),(11,(.dat 3 (.int x4)))],[],0⟩
noncomputable def s15_8 (x0:List Dt) (x1 x2:Int) (x3:List Dt):St:=⟨tsOf [(6,(.row 0)),(25,(.dat 100 (.lst x0))),(26,(.dat 3 (.int x1))),(27,(.dat 3 (.int x2)))],[(.row 28 x3)],0⟩
noncomputable def s15_9 (x0:List Dt):St:=⟨tsOf [(6,(.row 0))],[(.row 28 x0)],0⟩
noncomputable def s15_4 (x0:List Dt) (x1:Int):St:=⟨tsOf [(0,(.dat 100 (.lst x0))),(3,(.dat 3 (.int x1)))],[],0⟩
abbrev H15_1 (m M1:Nat) (rec1:List Dt→Int→List Dt→Int→Int→Option (List Dt)):Prop:=∀x0 x1 x2 x3 x4,l15 jn m w15_0 [] M1 (s15_3 x0 x1 x2 x3 x4)=rec1 x0 x1 x2 x3 x4
theorem slices_Concat_j3_eq m M1 rec1 (h1:H15_1 m M1 rec1) x0 x1 x2 x3 x4:e15 jn m w15_1 [M1] (s15_3 x0 x1 x2 x3 x4)=slices_Concat_j3 m rec1 x0 x1 x2 x3 x4:=
 tre (g:=fun J=>(jj J 1 3 M1 (s15_3 x0 x1 x2 x3 (IntKind.wrap .i64 (x4+1))) (l15 J m w15_0 [] M1))) (fun J=>by kernel_rfl) (by simp only[jj_eq,h1];rfl)
theorem slices_Concat_j2_eq m M1 rec1 (h1:H15_1 m M1 rec1) x0 x1 x2 x3 x4:e15 jn m w15_2 [M1] (s15_3 x0 x1 x2 x3 x4)=slices_Concat_j2 m rec1 x0 x1 x2 x3 x4:=
 tre (g:=fun J=>((idx x2 x4).bind fun v0=>
  (bif (decide ((IntKind.wrap .i64 (x1+(List.length (Dt.toLst v0):Int)))<0)) then
  none
  else
  (jj J 0 8 0 (s15_3 x0 (IntKind.wrap .i64 (x1+(List.length (Dt.toLst v0):Int))) x2 x3 x4) (e15 J m w15_1 [M1]))))) (fun J=>by kernel_rfl) (by simp only[jj_eq,slices_Concat_j3_eq m M1 rec1 h1];rfl)
abbrev H15_6 (m M6:Nat) (rec6:List Dt→Int→Int→List Dt→Option (List Dt)):Prop:=∀x0 x1 x2 x3,l15 jn m w15_3 [] M6 (s15_8 x0 x1 x2 x3)=rec6 x0 x1 x2 x3
theorem slices_Concat_j8_eq m M6 rec6 (h6:H15_6 m M6 rec6) x0 x1 x2 x3:e15 jn m w15_4 [M6] (s15_8 x0 x1 x2 x3)=slices_Concat_j8 m rec6 x0 x1 x2 x3:=
 tre (g:=fun J=>(jj J 1 11 M6 (s15_8 x0 x1 (IntKind.wrap .i64 (x2+1)) x3) (l15 J m w15_3 [] M6))) (fun J=>by kernel_rfl) (by simp only[jj_eq,h6];rfl)
theorem slices_Concat_j7_eq m M6 rec6 (h6:H15_6 m M6 rec6) x0 x1 x2 x3:e15 jn m w15_5 [M6] (s15_8 x0 x1 x2 x3)=slices_Concat_j7 m rec6 x0 x1 x2 x3:=
 tre (g:=fun J=>((idx x0 x2).bind fun v2=>
  ((app x3 (Dt.toLst v2)).bind fun v3=>
  (jj J 0 14 0 (s15_8 x0 x1 x2 v3) (e15 J m w15_4 [M6]))))) (fun J=>by kernel_rfl) (by simp only[jj_eq,slices_Concat_j8_eq m M6 rec6 h6];rfl)
theorem slices_Concat_j9_eq m x0:e15 jn m w15_6 [] (s15_9 x0)=slices_Concat_j9 m x0:=
 tre (g:=fun J=>some x0) (fun J=>by kernel_rfl) (by rfl)
theorem slices_Concat_l6_eq m:∀M6 x0 x1 x2 x3,l15 jn m w15_3 [] M6 (s15_8 x0 x1 x2 x3)=slices_Concat_l6 m M6 x0 x1 x2 x3
 |0,_,_,_,_=>rfl
 | M6+1,x0,x1,x2,x3=>
   trl (g:=fun J=>(bif (decide (x2<x1)) then
  (jj J 0 12 0 (s15_8 x0 x1 x2 x3) (e15 J m w15_5 [M6]))
   else
  (jj J 0 15 0 (s15_9 x3) (e15 J m w15_6 [])))) (fun J=>by kernel_rfl) (by simp only[jj_eq,slices_Concat_j7_eq m M6 (slices_Concat_l6 m M6) (slices_Concat_l6_eq m M6),slices_Concat_j9_eq m];rfl)
theorem slices_Concat_j5_eq m x0 x1 x2 x3:e15 jn m w15_7 [] (s15_8 x0 x1 x2 x3)=slices_Concat_j5 m x0 x1 x2 x3:=
 tre (g:=fun J=>(jj J 1 11 (Nat.succ m) (s15_8 x0 x1 x2 x3) (l15 J m w15_3 [] (Nat.succ m)))) (fun J=>by kernel_rfl) (by simp only[jj_eq,slices_Concat_l6_eq m];rfl)
theorem slices_Concat_j4_eq m x0 x1:e15 jn m [1,1,1] [] (s15_4 x0 x1)=slices_Concat_j4 m x0 x1:=
 tre (g:=fun J=>((slices_Grow x1).bind fun r1=>
  (jj J 0 11 0 (s15_8 x0 (List.length x0:Int) 0 r1) (e15 J m w15_7 [])))) (fun J=>by kernel_rfl) (by simp only[jj_eq,slices_Concat_j5_eq m];rfl)
theorem slices_Concat_l1_eq m:∀M1 x0 x1 x2 x3 x4,l15 jn m w15_0 [] M1 (s15_3 x0 x1 x2 x3 x4)=slices_Concat_l1 m M1 x0 x1 x2 x3 x4
 |0,_,_,_,_,_=>rfl
 | M1+1,x0,x1,x2,x3,x4=>
   trl (g:=fun J=>(bif (decide (x4<x3)) then
  (jj J 0 4 0 (s15_3 x0 x1 x2 x3 x4) (e15 J m w15_2 [M1]))
   else
  (jj J 0 9 0 (s15_4 x0 x1) (e15 J m [1,1,1] [])))) (fun J=>by kernel_rfl) (by simp only[jj_eq,slices_Concat_j2_eq m M1 (slices_Concat_l1 m M1) (slices_Concat_l1_eq m M1),slices_Concat_j4_eq m];rfl)
theorem slices_Concat_j0_eq m x0 x1 x2 x3 x4:e15 jn m [1,1,0,1] [] (s15_3 x0 x1 x2 x3 x4)=slices_Concat_j0 m x0 x1 x2 x3 x4:=
 tre (g:=fun J=>(jj J 1 3 (Nat.succ m) (s15_3 x0 x1 x2 x3 x4) (l15 J m w15_0 [] (Nat.succ m)))) (fun J=>by kernel_rfl) (by simp only[jj_eq,slices_Concat_l1_eq m];rfl)
theorem slices_Concat_eq m a0:e15 jn m [] [] ⟨[(.dat 100 (.lst a0))],[],0⟩=slices_Concat (m+1) a0:=
 tre (g:=fun J=>(jj J 0 3 0 (s15_3 a0 0 a0 (List.length a0:Int) 0) (e15 J m [1,1,0,1] []))) (fun J=>by kernel_rfl) (by simp only[jj_eq,slices_Concat_j0_eq m];rfl)
noncomputable def e14 (J:Nat→Nat→Nat→St→Option (List Dt×List Dt)→Option (List Dt×List Dt)) (m:Nat) (p ms:List Nat) (σ:St):=evAt Tryz.prog env (ct m) J (m+1) 44 18 Tryz.f44 d14 p ms σ
noncomputable def l14 (J:Nat→Nat→Nat→St→Option (List Dt×List Dt)→Option (List Dt×List Dt)) (m:Nat) (p ms:List Nat) (M:Nat) (σ:St):=loopAt Tryz.prog env (ct m) J (m+1) 44 18 Tryz.f44 d14 p ms M σ
theorem i14_eq m a0 a1 a2 a3 a4:e14 jn m [] [] ⟨[(.dat 4 (.bool a0)),(.dat 3 (.int a1)),(.dat 28 (.lst a2)),(.ptr 0 [] 0),(.ptr 2 [] 0)],[(.box 40 (.row 1)),(.row 40 a3),(.box 28 (.dat 28 (.lst a4)))],3⟩=i14 (m+1) a0 a1 a2 a3 a4:=
 tre (g:=fun J=>(bif a0 then
  ((slices_Concat m [(Dt.lst a4),(Dt.lst a2)]).bind fun r0=>
  ((app a3 [(Dt.agg [(Dt.lst r0),(Dt.int a1)])]).bind fun v1=>
  some (a4,v1)))
   else
  some (a4,a3))) (fun J=>by kernel_rfl) (by rfl)
def w21_0:List Nat:=[1,0,1,0,1]
noncomputable def e21 (J:Nat→Nat→Nat→St→Option (Int×Bool)→Option (Int×Bool)) (m:Nat) (p ms:List Nat) (σ:St):=evAt Tryz.prog env (ct m) J (m+1) 51 17 Tryz.f51 d21 p ms σ
noncomputable def l21 (J:Nat→Nat→Nat→St→Option (Int×Bool)→Option (Int×Bool)) (m:Nat) (p ms:List Nat) (M:Nat) (σ:St):=loopAt Tryz.prog env (ct m) J (m+1) 51 17 Tryz.f51 d21 p ms M σ
noncomputable def s21_1:St:=⟨tsOf [],[],0⟩
noncomputable def s21_0 (x0:Int) (x1:Bool) (x2:Dt):St:=⟨tsOf [(1,(.ptr 0 [] 0)),(5,(.dat 3 (.int x0))),(6,(.dat 4 (.bool x1)))],[(.box 25 (.dat 25 x2))],0⟩
theorem schema_length_j1_eq m:e21 jn m [1,1] [] s21_1=schema_length_j1 m:=
 tre (g:=fun J=>some (0,false)) (fun J=>by kernel_rfl) (by rfl)
theorem schema_length_j0_eq m x0 x1 x2:e21 jn m w21_0 [] (s21_0 x0 x1 x2)=schema_length_j0 m x0 x1 x2:=
 tre (g:=fun J=>(bif x1 then
  some ((ByteArray.size (Dt.S x2 2):Int),true)
   else
  (bif (x0==6) then
  some ((List.length (Dt.L x2 3):Int),true)
  else
  (jj J 0 7 0 s21_1 (e21 J m [1,1] []))))) (fun J=>by kernel_rfl) (by simp only[jj_eq,schema_length_j1_eq m];rfl)
theorem schema_length_eq m a0:e21 jn m [] [] ⟨[(.dat 25 a0)],[],0⟩=schema_length (m+1) a0:=
 tre (g:=fun J=>(bif ((Dt.I a0 0)==4) then
  (jj J 0 4 0 (s21_0 (Dt.I a0 0) ((Dt.I a0 0)==4) a0) (e21 J m w21_0 []))
   else
  (jj J 0 4 0 (s21_0 (Dt.I a0 0) ((Dt.I a0 0)==7) a0) (e21 J m w21_0 [])))) (fun J=>by kernel_rfl) (by simp only[jj_eq,schema_length_j0_eq m];rfl)
def w22_1:List Nat:=[1,0,1,0,0,1,1]
def w22_0:List Nat:=w22_1++[1]
noncomputable def e22 (J:Nat→Nat→Nat→St→Option (Dt×Bool)→Option (Dt×Bool)) (m:Nat) (p ms:List Nat) (σ:St):=evAt Tryz.prog env (ct m) J (m+1) 52 23 Tryz.f52 d22 p ms σ
noncomputable def l22 (J:Nat→Nat→Nat→St→Option (Dt×Bool)→Option (Dt×Bool)) (m:Nat) (p ms:List Nat) (M:Nat) (σ:St):=loopAt Tryz.prog env (ct m) J (m+1) 52 23 Tryz.f52 d22 p ms M σ
noncomputable def s22_3 (x0:ByteArray) (x1:List Dt) (x2 x3:Int) (x4:Dt):St:=⟨tsOf [(1,(.dat 9 (.str x0))),(4,(.ptr 0 [] 0)),(9,(.dat 23 (.lst x1))),(10,(.dat 3 (.int x2))),(11,(.dat 3 (.int x3)))],[(.box 25 (.dat 25 x4))],0⟩
noncomputable def s22_4 (x0:Dt):St:=⟨tsOf [(4,(.ptr 0 [] 0))],[(.box 25 (.dat 25 x0))],0⟩
abbrev H22_1 (m M1:Nat) (rec1:ByteArray→List Dt→Int→Int→Dt→Option (Dt×Bool)):Prop:=∀x0 x1 x2 x3 x4,l22 jn m [1,0,1,0] [] M1 (s22_3 x0 x1 x2 x3 x4)=rec1 x0 x1 x2 x3 x4
theorem schema_field_j3_eq m M1 rec1 (h1:H22_1 m M1 rec1) x0 x1 x2 x3 x4:e22 jn m w22_0 [M1] (s22_3 x0 x1 x2 x3 x4)=schema_field_j3 m rec1 x0 x1 x2 x3 x4:=
 tre (g:=fun J=>(jj J 1 2 M1 (s22_3 x0 x1 x2 (IntKind.wrap .i64 (x3+1)) x4) (l22 J m [1,0,1,0] [] M1))) (fun J=>by kernel_rfl) (by simp only[jj_eq,h1];rfl)
theorem schema_field_j2_eq m M1 rec1 (h1:H22_1 m M1 rec1) x0 x1 x2 x3 x4:e22 jn m w22_1 [M1] (s22_3 x0 x1 x2 x3 x4)=schema_field_j2 m rec1 x0 x1 x2 x3 x4:=
 tre (g:=fun J=>((idx x1 x3).bind fun v0=>
  (bif ((ByteArray.toList (Dt.S v0 0))==(ByteArray.toList x0)) then
  some ((Dt.fld v0 1),true)
  else
  (jj J 0 6 0 (s22_3 x0 x1 x2 x3 x4) (e22 J m w22_0 [M1]))))) (fun J=>by kernel_rfl) (by simp only[jj_eq,schema_field_j3_eq m M1 rec1 h1];rfl)
theorem schema_field_j4_eq m x0:e22 jn m [1,1] [] (s22_4 x0)=schema_field_j4 m x0:=
 tre (g:=fun J=>some (kza2373,false)) (fun J=>by kernel_rfl) (by rfl)
theorem schema_field_l1_eq m:∀M1 x0 x1 x2 x3 x4,l22 jn m [1,0,1,0] [] M1 (s22_3 x0 x1 x2 x3 x4)=schema_field_l1 m M1 x0 x1 x2 x3 x4
 |0,_,_,_,_,_=>rfl
 | M1+1,x0,x1,x2,x3,x4=>
   trl (g:=fun J=>(bif (decide (x3<x2)) then
  (jj J 0 3 0 (s22_3 x0 x1 x2 x3 x4) (e22 J m w22_1 [M1]))
   else
  (jj J 0 7 0 (s22_4 x4) (e22 J m [1,1] [])))) (fun J=>by kernel_rfl) (by simp only[jj_eq,schema_field_j2_eq m M1 (schema_field_l1 m M1) (schema_field_l1_eq m M1),schema_field_j4_eq m];rfl)
theorem schema_field_j0_eq m x0 x1 x2 x3 x4:e22 jn m [1,0,1] [] (s22_3 x0 x1 x2 x3 x4)=schema_field_j0 m x0 x1 x2 x3 x4:=
 tre (g:=fun J=>(jj J 1 2 (Nat.succ m) (s22_3 x0 x1 x2 x3 x4) (l22 J m [1,0,1,0] [] (Nat.succ m)))) (fun J=>by kernel_rfl) (by simp only[jj_eq,schema_field_l1_eq m];rfl)
theorem schema_field_eq m a0 a1:e22 jn m [] [] ⟨[(.dat 25 a0),(.dat 9 (.str a1))],[],0⟩=schema_field (m+1) a0 a1:=
 tre (g:=fun J=>(jj J 0 2 0 (s22_3 a1 (Dt.L a0 4) (List.length (Dt.L a0 4):Int) 0 kza2373) (e22 J m [1,0,1] []))) (fun J=>by kernel_rfl) (by simp only[jj_eq,schema_field_j0_eq m];rfl)
noncomputable def e25 (J:Nat→Nat→Nat→St→Option Bool→Option Bool) (m:Nat) (p ms:List Nat) (σ:St):=evAt Tryz.prog env (ct m) J (m+1) 53 9 Tryz.f53 d13 p ms σ
noncomputable def l25 (J:Nat→Nat→Nat→St→Option Bool→Option Bool) (m:Nat) (p ms:List Nat) (M:Nat) (σ:St):=loopAt Tryz.prog env (ct m) J (m+1) 53 9 Tryz.f53 d13 p ms M σ
theorem i25_eq m a0 a1:e25 jn m [] [] ⟨[(.dat 64 a0),(.rptr 53 a1)],[],0⟩=i25 (m+1) a0 a1:=
 tre (g:=fun J=>some ((ByteArray.toList (Dt.S a0 0))==(ByteArray.toList (Dt.S a1 0)))) (fun J=>by kernel_rfl) (by rfl)
def w24_1:List Nat:=[1,0,1,0,0,1,1]
def w24_0:List Nat:=w24_1++[1]
noncomputable def e24 (J:Nat→Nat→Nat→St→Option Int→Option Int) (m:Nat) (p ms:List Nat) (σ:St):=evAt Tryz.prog env (ct m) J (m+1) 82 19 Tryz.f82 d9 p ms σ
noncomputable def l24 (J:Nat→Nat→Nat→St→Option Int→Option Int) (m:Nat) (p ms:List Nat) (M:Nat) (σ:St):=loopAt Tryz.prog env (ct m) J (m+1) 82 19 Tryz.f82 d9 p ms M σ
noncomputable def s24_3 (x0:List Dt) (x1:Dt) (x2 x3:Int):St:=⟨tsOf [(0,(.dat 29 (.lst x0))),(1,(.fn 53 [(.rptr 53 x1)])),(7,(.dat 3 (.int x2))),(8,(.dat 3 (.int x3)))],[],0⟩
noncomputable def s24_4:St:=⟨tsOf [],[],0⟩
abbrev H24_1 (m M1:Nat) (rec1:List Dt→Dt→Int→Int→Option Int):Prop:=∀x0 x1 x2 x3,l24 jn m [1,0,1,0] [] M1 (s24_3 x0 x1 x2 x3)=rec1 x0 x1 x2 x3
theorem i24_j3_eq m M1 rec1 (h1:H24_1 m M1 rec1) x0 x1 x2 x3:e24 jn m w24_0 [M1] (s24_3 x0 x1 x2 x3)=i24_j3 m rec1 x0 x1 x2 x3:=
 tre (g:=fun J=>(jj J 1 2 M1 (s24_3 x0 x1 x2 (IntKind.wrap .i64 (x3+1))) (l24 J m [1,0,1,0] [] M1))) (fun J=>by kernel_rfl) (by simp only[jj_eq,h1];rfl)
theorem i24_j2_eq m M1 rec1 (h1:H24_1 m M1 rec1) x0 x1 x2 x3:e24 jn m w24_1 [M1] (s24_3 x0 x1 x2 x3)=i24_j2 m rec1 x0 x1 x2 x3:=
 tre (g:=fun J=>((idx x0 x3).bind fun v0=>
  ((i25 m v0 x1).bind fun r1=>
  (bif r1 then
  some x3
  else
  (jj J 0 6 0 (s24_3 x0 x1 x2 x3) (e24 J m w24_0 [M1])))))) (fun J=>by kernel_rfl) (by simp only[jj_eq,i24_j3_eq m M1 rec1 h1];rfl)
theorem i24_j4_eq m:e24 jn m [1,1] [] s24_4=i24_j4 m:=
 tre (g:=fun J=>some (-1)) (fun J=>by kernel_rfl) (by rfl)
theorem i24_l1_eq m:∀M1 x0 x1 x2 x3,l24 jn m [1,0,1,0] [] M1 (s24_3 x0 x1 x2 x3)=i24_l1 m M1 x0 x1 x2 x3
 |0,_,_,_,_=>rfl
 | M1+1,x0,x1,x2,x3=>
   trl (g:=fun J=>(bif (decide (x3<x2)) then
  (jj J 0 3 0 (s24_3 x0 x1 x2 x3) (e24 J m w24_1 [M1]))
   else
  (jj J 0 7 0 s24_4 (e24 J m [1,1] [])))) (fun J=>by kernel_rfl) (by simp only[jj_eq,i24_j2_eq m M1 (i24_l1 m M1) (i24_l1_eq m M1),i24_j4_eq m];rfl)
theorem i24_j0_eq m x0 x1 x2 x3:e24 jn m [1,0,1] [] (s24_3 x0 x1 x2 x3)=i24_j0 m x0 x1 x2 x3:=
 tre (g:=fun J=>(jj J 1 2 (Nat.succ m) (s24_3 x0 x1 x2 x3) (l24 J m [1,0,1,0] [] (Nat.succ m)))) (fun J=>by kernel_rfl) (by simp only[jj_eq,i24_l1_eq m];rfl)
theorem i24_eq m a0 a1:e24 jn m [] [] ⟨[(.dat 29 (.lst a0)),(.fn 53 [(.rptr 53 a1)])],[],0⟩=i24 (m+1) a0 a1:=
 tre (g:=fun J=>(jj J 0 2 0 (s24_3 a0 a1 (List.length a0:Int) 0) (e24 J m [1,0,1] []))) (fun J=>by kernel_rfl) (by simp only[jj_eq,i24_j0_eq m];rfl)
noncomputable def e23 (J:Nat→Nat→Nat→St→Option Bool→Option Bool) (m:Nat) (p ms:List Nat) (σ:St):=evAt Tryz.prog env (ct m) J (m+1) 54 9 Tryz.f54 d13 p ms σ
noncomputable def l23 (J:Nat→Nat→Nat→St→Option Bool→Option Bool) (m:Nat) (p ms:List Nat) (M:Nat) (σ:St):=loopAt Tryz.prog env (ct m) J (m+1) 54 9 Tryz.f54 d13 p ms M σ
theorem i23_eq m a0 a1:e23 jn m [] [] ⟨[(.dat 29 (.lst a0)),(.fn 53 [(.rptr 53 a1)])],[],0⟩=i23 (m+1) a0 a1:=
 tre (g:=fun J=>((i24 m a0 a1).bind fun r0=>
  some (decide (0≤r0)))) (fun J=>by kernel_rfl) (by rfl)
def w31_7:List Nat:=[1,1,1,1,1]
def w31_9:List Nat:=[1,1,1,0,1]
def w31_0:List Nat:=[1,1,1,0,1,0]
def w31_8:List Nat:=[1,1,1,1,0,1]
def w31_3:List Nat:=w31_8++[0]
def w31_2:List Nat:=w31_0++[0,1]
def w31_1:List Nat:=w31_2++[1]
def w31_6:List Nat:=w31_3++[0,1]
def w31_4:List Nat:=w31_6++[1]
def w31_5:List Nat:=w31_6++[0,0,1]
noncomputable def e31 (J:Nat→Nat→Nat→St→Option Int→Option Int) (m:Nat) (p ms:List Nat) (σ:St):=evAt Tryz.prog env (ct m) J (m+1) 17 69 Tryz.f17 d9 p ms σ
noncomputable def l31 (J:Nat→Nat→Nat→St→Option Int→Option Int) (m:Nat) (p ms:List Nat) (M:Nat) (σ:St):=loopAt Tryz.prog env (ct m) J (m+1) 17 69 Tryz.f17 d9 p ms M σ
noncomputable def s31_5 (x0 x1 x2:Int) (x3:Dt):St:=⟨tsOf [(1,(.dat 3 (.int x0))),(2,(.dat 3 (.int x1))),(3,(.ptr 0 [] 0)),(7,(.dat 3 (.int x2)))],[(.box 25 (.dat 25 x3))],0⟩
noncomputable def s31_11 (x0 x1 x2:Int) (x3:Dt):St:=⟨tsOf [(1,(.dat 3 (.int x0))),(2,(.dat 3 (.int x1))),(3,(.ptr 0 [] 0)),(8,(.dat 3 (.int x2)))],[(.box 25 (.dat 25 x3))],0⟩
noncomputable def s31_12 (x0:Int):St:=⟨tsOf [(2,(.dat 3 (.int x0)))],[],0⟩
noncomputable def s31_6 (x0 x1:Int) (x2:Dt):St:=⟨tsOf [(1,(.dat 3 (.int x0))),(2,(.dat 3 (.int x1))),(3,(.ptr 0 [] 0))],[(.box 25 (.dat 25 x2))],0⟩
noncomputable def s31_0 (x0 x1:Int) (x2:Bool) (x3:Dt):St:=⟨tsOf [(1,(.dat 3 (.int x0))),(2,(.dat 3 (.int x1))),(3,(.ptr 0 [] 0)),(18,(.dat 4 (.bool x2)))],[(.box 25 (.dat 25 x3))],0⟩
abbrev H31_3 (m M3:Nat) (rec3:Int→Int→Int→Dt→Option Int):Prop:=∀x0 x1 x2 x3,l31 jn m w31_0 [] M3 (s31_5 x0 x1 x2 x3)=rec3 x0 x1 x2 x3
theorem ref02_count_j5_eq m M3 rec3 (h3:H31_3 m M3 rec3) x0 x1 x2 x3:e31 jn m w31_1 [M3] (s31_5 x0 x1 x2 x3)=ref02_count_j5 m (ref02_count m) rec3 x0 x1 x2 x3:=
 tre (g:=fun J=>(jj J 1 5 M3 (s31_5 x0 x1 (IntKind.wrap .i64 (x2+1)) x3) (l31 J m w31_0 [] M3))) (fun J=>by kernel_rfl) (by simp only[jj_eq,h3];rfl)
theorem ref02_count_j4_eq m M3 rec3 (h3:H31_3 m M3 rec3) x0 x1 x2 x3:e31 jn m w31_2 [M3] (s31_5 x0 x1 x2 x3)=ref02_count_j4 m (ref02_count m) rec3 x0 x1 x2 x3:=
 tre (g:=fun J=>((idx (Dt.L x3 3) x2).bind fun v0=>
  ((ref02_count m v0 (IntKind.wrap .i64 (x0+1)) x1).bind fun r1=>
  (jj J 0 6 0 (s31_5 x0 r1 x2 x3) (e31 J m w31_1 [M3]))))) (fun J=>by kernel_rfl) (by simp only[jj_eq,ref02_count_j5_eq m M3 rec3 h3];rfl)
abbrev H31_8 (m M8:Nat) (rec8:Int→Int→Int→Dt→Option Int):Prop:=∀x0 x1 x2 x3,l31 jn m w31_3 [] M8 (s31_11 x0 x1 x2 x3)=rec8 x0 x1 x2 x3
theorem ref02_count_j11_eq m M8 rec8 (h8:H31_8 m M8 rec8) x0 x1 x2 x3:e31 jn m w31_4 [M8] (s31_11 x0 x1 x2 x3)=ref02_count_j11 m (ref02_count m) rec8 x0 x1 x2 x3:=
 tre (g:=fun J=>(jj J 1 9 M8 (s31_11 x0 x1 (IntKind.wrap .i64 (x2+1)) x3) (l31 J m w31_3 [] M8))) (fun J=>by kernel_rfl) (by simp only[jj_eq,h8];rfl)
theorem ref02_count_j10_eq m M8 rec8 (h8:H31_8 m M8 rec8) x0 x1 x2 x3:e31 jn m w31_5 [M8] (s31_11 x0 x1 x2 x3)=ref02_count_j10 m (ref02_count m) rec8 x0 x1 x2 x3:=
 tre (g:=fun J=>((idx (Dt.L x3 4) x2).bind fun v3=>
  ((ref02_count m (Dt.fld v3 1) (IntKind.wrap .i64 (x0+1)) x1).bind fun r4=>
  (jj J 0 10 0 (s31_11 x0 r4 x2 x3) (e31 J m w31_4 [M8]))))) (fun J=>by kernel_rfl) (by simp only[jj_eq,ref02_count_j11_eq m M8 rec8 h8];rfl)
theorem ref02_count_j9_eq m M8 rec8 (h8:H31_8 m M8 rec8) x0 x1 x2 x3:e31 jn m w31_6 [M8] (s31_11 x0 x1 x2 x3)=ref02_count_j9 m (ref02_count m) rec8 x0 x1 x2 x3:=
 tre (g:=fun J=>((idx (Dt.L x3 4) x2).bind fun v2=>
  (bif (decide (200<(ByteArray.size (Dt.S v2 0):Int))) then
  some (-1)
  else
  (jj J 0 13 0 (s31_11 x0 x1 x2 x3) (e31 J m w31_5 [M8]))))) (fun J=>by kernel_rfl) (by simp only[jj_eq,ref02_count_j10_eq m M8 rec8 h8];rfl)
theorem ref02_count_j12_eq m x0:e31 jn m w31_7 [] (s31_12 x0)=ref02_count_j12 m (ref02_count m) x0:=
 tre (g:=fun J=>some x0) (fun J=>by kernel_rfl) (by rfl)
theorem ref02_count_l8_eq m:∀M8 x0 x1 x2 x3,l31 jn m w31_3 [] M8 (s31_11 x0 x1 x2 x3)=ref02_count_l8 m (ref02_count m) M8 x0 x1 x2 x3
 |0,_,_,_,_=>rfl
 | M8+1,x0,x1,x2,x3=>
   trl (g:=fun J=>(bif (decide (x2<(List.length (Dt.L x3 4):Int))) then
  (bif (decide (0≤x1)) then
  (jj J 0 11 0 (s31_11 x0 x1 x2 x3) (e31 J m w31_6 [M8]))
  else
  (jj J 0 14 0 (s31_12 x1) (e31 J m w31_7 [])))
   else
  (jj J 0 14 0 (s31_12 x1) (e31 J m w31_7 [])))) (fun J=>by kernel_rfl) (by simp only[jj_eq,ref02_count_j9_eq m M8 (ref02_count_l8 m (ref02_count m) M8) (ref02_count_l8_eq m M8),ref02_count_j12_eq m];rfl)
theorem ref02_count_j7_eq m x0 x1 x2 x3:e31 jn m w31_8 [] (s31_11 x0 x1 x2 x3)=ref02_count_j7 m (ref02_count m) x0 x1 x2 x3:=
 tre (g:=fun J=>(jj J 1 9 (Nat.succ m) (s31_11 x0 x1 x2 x3) (l31 J m w31_3 [] (Nat.succ m)))) (fun J=>by kernel_rfl) (by simp only[jj_eq,ref02_count_l8_eq m];rfl)
theorem ref02_count_j6_eq m x0 x1 x2:e31 jn m [1,1,1,1] [] (s31_6 x0 x1 x2)=ref02_count_j6 m (ref02_count m) x0 x1 x2:=
 tre (g:=fun J=>(jj J 0 9 0 (s31_11 x0 x1 0 x2) (e31 J m w31_8 []))) (fun J=>by kernel_rfl) (by simp only[jj_eq,ref02_count_j7_eq m];rfl)
theorem ref02_count_l3_eq m:∀M3 x0 x1 x2 x3,l31 jn m w31_0 [] M3 (s31_5 x0 x1 x2 x3)=ref02_count_l3 m (ref02_count m) M3 x0 x1 x2 x3
 |0,_,_,_,_=>rfl
 | M3+1,x0,x1,x2,x3=>
   trl (g:=fun J=>(bif (decide (x2<(List.length (Dt.L x3 3):Int))) then
  (bif (decide (0≤x1)) then
  (jj J 0 7 0 (s31_5 x0 x1 x2 x3) (e31 J m w31_2 [M3]))
  else
  (jj J 0 8 0 (s31_6 x0 x1 x3) (e31 J m [1,1,1,1] [])))
   else
  (jj J 0 8 0 (s31_6 x0 x1 x3) (e31 J m [1,1,1,1] [])))) (fun J=>by kernel_rfl) (by simp only[jj_eq,ref02_count_j4_eq m M3 (ref02_count_l3 m (ref02_count m) M3) (ref02_count_l3_eq m M3),ref02_count_j6_eq m];rfl)
theorem ref02_count_j2_eq m x0 x1 x2 x3:e31 jn m w31_9 [] (s31_5 x0 x1 x2 x3)=ref02_count_j2 m (ref02_count m) x0 x1 x2 x3:=
 tre (g:=fun J=>(jj J 1 5 (Nat.succ m) (s31_5 x0 x1 x2 x3) (l31 J m w31_0 [] (Nat.succ m)))) (fun J=>by kernel_rfl) (by simp only[jj_eq,ref02_count_l3_eq m];rfl)
theorem ref02_count_j1_eq m x0 x1 x2:e31 jn m [1,1,1] [] (s31_6 x0 x1 x2)=ref02_count_j1 m (ref02_count m) x0 x1 x2:=
 tre (g:=fun J=>(jj J 0 5 0 (s31_5 x0 x1 0 x2) (e31 J m w31_9 []))) (fun J=>by kernel_rfl) (by simp only[jj_eq,ref02_count_j2_eq m];rfl)
theorem ref02_count_j0_eq m x0 x1 x2 x3:e31 jn m [1,1,0,1] [] (s31_0 x0 x1 x2 x3)=ref02_count_j0 m (ref02_count m) x0 x1 x2 x3:=
 tre (g:=fun J=>(bif x2 then
  some (-1)
   else
  (jj J 0 4 0 (s31_6 x0 x1 x3) (e31 J m [1,1,1] [])))) (fun J=>by kernel_rfl) (by simp only[jj_eq,ref02_count_j1_eq m];rfl)
theorem ref02_count_eq m a0 a1 a2:e31 jn m [] [] ⟨[(.dat 25 a0),(.dat 3 (.int a1)),(.dat 3 (.int a2))],[],0⟩=ref02_count (m+1) a0 a1 a2:=
 tre (g:=fun J=>(bif (decide (40<a1)) then
  (jj J 0 3 0 (s31_0 a1 (IntKind.wrap .i64 (a2-1)) true a0) (e31 J m [1,1,0,1] []))
   else
  (jj J 0 3 0 (s31_0 a1 (IntKind.wrap .i64 (a2-1)) (decide (5000<(ByteArray.size (Dt.S a0 2):Int))) a0) (e31 J m [1,1,0,1] [])))) (fun J=>by kernel_rfl) (by simp only[jj_eq,ref02_count_j0_eq m];rfl)
noncomputable def e10 (J:Nat→Nat→Nat→St→Option Bool→Option Bool) (m:Nat) (p ms:List Nat) (σ:St):=evAt Tryz.prog env (ct m) J (m+1) 6 9 Tryz.f6 d13 p ms σ
noncomputable def l10 (J:Nat→Nat→Nat→St→Option Bool→Option Bool) (m:Nat) (p ms:List Nat) (M:Nat) (σ:St):=loopAt Tryz.prog env (ct m) J (m+1) 6 9 Tryz.f6 d13 p ms M σ
theorem ref02_Few_eq m a0 a1:e10 jn m [] [] ⟨[(.dat 25 a0),(.dat 3 (.int a1))],[],0⟩=ref02_Few (m+1) a0 a1:=
 tre (g:=fun J=>((ref02_count m a0 1 a1).bind fun r0=>
  some (decide (0≤r0)))) (fun J=>by kernel_rfl) (by rfl)
noncomputable def e2 (J:Nat→Nat→Nat→St→Option Bool→Option Bool) (m:Nat) (p ms:List Nat) (σ:St):=evAt Tryz.prog env (ct m) J (m+1) 11 12 Tryz.f11 d13 p ms σ
noncomputable def l2 (J:Nat→Nat→Nat→St→Option Bool→Option Bool) (m:Nat) (p ms:List Nat) (M:Nat) (σ:St):=loopAt Tryz.prog env (ct m) J (m+1) 11 12 Tryz.f11 d13 p ms M σ
theorem law14_few_eq m a0 a1:e2 jn m [] [] ⟨[(.dat 32 a0),(.dat 25 a1)],[],0⟩=law14_few (m+1) a0 a1:=
 tre (g:=fun J=>((ref14_Count m a0 81).bind fun r0=>
  (bif (decide (r0≤80)) then
  ((ref02_Few m a1 300).bind fun r1=>
  some r1)
  else
  some false))) (fun J=>by kernel_rfl) (by rfl)
def w43_0:List Nat:=[1,0,0,1,1]
noncomputable def e43 (J:Nat→Nat→Nat→St→Option (List Dt)→Option (List Dt)) (m:Nat) (p ms:List Nat) (σ:St):=evAt Tryz.prog env (ct m) J (m+1) 130 38 Tryz.f130 d43 p ms σ
noncomputable def l43 (J:Nat→Nat→Nat→St→Option (List Dt)→Option (List Dt)) (m:Nat) (p ms:List Nat) (M:Nat) (σ:St):=loopAt Tryz.prog env (ct m) J (m+1) 130 38 Tryz.f130 d43 p ms M σ
noncomputable def s43_3 (x0 x1 x2 x3:Int) (x4:List Dt):St:=⟨tsOf [(0,(.row 0)),(1,(.dat 3 (.int x0))),(2,(.dat 3 (.int x1))),(3,(.dat 3 (.int x2))),(10,(.dat 3 (.int x3)))],[(.row 22 x4)],1⟩
abbrev H43_1 (m M1:Nat) (rec1:Int→Int→Int→Int→List Dt→Option (List Dt)):Prop:=∀x0 x1 x2 x3 x4,l43 jn m [1,0] [] M1 (s43_3 x0 x1 x2 x3 x4)=rec1 x0 x1 x2 x3 x4
theorem i43_j3_eq m M1 rec1 (h1:H43_1 m M1 rec1) x0 x1 x2 x3 x4:e43 jn m w43_0 [M1] (s43_3 x0 x1 x2 x3 x4)=i43_j3 m rec1 x0 x1 x2 x3 x4:=
 tre (g:=fun J=>(jj J 1 1 M1 (s43_3 x0 x1 x2 (IntKind.wrap .i64 (x3+1)) x4) (l43 J m [1,0] [] M1))) (fun J=>by kernel_rfl) (by simp only[jj_eq,h1];rfl)
theorem i43_j2_eq m M1 rec1 (h1:H43_1 m M1 rec1) x0 x1 x2 x3 x4:e43 jn m [1,0,0,1] [M1] (s43_3 x0 x1 x2 x3 x4)=i43_j2 m rec1 x0 x1 x2 x3 x4:=
 tre (g:=fun J=>((inL x4 (IntKind.wrap .i64 (x1+x3))).bind fun v0=>
  ((x4[(Int.toNat (IntKind.wrap .i64 (x1+x3)))]?).bind fun v1=>
  ((inL x4 (IntKind.wrap .i64 (x0+x3))).bind fun v2=>
  ((x4[(Int.toNat (IntKind.wrap .i64 (x0+x3)))]?).bind fun v3=>
  ((inL x4 (IntKind.wrap .i64 (x0+x3))).bind fun v4=>
  ((x4[(Int.toNat (IntKind.wrap .i64 (x0+x3)))]?).bind fun v5=>
  ((inL (List.set x4 (Int.toNat (IntKind.wrap .i64 (x0+x3))) v1) (IntKind.wrap .i64 (x1+x3))).bind fun v6=>
  (((List.set x4 (Int.toNat (IntKind.wrap .i64 (x0+x3))) v1)[(Int.toNat (IntKind.wrap .i64 (x1+x3)))]?).bind fun v7=>
  (jj J 0 2 0 (s43_3 x0 x1 x2 x3 (List.set (List.set x4 (Int.toNat (IntKind.wrap .i64 (x0+x3))) v1) (Int.toNat (IntKind.wrap .i64 (x1+x3))) v3)) (e43 J m w43_0 [M1]))))))))))) (fun J=>by kernel_rfl) (by simp only[jj_eq,i43_j3_eq m M1 rec1 h1];rfl)
theorem i43_l1_eq m:∀M1 x0 x1 x2 x3 x4,l43 jn m [1,0] [] M1 (s43_3 x0 x1 x2 x3 x4)=i43_l1 m M1 x0 x1 x2 x3 x4
 |0,_,_,_,_,_=>rfl
 | M1+1,x0,x1,x2,x3,x4=>
   trl (g:=fun J=>(bif (decide (x3<x2)) then
  (jj J 0 3 0 (s43_3 x0 x1 x2 x3 x4) (e43 J m [1,0,0,1] [M1]))
   else
  some x4)) (fun J=>by kernel_rfl) (by simp only[jj_eq,i43_j2_eq m M1 (i43_l1 m M1) (i43_l1_eq m M1)];rfl)
theorem i43_j0_eq m x0 x1 x2 x3 x4:e43 jn m [1] [] (s43_3 x0 x1 x2 x3 x4)=i43_j0 m x0 x1 x2 x3 x4:=
 tre (g:=fun J=>(jj J 1 1 (Nat.succ m) (s43_3 x0 x1 x2 x3 x4) (l43 J m [1,0] [] (Nat.succ m)))) (fun J=>by kernel_rfl) (by simp only[jj_eq,i43_l1_eq m];rfl)
theorem i43_eq m a0 a1 a2 a3:e43 jn m [] [] ⟨[(.row 0),(.dat 3 (.int a0)),(.dat 3 (.int a1)),(.dat 3 (.int a2)),(.fn 50 [])],[(.row 22 a3)],1⟩=i43 (m+1) a0 a1 a2 a3:=
 tre (g:=fun J=>(jj J 0 1 0 (s43_3 a0 a1 a2 0 a3) (e43 J m [1] []))) (fun J=>by kernel_rfl) (by simp only[jj_eq,i43_j0_eq m];rfl)
def w42_0:List Nat:=[1,1,0,0,0,1]
noncomputable def e42 (J:Nat→Nat→Nat→St→Option (List Dt)→Option (List Dt)) (m:Nat) (p ms:List Nat) (σ:St):=evAt Tryz.prog env (ct m) J (m+1) 124 58 Tryz.f124 d43 p ms σ
noncomputable def l42 (J:Nat→Nat→Nat→St→Option (List Dt)→Option (List Dt)) (m:Nat) (p ms:List Nat) (M:Nat) (σ:St):=loopAt Tryz.prog env (ct m) J (m+1) 124 58 Tryz.f124 d43 p ms M σ
noncomputable def s42_2 (x0 x1 x2:Int) (x3:List Dt):St:=⟨tsOf [(0,(.row 0)),(2,(.dat 3 (.int x0))),(4,(.fn 50 [])),(10,(.dat 3 (.int x1))),(11,(.dat 3 (.int x2)))],[(.row 22 x3)],1⟩
noncomputable def s42_3 (x0 x1:Int) (x2:List Dt):St:=⟨tsOf [(0,(.row 0)),(2,(.dat 3 (.int x0))),(4,(.fn 50 [])),(10,(.dat 3 (.int x1)))],[(.row 22 x2)],1⟩
abbrev H42_1 (m M1:Nat) (rec1:Int→Int→Int→List Dt→Option (List Dt)):Prop:=∀x0 x1 x2 x3,l42 jn m [1,1,0,0] [] M1 (s42_2 x0 x1 x2 x3)=rec1 x0 x1 x2 x3
theorem i42_j2_eq m M1 rec1 (h1:H42_1 m M1 rec1) x0 x1 x2 x3:e42 jn m w42_0 [M1] (s42_2 x0 x1 x2 x3)=i42_j2 m rec1 x0 x1 x2 x3:=
 tre (g:=fun J=>(bif (decide (x2<x1)) then
  ((i43 m (IntKind.wrap .i64 (x0-x1)) x0 x2 x3).bind fun r0=>
  (jj J 1 2 M1 (s42_2 x0 (IntKind.wrap .i64 (x1-x2)) x2 r0) (l42 J m [1,1,0,0] [] M1)))
   else
  ((i43 m (IntKind.wrap .i64 (x0-x1)) (IntKind.wrap .i64 ((IntKind.wrap .i64 (x0+x2))-x1)) x1 x3).bind fun r1=>
  (jj J 1 2 M1 (s42_2 x0 x1 (IntKind.wrap .i64 (x2-x1)) r1) (l42 J m [1,1,0,0] [] M1))))) (fun J=>by kernel_rfl) (by simp only[jj_eq,h1];rfl)
theorem i42_j3_eq m x0 x1 x2:e42 jn m [1,1,1] [] (s42_3 x0 x1 x2)=i42_j3 m x0 x1 x2:=
 tre (g:=fun J=>((i43 m (IntKind.wrap .i64 (x0-x1)) x0 x1 x2).bind fun r2=>
  some r2)) (fun J=>by kernel_rfl) (by rfl)
theorem i42_l1_eq m:∀M1 x0 x1 x2 x3,l42 jn m [1,1,0,0] [] M1 (s42_2 x0 x1 x2 x3)=i42_l1 m M1 x0 x1 x2 x3
 |0,_,_,_,_=>rfl
 | M1+1,x0,x1,x2,x3=>
   trl (g:=fun J=>(bif (x1 !=x2) then
  (jj J 0 3 0 (s42_2 x0 x1 x2 x3) (e42 J m w42_0 [M1]))
   else
  (jj J 0 8 0 (s42_3 x0 x1 x3) (e42 J m [1,1,1] [])))) (fun J=>by kernel_rfl) (by simp only[jj_eq,i42_j2_eq m M1 (i42_l1 m M1) (i42_l1_eq m M1),i42_j3_eq m];rfl)
theorem i42_j0_eq m x0 x1 x2 x3:e42 jn m [1,1] [] (s42_2 x0 x1 x2 x3)=i42_j0 m x0 x1 x2 x3:=
 tre (g:=fun J=>(jj J 1 2 (Nat.succ m) (s42_2 x0 x1 x2 x3) (l42 J m [1,1,0,0] [] (Nat.succ m)))) (fun J=>by kernel_rfl) (by simp only[jj_eq,i42_l1_eq m];rfl)
theorem i42_eq m a0 a1 a2 a3:e42 jn m [] [] ⟨[(.row 0),(.dat 3 (.int a0)),(.dat 3 (.int a1)),(.dat 3 (.int a2)),(.fn 50 [])],[(.row 22 a3)],1⟩=i42 (m+1) a0 a1 a2 a3:=
 tre (g:=fun J=>(jj J 0 2 0 (s42_2 a1 (IntKind.wrap .i64 (a1-a0)) (IntKind.wrap .i64 (a2-a1)) a3) (e42 J m [1,1] []))) (fun J=>by kernel_rfl) (by simp only[jj_eq,i42_j0_eq m];rfl)
noncomputable def e48 (J:Nat→Nat→Nat→St→Option (Int×Bool)→Option (Int×Bool)) (m:Nat) (p ms:List Nat) (σ:St):=evAt Tryz.prog env (ct m) J (m+1) 88 21 Tryz.f88 d21 p ms σ
noncomputable def l48 (J:Nat→Nat→Nat→St→Option (Int×Bool)→Option (Int×Bool)) (m:Nat) (p ms:List Nat) (M:Nat) (σ:St):=loopAt Tryz.prog env (ct m) J (m+1) 88 21 Tryz.f88 d21 p ms M σ
noncomputable def s48_0 (x0:Dt):St:=⟨tsOf [(1,(.ptr 0 [] 0))],[(.box 25 (.dat 25 x0))],0⟩
theorem ref14_length_j0_eq m x0:e48 jn m [1,1] [] (s48_0 x0)=ref14_length_j0 m x0:=
 tre (g:=fun J=>(bif ((Dt.I x0 0)==4) then
  some ((ByteArray.size (Dt.S x0 2):Int),true)
   else
  some ((ByteArray.size (Dt.S x0 2):Int),((Dt.I x0 0)==7)))) (fun J=>by kernel_rfl) (by rfl)
theorem ref14_length_eq m a0:e48 jn m [] [] ⟨[(.dat 25 a0)],[],0⟩=ref14_length (m+1) a0:=
 tre (g:=fun J=>(bif ((Dt.I a0 0)==6) then
  some ((List.length (Dt.L a0 3):Int),true)
   else
  (jj J 0 3 0 (s48_0 a0) (e48 J m [1,1] [])))) (fun J=>by kernel_rfl) (by simp only[jj_eq,ref14_length_j0_eq m];rfl)
noncomputable def e50 (J:Nat→Nat→Nat→St→Option (List Dt)→Option (List Dt)) (m:Nat) (p ms:List Nat) (σ:St):=evAt Tryz.prog env (ct m) J (m+1) 59 13 Tryz.f59 d15 p ms σ
noncomputable def l50 (J:Nat→Nat→Nat→St→Option (List Dt)→Option (List Dt)) (m:Nat) (p ms:List Nat) (M:Nat) (σ:St):=loopAt Tryz.prog env (ct m) J (m+1) 59 13 Tryz.f59 d15 p ms M σ
theorem ref14_step_eq m a0 a1:e50 jn m [] [] ⟨[(.dat 28 (.lst a0)),(.dat 9 (.str a1))],[],0⟩=ref14_step (m+1) a0 a1:=
 tre (g:=fun J=>((app [] a0).bind fun v0=>
  ((app v0 [(Dt.str a1)]).bind fun v1=>
  some v1))) (fun J=>by kernel_rfl) (by rfl)
def w51_1:List Nat:=[1,0,1,0,0,1]
def w51_0:List Nat:=w51_1++[1]
noncomputable def e51 (J:Nat→Nat→Nat→St→Option Bool→Option Bool) (m:Nat) (p ms:List Nat) (σ:St):=evAt Tryz.prog env (ct m) J (m+1) 89 21 Tryz.f89 d13 p ms σ
noncomputable def l51 (J:Nat→Nat→Nat→St→Option Bool→Option Bool) (m:Nat) (p ms:List Nat) (M:Nat) (σ:St):=loopAt Tryz.prog env (ct m) J (m+1) 89 21 Tryz.f89 d13 p ms M σ
noncomputable def s51_3 (x0:ByteArray) (x1:Int) (x2:Dt):St:=⟨tsOf [(1,(.dat 9 (.str x0))),(2,(.ptr 0 [] 0)),(5,(.dat 3 (.int x1)))],[(.box 32 (.dat 32 x2))],0⟩
noncomputable def s51_4:St:=⟨tsOf [],[],0⟩
abbrev H51_1 (m M1:Nat) (rec1:ByteArray→Int→Dt→Option Bool):Prop:=∀x0 x1 x2,l51 jn m [1,0,1,0] [] M1 (s51_3 x0 x1 x2)=rec1 x0 x1 x2
theorem ref14_has_j3_eq m M1 rec1 (h1:H51_1 m M1 rec1) x0 x1 x2:e51 jn m w51_0 [M1] (s51_3 x0 x1 x2)=ref14_has_j3 m rec1 x0 x1 x2:=
 tre (g:=fun J=>(jj J 1 2 M1 (s51_3 x0 (IntKind.wrap .i64 (x1+1)) x2) (l51 J m [1,0,1,0] [] M1))) (fun J=>by kernel_rfl) (by simp only[jj_eq,h1];rfl)
theorem ref14_has_j2_eq m M1 rec1 (h1:H51_1 m M1 rec1) x0 x1 x2:e51 jn m w51_1 [M1] (s51_3 x0 x1 x2)=ref14_has_j2 m rec1 x0 x1 x2:=
 tre (g:=fun J=>((idx (Dt.L x2 9) x1).bind fun v0=>
  (bif ((ByteArray.toList (Dt.S v0 0))==(ByteArray.toList x0)) then
  some true
  else
  (jj J 0 3 0 (s51_3 x0 x1 x2) (e51 J m w51_0 [M1]))))) (fun J=>by kernel_rfl) (by simp only[jj_eq,ref14_has_j3_eq m M1 rec1 h1];rfl)
theorem ref14_has_j4_eq m:e51 jn m [1,1] [] s51_4=ref14_has_j4 m:=
 tre (g:=fun J=>some false) (fun J=>by kernel_rfl) (by rfl)
theorem ref14_has_l1_eq m:∀M1 x0 x1 x2,l51 jn m [1,0,1,0] [] M1 (s51_3 x0 x1 x2)=ref14_has_l1 m M1 x0 x1 x2
 |0,_,_,_=>rfl
 | M1+1,x0,x1,x2=>
   trl (g:=fun J=>(bif (decide (x1<(List.length (Dt.L x2 9):Int))) then
  (jj J 0 4 0 (s51_3 x0 x1 x2) (e51 J m w51_1 [M1]))
   else
  (jj J 0 6 0 s51_4 (e51 J m [1,1] [])))) (fun J=>by kernel_rfl) (by simp only[jj_eq,ref14_has_j2_eq m M1 (ref14_has_l1 m M1) (ref14_has_l1_eq m M1),ref14_has_j4_eq m];rfl)
theorem ref14_has_j0_eq m x0 x1 x2:e51 jn m [1,0,1] [] (s51_3 x0 x1 x2)=ref14_has_j0 m x0 x1 x2:=
 tre (g:=fun J=>(jj J 1 2 (Nat.succ m) (s51_3 x0 x1 x2) (l51 J m [1,0,1,0] [] (Nat.succ m)))) (fun J=>by kernel_rfl) (by simp only[jj_eq,ref14_has_l1_eq m];rfl)
theorem ref14_has_eq m a0 a1:e51 jn m [] [] ⟨[(.dat 32 a0),(.dat 9 (.str a1))],[],0⟩=ref14_has (m+1) a0 a1:=
 tre (g:=fun J=>(jj J 0 2 0 (s51_3 a1 0 a0) (e51 J m [1,0,1] []))) (fun J=>by kernel_rfl) (by simp only[jj_eq,ref14_has_j0_eq m];rfl)
def w53_0:List Nat:=[1,1,0,1,0]
def w53_2:List Nat:=[1,1,0,1,0,0,1]
def w53_1:List Nat:=w53_2++[1]
noncomputable def e53 (J:Nat→Nat→Nat→St→Option Bool→Option Bool) (m:Nat) (p ms:List Nat) (σ:St):=evAt Tryz.prog env (ct m) J (m+1) 43 26 Tryz.f43 d13 p ms σ
noncomputable def l53 (J:Nat→Nat→Nat→St→Option Bool→Option Bool) (m:Nat) (p ms:List Nat) (M:Nat) (σ:St):=loopAt Tryz.prog env (ct m) J (m+1) 43 26 Tryz.f43 d13 p ms M σ
noncomputable def s53_4 (x0 x1:List Dt) (x2:Int):St:=⟨tsOf [(0,(.dat 28 (.lst x0))),(1,(.dat 28 (.lst x1))),(5,(.dat 3 (.int x2)))],[],0⟩
noncomputable def s53_5:St:=⟨tsOf [],[],0⟩
noncomputable def s53_0 (x0 x1:List Dt):St:=⟨tsOf [(0,(.dat 28 (.lst x0))),(1,(.dat 28 (.lst x1)))],[],0⟩
abbrev H53_2 (m M2:Nat) (rec2:List Dt→List Dt→Int→Option Bool):Prop:=∀x0 x1 x2,l53 jn m w53_0 [] M2 (s53_4 x0 x1 x2)=rec2 x0 x1 x2
theorem ref04_prefix_j4_eq m M2 rec2 (h2:H53_2 m M2 rec2) x0 x1 x2:e53 jn m w53_1 [M2] (s53_4 x0 x1 x2)=ref04_prefix_j4 m rec2 x0 x1 x2:=
 tre (g:=fun J=>(jj J 1 4 M2 (s53_4 x0 x1 (IntKind.wrap .i64 (x2+1))) (l53 J m w53_0 [] M2))) (fun J=>by kernel_rfl) (by simp only[jj_eq,h2];rfl)
theorem ref04_prefix_j3_eq m M2 rec2 (h2:H53_2 m M2 rec2) x0 x1 x2:e53 jn m w53_2 [M2] (s53_4 x0 x1 x2)=ref04_prefix_j3 m rec2 x0 x1 x2:=
 tre (g:=fun J=>((idx x0 x2).bind fun v0=>
  ((idx x1 x2).bind fun v1=>
  (bif (Bool.not ((ByteArray.toList (Dt.toStr v0))==(ByteArray.toList (Dt.toStr v1)))) then
  some false
  else
  (jj J 0 5 0 (s53_4 x0 x1 x2) (e53 J m w53_1 [M2])))))) (fun J=>by kernel_rfl) (by simp only[jj_eq,ref04_prefix_j4_eq m M2 rec2 h2];rfl)
theorem ref04_prefix_j5_eq m:e53 jn m [1,1,1] [] s53_5=ref04_prefix_j5 m:=
 tre (g:=fun J=>some true) (fun J=>by kernel_rfl) (by rfl)
theorem ref04_prefix_l2_eq m:∀M2 x0 x1 x2,l53 jn m w53_0 [] M2 (s53_4 x0 x1 x2)=ref04_prefix_l2 m M2 x0 x1 x2
 |0,_,_,_=>rfl
 | M2+1,x0,x1,x2=>
   trl (g:=fun J=>(bif (decide (x2<(List.length x0:Int))) then
  (jj J 0 6 0 (s53_4 x0 x1 x2) (e53 J m w53_2 [M2]))
   else
  (jj J 0 8 0 s53_5 (e53 J m [1,1,1] [])))) (fun J=>by kernel_rfl) (by simp only[jj_eq,ref04_prefix_j3_eq m M2 (ref04_prefix_l2 m M2) (ref04_prefix_l2_eq m M2),ref04_prefix_j5_eq m];rfl)
theorem ref04_prefix_j1_eq m x0 x1 x2:e53 jn m [1,1,0,1] [] (s53_4 x0 x1 x2)=ref04_prefix_j1 m x0 x1 x2:=
 tre (g:=fun J=>(jj J 1 4 (Nat.succ m) (s53_4 x0 x1 x2) (l53 J m w53_0 [] (Nat.succ m)))) (fun J=>by kernel_rfl) (by simp only[jj_eq,ref04_prefix_l2_eq m];rfl)
theorem ref04_prefix_j0_eq m x0 x1:e53 jn m [1,1] [] (s53_0 x0 x1)=ref04_prefix_j0 m x0 x1:=
 tre (g:=fun J=>(jj J 0 4 0 (s53_4 x0 x1 0) (e53 J m [1,1,0,1] []))) (fun J=>by kernel_rfl) (by simp only[jj_eq,ref04_prefix_j1_eq m];rfl)
theorem ref04_prefix_eq m a0 a1:e53 jn m [] [] ⟨[(.dat 28 (.lst a0)),(.dat 28 (.lst a1))],[],0⟩=ref04_prefix (m+1) a0 a1:=
 tre (g:=fun J=>(bif (decide ((List.length a1:Int)<(List.length a0:Int))) then
  some false
   else
  (jj J 0 3 0 (s53_0 a0 a1) (e53 J m [1,1] [])))) (fun J=>by kernel_rfl) (by simp only[jj_eq,ref04_prefix_j0_eq m];rfl)
noncomputable def e30 (J:Nat→Nat→Nat→St→Option Bool→Option Bool) (m:Nat) (p ms:List Nat) (σ:St):=evAt Tryz.prog env (ct m) J (m+1) 28 15 Tryz.f28 d13 p ms σ
noncomputable def l30 (J:Nat→Nat→Nat→St→Option Bool→Option Bool) (m:Nat) (p ms:List Nat) (M:Nat) (σ:St):=loopAt Tryz.prog env (ct m) J (m+1) 28 15 Tryz.f28 d13 p ms M σ
theorem ref04_Same_eq m a0 a1:e30 jn m [] [] ⟨[(.dat 28 (.lst a0)),(.dat 28 (.lst a1))],[],0⟩=ref04_Same (m+1) a0 a1:=
 tre (g:=fun J=>(bif ((List.length a0:Int)==(List.length a1:Int)) then
  ((ref04_prefix m a0 a1).bind fun r0=>
  some r0)
   else
  some false)) (fun J=>by kernel_rfl) (by rfl)
def w6_0:List Nat:=[1,1,0,1,0]
def w6_3:List Nat:=[1,1,0,1,0,0,1]
def w6_1:List Nat:=w6_3++[1]
def w6_2:List Nat:=w6_3++[0,0,1]
noncomputable def e6 (J:Nat→Nat→Nat→St→Option Bool→Option Bool) (m:Nat) (p ms:List Nat) (σ:St):=evAt Tryz.prog env (ct m) J (m+1) 12 42 Tryz.f12 d13 p ms σ
noncomputable def l6 (J:Nat→Nat→Nat→St→Option Bool→Option Bool) (m:Nat) (p ms:List Nat) (M:Nat) (σ:St):=loopAt Tryz.prog env (ct m) J (m+1) 12 42 Tryz.f12 d13 p ms M σ
noncomputable def s6_5 (x0 x1:List Dt) (x2:Int):St:=⟨tsOf [(0,(.dat 40 (.lst x0))),(1,(.dat 40 (.lst x1))),(5,(.dat 3 (.int x2)))],[],0⟩
noncomputable def s6_4 (x0 x1:List Dt) (x2:Int) (x3:Bool):St:=⟨tsOf [(0,(.dat 40 (.lst x0))),(1,(.dat 40 (.lst x1))),(5,(.dat 3 (.int x2))),(41,(.dat 4 (.bool x3)))],[],0⟩
noncomputable def s6_6:St:=⟨tsOf [],[],0⟩
noncomputable def s6_0 (x0 x1:List Dt):St:=⟨tsOf [(0,(.dat 40 (.lst x0))),(1,(.dat 40 (.lst x1)))],[],0⟩
abbrev H6_2 (m M2:Nat) (rec2:List Dt→List Dt→Int→Option Bool):Prop:=∀x0 x1 x2,l6 jn m w6_0 [] M2 (s6_5 x0 x1 x2)=rec2 x0 x1 x2
theorem ref14_SameList_j5_eq m M2 rec2 (h2:H6_2 m M2 rec2) x0 x1 x2:e6 jn m w6_1 [M2] (s6_5 x0 x1 x2)=ref14_SameList_j5 m rec2 x0 x1 x2:=
 tre (g:=fun J=>(jj J 1 4 M2 (s6_5 x0 x1 (IntKind.wrap .i64 (x2+1))) (l6 J m w6_0 [] M2))) (fun J=>by kernel_rfl) (by simp only[jj_eq,h2];rfl)
theorem ref14_SameList_j4_eq m M2 rec2 (h2:H6_2 m M2 rec2) x0 x1 x2 x3:e6 jn m w6_2 [M2] (s6_4 x0 x1 x2 x3)=ref14_SameList_j4 m rec2 x0 x1 x2 x3:=
 tre (g:=fun J=>(bif x3 then
  some false
   else
  (jj J 0 5 0 (s6_5 x0 x1 x2) (e6 J m w6_1 [M2])))) (fun J=>by kernel_rfl) (by simp only[jj_eq,ref14_SameList_j5_eq m M2 rec2 h2];rfl)
theorem ref14_SameList_j3_eq m M2 rec2 (h2:H6_2 m M2 rec2) x0 x1 x2:e6 jn m w6_3 [M2] (s6_5 x0 x1 x2)=ref14_SameList_j3 m rec2 x0 x1 x2:=
 tre (g:=fun J=>((idx x0 x2).bind fun v0=>
  ((idx x1 x2).bind fun v1=>
  (bif ((Dt.I v0 1) !=(Dt.I v1 1)) then
  (jj J 0 7 0 (s6_4 x0 x1 x2 true) (e6 J m w6_2 [M2]))
  else
  ((idx x0 x2).bind fun v2=>
  ((idx x1 x2).bind fun v3=>
  ((ref04_Same m (Dt.L v2 0) (Dt.L v3 0)).bind fun r4=>
  (jj J 0 7 0 (s6_4 x0 x1 x2 (Bool.not r4)) (e6 J m w6_2 [M2]))))))))) (fun J=>by kernel_rfl) (by simp only[jj_eq,ref14_SameList_j4_eq m M2 rec2 h2];rfl)
theorem ref14_SameList_j6_eq m:e6 jn m [1,1,1] [] s6_6=ref14_SameList_j6 m:=
 tre (g:=fun J=>some true) (fun J=>by kernel_rfl) (by rfl)
theorem ref14_SameList_l2_eq m:∀M2 x0 x1 x2,l6 jn m w6_0 [] M2 (s6_5 x0 x1 x2)=ref14_SameList_l2 m M2 x0 x1 x2
 |0,_,_,_=>rfl
 | M2+1,x0,x1,x2=>
   trl (g:=fun J=>(bif (decide (x2<(List.length x0:Int))) then
  (jj J 0 6 0 (s6_5 x0 x1 x2) (e6 J m w6_3 [M2]))
   else
  (jj J 0 8 0 s6_6 (e6 J m [1,1,1] [])))) (fun J=>by kernel_rfl) (by simp only[jj_eq,ref14_SameList_j3_eq m M2 (ref14_SameList_l2 m M2) (ref14_SameList_l2_eq m M2),ref14_SameList_j6_eq m];rfl)
theorem ref14_SameList_j1_eq m x0 x1 x2:e6 jn m [1,1,0,1] [] (s6_5 x0 x1 x2)=ref14_SameList_j1 m x0 x1 x2:=
 tre (g:=fun J=>(jj J 1 4 (Nat.succ m) (s6_5 x0 x1 x2) (l6 J m w6_0 [] (Nat.succ m)))) (fun J=>by kernel_rfl) (by simp only[jj_eq,ref14_SameList_l2_eq m];rfl)
theorem ref14_SameList_j0_eq m x0 x1:e6 jn m [1,1] [] (s6_0 x0 x1)=ref14_SameList_j0 m x0 x1:=
 tre (g:=fun J=>(jj J 0 4 0 (s6_5 x0 x1 0) (e6 J m [1,1,0,1] []))) (fun J=>by kernel_rfl) (by simp only[jj_eq,ref14_SameList_j1_eq m];rfl)
theorem ref14_SameList_eq m a0 a1:e6 jn m [] [] ⟨[(.dat 40 (.lst a0)),(.dat 40 (.lst a1))],[],0⟩=ref14_SameList (m+1) a0 a1:=
 tre (g:=fun J=>(bif ((List.length a0:Int) !=(List.length a1:Int)) then
  some false
   else
  (jj J 0 3 0 (s6_0 a0 a1) (e6 J m [1,1] [])))) (fun J=>by kernel_rfl) (by simp only[jj_eq,ref14_SameList_j0_eq m];rfl)
def w54_0:List Nat:=[1,1,0,1,0]
def w54_3:List Nat:=[1,1,0,1,0,0,1,1]
def w54_1:List Nat:=w54_3++[1]
def w54_2:List Nat:=w54_3++[0,0,1,1]
noncomputable def e54 (J:Nat→Nat→Nat→St→Option Bool→Option Bool) (m:Nat) (p ms:List Nat) (σ:St):=evAt Tryz.prog env (ct m) J (m+1) 92 39 Tryz.f92 d13 p ms σ
noncomputable def l54 (J:Nat→Nat→Nat→St→Option Bool→Option Bool) (m:Nat) (p ms:List Nat) (M:Nat) (σ:St):=loopAt Tryz.prog env (ct m) J (m+1) 92 39 Tryz.f92 d13 p ms M σ
noncomputable def s54_6 (x0:ByteArray) (x1 x2:Int):St:=⟨tsOf [(0,(.dat 9 (.str x0))),(18,(.dat 3 (.int x1))),(19,(.dat 3 (.int x2)))],[],0⟩
noncomputable def s54_5 (x0:ByteArray) (x1 x2:Int) (x3:Bool):St:=⟨tsOf [(0,(.dat 9 (.str x0))),(18,(.dat 3 (.int x1))),(19,(.dat 3 (.int x2))),(37,(.dat 4 (.bool x3)))],[],0⟩
noncomputable def s54_7:St:=⟨tsOf [],[],0⟩
noncomputable def s54_1 (x0:ByteArray):St:=⟨tsOf [(0,(.dat 9 (.str x0)))],[],0⟩
noncomputable def s54_0 (x0:ByteArray) (x1:Bool):St:=⟨tsOf [(0,(.dat 9 (.str x0))),(16,(.dat 4 (.bool x1)))],[],0⟩
abbrev H54_3 (m M3:Nat) (rec3:ByteArray→Int→Int→Option Bool):Prop:=∀x0 x1 x2,l54 jn m w54_0 [] M3 (s54_6 x0 x1 x2)=rec3 x0 x1 x2
theorem schema_isName_j6_eq m M3 rec3 (h3:H54_3 m M3 rec3) x0 x1 x2:e54 jn m w54_1 [M3] (s54_6 x0 x1 x2)=schema_isName_j6 m rec3 x0 x1 x2:=
 tre (g:=fun J=>(jj J 1 4 M3 (s54_6 x0 x1 (IntKind.wrap .i64 (x2+1))) (l54 J m w54_0 [] M3))) (fun J=>by kernel_rfl) (by simp only[jj_eq,h3];rfl)
theorem schema_isName_j5_eq m M3 rec3 (h3:H54_3 m M3 rec3) x0 x1 x2 x3:e54 jn m w54_2 [M3] (s54_5 x0 x1 x2 x3)=schema_isName_j5 m rec3 x0 x1 x2 x3:=
 tre (g:=fun J=>(bif x3 then
  some false
   else
  (jj J 0 8 0 (s54_6 x0 x1 x2) (e54 J m w54_1 [M3])))) (fun J=>by kernel_rfl) (by simp only[jj_eq,schema_isName_j6_eq m M3 rec3 h3];rfl)
theorem schema_isName_j4_eq m M3 rec3 (h3:H54_3 m M3 rec3) x0 x1 x2:e54 jn m w54_3 [M3] (s54_6 x0 x1 x2)=schema_isName_j4 m rec3 x0 x1 x2:=
 tre (g:=fun J=>((idxS x0 x2).bind fun v0=>
  (bif (decide (v0<33)) then
  (jj J 0 7 0 (s54_5 x0 x1 x2 true) (e54 J m w54_2 [M3]))
  else
  ((idxS x0 x2).bind fun v1=>
  (bif (decide (126<v1)) then
  (jj J 0 7 0 (s54_5 x0 x1 x2 true) (e54 J m w54_2 [M3]))
  else
  ((idxS x0 x2).bind fun v2=>
  (jj J 0 7 0 (s54_5 x0 x1 x2 (v2==46)) (e54 J m w54_2 [M3])))))))) (fun J=>by kernel_rfl) (by simp only[jj_eq,schema_isName_j5_eq m M3 rec3 h3];rfl)
theorem schema_isName_j7_eq m:e54 jn m [1,1,1] [] s54_7=schema_isName_j7 m:=
 tre (g:=fun J=>some true) (fun J=>by kernel_rfl) (by rfl)
theorem schema_isName_l3_eq m:∀M3 x0 x1 x2,l54 jn m w54_0 [] M3 (s54_6 x0 x1 x2)=schema_isName_l3 m M3 x0 x1 x2
 |0,_,_,_=>rfl
 | M3+1,x0,x1,x2=>
   trl (g:=fun J=>(bif (decide (x2<x1)) then
  (jj J 0 5 0 (s54_6 x0 x1 x2) (e54 J m w54_3 [M3]))
   else
  (jj J 0 9 0 s54_7 (e54 J m [1,1,1] [])))) (fun J=>by kernel_rfl) (by simp only[jj_eq,schema_isName_j4_eq m M3 (schema_isName_l3 m M3) (schema_isName_l3_eq m M3),schema_isName_j7_eq m];rfl)
theorem schema_isName_j2_eq m x0 x1 x2:e54 jn m [1,1,0,1] [] (s54_6 x0 x1 x2)=schema_isName_j2 m x0 x1 x2:=
 tre (g:=fun J=>(jj J 1 4 (Nat.succ m) (s54_6 x0 x1 x2) (l54 J m w54_0 [] (Nat.succ m)))) (fun J=>by kernel_rfl) (by simp only[jj_eq,schema_isName_l3_eq m];rfl)
theorem schema_isName_j1_eq m x0:e54 jn m [1,1] [] (s54_1 x0)=schema_isName_j1 m x0:=
 tre (g:=fun J=>(jj J 0 4 0 (s54_6 x0 (ByteArray.size x0:Int) 0) (e54 J m [1,1,0,1] []))) (fun J=>by kernel_rfl) (by simp only[jj_eq,schema_isName_j2_eq m];rfl)
theorem schema_isName_j0_eq m x0 x1:e54 jn m [1,0,1] [] (s54_0 x0 x1)=schema_isName_j0 m x0 x1:=
 tre (g:=fun J=>(bif x1 then
  some false
   else
  (jj J 0 3 0 (s54_1 x0) (e54 J m [1,1] [])))) (fun J=>by kernel_rfl) (by simp only[jj_eq,schema_isName_j1_eq m];rfl)
theorem schema_isName_eq m a0:e54 jn m [] [] ⟨[(.dat 9 (.str a0))],[],0⟩=schema_isName (m+1) a0:=
 tre (g:=fun J=>(bif (decide ((ByteArray.size a0:Int)<1)) then
  (jj J 0 2 0 (s54_0 a0 true) (e54 J m [1,0,1] []))
   else
  (bif (decide (32<(ByteArray.size a0:Int))) then
  (jj J 0 2 0 (s54_0 a0 true) (e54 J m [1,0,1] []))
  else
  ((idxS a0 0).bind fun v3=>
  (jj J 0 2 0 (s54_0 a0 (v3==36)) (e54 J m [1,0,1] [])))))) (fun J=>by kernel_rfl) (by simp only[jj_eq,schema_isName_j0_eq m];rfl)
noncomputable def e57 (J:Nat→Nat→Nat→St→Option Bool→Option Bool) (m:Nat) (p ms:List Nat) (σ:St):=evAt Tryz.prog env (ct m) J (m+1) 108 6 Tryz.f108 d13 p ms σ
noncomputable def l57 (J:Nat→Nat→Nat→St→Option Bool→Option Bool) (m:Nat) (p ms:List Nat) (M:Nat) (σ:St):=loopAt Tryz.prog env (ct m) J (m+1) 108 6 Tryz.f108 d13 p ms M σ
theorem cmp_isNaN_eq m a0:e57 jn m [] [] ⟨[(.dat 3 (.int a0))],[],0⟩=cmp_isNaN (m+1) a0:=
 tre (g:=fun J=>some (a0 !=a0)) (fun J=>by kernel_rfl) (by rfl)
def w35_3:List Nat:=[1,1,1,1,1]
def w35_2:List Nat:=[1,1,1,1,1,1]
def w35_0:List Nat:=[1,1,1,0,1,0,1]
def w35_1:List Nat:=w35_2++[1]
noncomputable def e35 (J:Nat→Nat→Nat→St→Option Int→Option Int) (m:Nat) (p ms:List Nat) (σ:St):=evAt Tryz.prog env (ct m) J (m+1) 80 20 Tryz.f80 d9 p ms σ
noncomputable def l35 (J:Nat→Nat→Nat→St→Option Int→Option Int) (m:Nat) (p ms:List Nat) (M:Nat) (σ:St):=loopAt Tryz.prog env (ct m) J (m+1) 80 20 Tryz.f80 d9 p ms M σ
noncomputable def s35_0:St:=⟨tsOf [],[],0⟩
noncomputable def s35_3 (x0 x1:Int):St:=⟨tsOf [(0,(.dat 3 (.int x0))),(1,(.dat 3 (.int x1)))],[],0⟩
noncomputable def s35_1 (x0 x1:Int) (x2:Bool):St:=⟨tsOf [(0,(.dat 3 (.int x0))),(1,(.dat 3 (.int x1))),(6,(.dat 4 (.bool x2)))],[],0⟩
theorem cmp_Compare_j0_eq m:e35 jn m w35_0 [] s35_0=cmp_Compare_j0 m:=
 tre (g:=fun J=>some (-1)) (fun J=>by kernel_rfl) (by rfl)
theorem cmp_Compare_j4_eq m:e35 jn m w35_1 [] s35_0=cmp_Compare_j4 m:=
 tre (g:=fun J=>some 0) (fun J=>by kernel_rfl) (by rfl)
theorem cmp_Compare_j3_eq m x0 x1:e35 jn m w35_2 [] (s35_3 x0 x1)=cmp_Compare_j3 m x0 x1:=
 tre (g:=fun J=>(bif (decide (x1<x0)) then
  some 1
   else
  (jj J 0 13 0 s35_0 (e35 J m w35_1 [])))) (fun J=>by kernel_rfl) (by simp only[jj_eq,cmp_Compare_j4_eq m];rfl)
theorem cmp_Compare_j2_eq m x0 x1:e35 jn m w35_3 [] (s35_3 x0 x1)=cmp_Compare_j2 m x0 x1:=
 tre (g:=fun J=>(bif (decide (x0<x1)) then
  some (-1)
   else
  (jj J 0 11 0 (s35_3 x0 x1) (e35 J m w35_2 [])))) (fun J=>by kernel_rfl) (by simp only[jj_eq,cmp_Compare_j3_eq m];rfl)
theorem cmp_Compare_j1_eq m x0 x1 x2:e35 jn m [1,1,1,1] [] (s35_1 x0 x1 x2)=cmp_Compare_j1 m x0 x1 x2:=
 tre (g:=fun J=>(bif x2 then
  some 1
   else
  (jj J 0 9 0 (s35_3 x0 x1) (e35 J m w35_3 [])))) (fun J=>by kernel_rfl) (by simp only[jj_eq,cmp_Compare_j2_eq m];rfl)
theorem cmp_Compare_eq m a0 a1:e35 jn m [] [] ⟨[(.dat 3 (.int a0)),(.dat 3 (.int a1))],[],0⟩=cmp_Compare (m+1) a0 a1:=
 tre (g:=fun J=>((cmp_isNaN m a0).bind fun r0=>
  ((cmp_isNaN m a1).bind fun r1=>
  (bif r0 then
  (bif r1 then
  some 0
  else
  (jj J 0 6 0 s35_0 (e35 J m w35_0 [])))
  else
  (jj J 0 7 0 (s35_1 a0 a1 r1) (e35 J m [1,1,1,1] [])))))) (fun J=>by kernel_rfl) (by simp only[jj_eq,cmp_Compare_j0_eq m,cmp_Compare_j1_eq m];rfl)
def w20_12:List Nat:=[1,1,0,1,0,1]
def w20_11:List Nat:=w20_12++[1,1]
def w20_3:List Nat:=w20_11++[1,1,0,1]
def w20_4:List Nat:=w20_11++[1,1,0,0,1]
def w20_0:List Nat:=w20_4++[0]
def w20_9:List Nat:=w20_11++[1,1,1,1,0,1]
def w20_10:List Nat:=w20_11++[1,1,1,1,0,0,1]
def w20_5:List Nat:=w20_10++[0]
def w20_2:List Nat:=w20_0++[0,1,1]
def w20_1:List Nat:=w20_2++[1]
def w20_8:List Nat:=w20_5++[0,1,1]
def w20_6:List Nat:=w20_8++[1]
def w20_7:List Nat:=w20_8++[0,0,1,1]
noncomputable def e20 (J:Nat→Nat→Nat→St→Option Int→Option Int) (m:Nat) (p ms:List Nat) (σ:St):=evAt Tryz.prog env (ct m) J (m+1) 50 126 Tryz.f50 d9 p ms σ
noncomputable def l20 (J:Nat→Nat→Nat→St→Option Int→Option Int) (m:Nat) (p ms:List Nat) (M:Nat) (σ:St):=loopAt Tryz.prog env (ct m) J (m+1) 50 126 Tryz.f50 d9 p ms M σ
noncomputable def s20_6 (x0 x1:Int) (x2 x3:Dt):St:=⟨tsOf [(2,(.ptr 0 [] 0)),(3,(.ptr 1 [] 0)),(48,(.dat 3 (.int x0))),(49,(.dat 3 (.int x1)))],[(.box 25 (.dat 25 x2)),(.box 25 (.dat 25 x3))],0⟩
noncomputable def s20_7 (x0 x1:Dt):St:=⟨tsOf [(2,(.ptr 0 [] 0)),(3,(.ptr 1 [] 0))],[(.box 25 (.dat 25 x0)),(.box 25 (.dat 25 x1))],0⟩
noncomputable def s20_12 (x0 x1:Int) (x2 x3:Dt):St:=⟨tsOf [(2,(.ptr 0 [] 0)),(3,(.ptr 1 [] 0)),(82,(.dat 3 (.int x0))),(83,(.dat 3 (.int x1)))],[(.box 25 (.dat 25 x2)),(.box 25 (.dat 25 x3))],0⟩
noncomputable def s20_11 (x0 x1 x2:Int) (x3 x4:Dt):St:=⟨tsOf [(2,(.ptr 0 [] 0)),(3,(.ptr 1 [] 0)),(7,(.dat 3 (.int x0))),(82,(.dat 3 (.int x1))),(83,(.dat 3 (.int x2)))],[(.box 25 (.dat 25 x3)),(.box 25 (.dat 25 x4))],0⟩
noncomputable def s20_14:St:=⟨tsOf [],[],0⟩
noncomputable def s20_2 (x0:Int) (x1:Bool) (x2 x3:Dt):St:=⟨tsOf [(2,(.ptr 0 [] 0)),(3,(.ptr 1 [] 0)),(21,(.dat 3 (.int x0))),(31,(.dat 4 (.bool x1)))],[(.box 25 (.dat 25 x2)),(.box 25 (.dat 25 x3))],0⟩
noncomputable def s20_1 (x0:Int) (x1:Bool) (x2 x3:Dt):St:=⟨tsOf [(2,(.ptr 0 [] 0)),(3,(.ptr 1 [] 0)),(21,(.dat 3 (.int x0))),(22,(.dat 4 (.bool x1)))],[(.box 25 (.dat 25 x2)),(.box 25 (.dat 25 x3))],0⟩
abbrev H20_4 (m M4:Nat) (rec4:Int→Int→Dt→Dt→Option Int):Prop:=∀x0 x1 x2 x3,l20 jn m w20_0 [] M4 (s20_6 x0 x1 x2 x3)=rec4 x0 x1 x2 x3
theorem value_Compare_j6_eq m M4 rec4 (h4:H20_4 m M4 rec4) x0 x1 x2 x3:e20 jn m w20_1 [M4] (s20_6 x0 x1 x2 x3)=value_Compare_j6 m (value_Compare m) rec4 x0 x1 x2 x3:=
 tre (g:=fun J=>(jj J 1 14 M4 (s20_6 x0 (IntKind.wrap .i64 (x1+1)) x2 x3) (l20 J m w20_0 [] M4))) (fun J=>by kernel_rfl) (by simp only[jj_eq,h4];rfl)
theorem value_Compare_j5_eq m M4 rec4 (h4:H20_4 m M4 rec4) x0 x1 x2 x3:e20 jn m w20_2 [M4] (s20_6 x0 x1 x2 x3)=value_Compare_j5 m (value_Compare m) rec4 x0 x1 x2 x3:=
 tre (g:=fun J=>((idx (Dt.L x2 3) x1).bind fun v3=>
  ((idx (Dt.L x3 3) x1).bind fun v4=>
  ((value_Compare m v3 v4).bind fun r5=>
  (bif (r5 !=0) then
  some r5
  else
  (jj J 0 19 0 (s20_6 x0 x1 x2 x3) (e20 J m w20_1 [M4]))))))) (fun J=>by kernel_rfl) (by simp only[jj_eq,value_Compare_j6_eq m M4 rec4 h4];rfl)
theorem value_Compare_j7_eq m x0 x1:e20 jn m w20_3 [] (s20_7 x0 x1)=value_Compare_j7 m (value_Compare m) x0 x1:=
 tre (g:=fun J=>((cmp_Compare m (List.length (Dt.L x0 3):Int) (List.length (Dt.L x1 3):Int)).bind fun r6=>
  some r6)) (fun J=>by kernel_rfl) (by rfl)
theorem value_Compare_l4_eq m:∀M4 x0 x1 x2 x3,l20 jn m w20_0 [] M4 (s20_6 x0 x1 x2 x3)=value_Compare_l4 m (value_Compare m) M4 x0 x1 x2 x3
 |0,_,_,_,_=>rfl
 | M4+1,x0,x1,x2,x3=>
   trl (g:=fun J=>(bif (decide (x1<x0)) then
  (jj J 0 15 0 (s20_6 x0 x1 x2 x3) (e20 J m w20_2 [M4]))
   else
  (jj J 0 20 0 (s20_7 x2 x3) (e20 J m w20_3 [])))) (fun J=>by kernel_rfl) (by simp only[jj_eq,value_Compare_j5_eq m M4 (value_Compare_l4 m (value_Compare m) M4) (value_Compare_l4_eq m M4),value_Compare_j7_eq m];rfl)
theorem value_Compare_j3_eq m x0 x1 x2 x3:e20 jn m w20_4 [] (s20_6 x0 x1 x2 x3)=value_Compare_j3 m (value_Compare m) x0 x1 x2 x3:=
 tre (g:=fun J=>(jj J 1 14 (Nat.succ m) (s20_6 x0 x1 x2 x3) (l20 J m w20_0 [] (Nat.succ m)))) (fun J=>by kernel_rfl) (by simp only[jj_eq,value_Compare_l4_eq m];rfl)
abbrev H20_9 (m M9:Nat) (rec9:Int→Int→Dt→Dt→Option Int):Prop:=∀x0 x1 x2 x3,l20 jn m w20_5 [] M9 (s20_12 x0 x1 x2 x3)=rec9 x0 x1 x2 x3
theorem value_Compare_j12_eq m M9 rec9 (h9:H20_9 m M9 rec9) x0 x1 x2 x3:e20 jn m w20_6 [M9] (s20_12 x0 x1 x2 x3)=value_Compare_j12 m (value_Compare m) rec9 x0 x1 x2 x3:=
 tre (g:=fun J=>(jj J 1 23 M9 (s20_12 x0 (IntKind.wrap .i64 (x1+1)) x2 x3) (l20 J m w20_5 [] M9))) (fun J=>by kernel_rfl) (by simp only[jj_eq,h9];rfl)
theorem value_Compare_j11_eq m M9 rec9 (h9:H20_9 m M9 rec9) x0 x1 x2 x3 x4:e20 jn m w20_7 [M9] (s20_11 x0 x1 x2 x3 x4)=value_Compare_j11 m (value_Compare m) rec9 x0 x1 x2 x3 x4:=
 tre (g:=fun J=>((idx (Dt.L x3 4) x0).bind fun v10=>
  ((idx (Dt.L x4 4) x0).bind fun v11=>
  ((value_Compare m (Dt.fld v10 1) (Dt.fld v11 1)).bind fun r12=>
  (bif (r12 !=0) then
  some r12
  else
  (jj J 0 31 0 (s20_12 x1 x2 x3 x4) (e20 J m w20_6 [M9]))))))) (fun J=>by kernel_rfl) (by simp only[jj_eq,value_Compare_j12_eq m M9 rec9 h9];rfl)
theorem value_Compare_j10_eq m M9 rec9 (h9:H20_9 m M9 rec9) x0 x1 x2 x3:e20 jn m w20_8 [M9] (s20_12 x0 x1 x2 x3)=value_Compare_j10 m (value_Compare m) rec9 x0 x1 x2 x3:=
 tre (g:=fun J=>((idx (Dt.L x2 4) x1).bind fun v7=>
  ((idx (Dt.L x3 4) x1).bind fun v8=>
  ((strings_Compare (Dt.S v7 0) (Dt.S v8 0)).bind fun r9=>
  (bif (r9 !=0) then
  some r9
  else
  (jj J 0 28 0 (s20_11 x1 x0 x1 x2 x3) (e20 J m w20_7 [M9]))))))) (fun J=>by kernel_rfl) (by simp only[jj_eq,value_Compare_j11_eq m M9 rec9 h9];rfl)
theorem value_Compare_j13_eq m x0 x1:e20 jn m w20_9 [] (s20_7 x0 x1)=value_Compare_j13 m (value_Compare m) x0 x1:=
 tre (g:=fun J=>((cmp_Compare m (List.length (Dt.L x0 4):Int) (List.length (Dt.L x1 4):Int)).bind fun r13=>
  some r13)) (fun J=>by kernel_rfl) (by rfl)
theorem value_Compare_l9_eq m:∀M9 x0 x1 x2 x3,l20 jn m w20_5 [] M9 (s20_12 x0 x1 x2 x3)=value_Compare_l9 m (value_Compare m) M9 x0 x1 x2 x3
 |0,_,_,_,_=>rfl
 | M9+1,x0,x1,x2,x3=>
   trl (g:=fun J=>(bif (decide (x1<x0)) then
  (jj J 0 24 0 (s20_12 x0 x1 x2 x3) (e20 J m w20_8 [M9]))
   else
  (jj J 0 32 0 (s20_7 x2 x3) (e20 J m w20_9 [])))) (fun J=>by kernel_rfl) (by simp only[jj_eq,value_Compare_j10_eq m M9 (value_Compare_l9 m (value_Compare m) M9) (value_Compare_l9_eq m M9),value_Compare_j13_eq m];rfl)
theorem value_Compare_j8_eq m x0 x1 x2 x3:e20 jn m w20_10 [] (s20_12 x0 x1 x2 x3)=value_Compare_j8 m (value_Compare m) x0 x1 x2 x3:=
 tre (g:=fun J=>(jj J 1 23 (Nat.succ m) (s20_12 x0 x1 x2 x3) (l20 J m w20_5 [] (Nat.succ m)))) (fun J=>by kernel_rfl) (by simp only[jj_eq,value_Compare_l9_eq m];rfl)
theorem value_Compare_j14_eq m:e20 jn m [1,1,1] [] s20_14=value_Compare_j14 m (value_Compare m):=
 tre (g:=fun J=>some 0) (fun J=>by kernel_rfl) (by rfl)
theorem value_Compare_j2_eq m x0 x1 x2 x3:e20 jn m w20_11 [] (s20_2 x0 x1 x2 x3)=value_Compare_j2 m (value_Compare m) x0 x1 x2 x3:=
 tre (g:=fun J=>(bif x1 then
  ((strings_Compare (Dt.S x2 2) (Dt.S x3 2)).bind fun r2=>
  some r2)
   else
  (bif (x0==6) then
  (jj J 0 14 0 (s20_6 (bif (decide ((List.length (Dt.L x3 3):Int)<(List.length (Dt.L x2 3):Int))) then(List.length (Dt.L x3 3):Int) else(List.length (Dt.L x2 3):Int)) 0 x2 x3) (e20 J m w20_4 []))
  else
  (bif (x0==5) then
  (jj J 0 23 0 (s20_12 (bif (decide ((List.length (Dt.L x3 4):Int)<(List.length (Dt.L x2 4):Int))) then(List.length (Dt.L x3 4):Int) else(List.length (Dt.L x2 4):Int)) 0 x2 x3) (e20 J m w20_10 []))
  else
  (jj J 0 33 0 s20_14 (e20 J m [1,1,1] [])))))) (fun J=>by kernel_rfl) (by simp only[jj_eq,value_Compare_j3_eq m,value_Compare_j8_eq m,value_Compare_j14_eq m];rfl)
theorem value_Compare_j1_eq m x0 x1 x2 x3:e20 jn m w20_12 [] (s20_1 x0 x1 x2 x3)=value_Compare_j1 m (value_Compare m) x0 x1 x2 x3:=
 tre (g:=fun J=>(bif x1 then
  ((cmp_Compare m (Dt.I x2 1) (Dt.I x3 1)).bind fun r1=>
  some r1)
   else
  (bif (x0==4) then
  (jj J 0 11 0 (s20_2 x0 (x0==4) x2 x3) (e20 J m w20_11 []))
  else
  (bif (x0==7) then
  (jj J 0 11 0 (s20_2 x0 (x0==7) x2 x3) (e20 J m w20_11 []))
  else
  (jj J 0 11 0 (s20_2 x0 (x0==8) x2 x3) (e20 J m w20_11 [])))))) (fun J=>by kernel_rfl) (by simp only[jj_eq,value_Compare_j2_eq m];rfl)
theorem value_Compare_j0_eq m x0 x1:e20 jn m [1,1] [] (s20_7 x0 x1)=value_Compare_j0 m (value_Compare m) x0 x1:=
 tre (g:=fun J=>(bif ((Dt.I x0 0)==3) then
  (jj J 0 7 0 (s20_1 (Dt.I x0 0) ((Dt.I x0 0)==3) x0 x1) (e20 J m w20_12 []))
   else
  (bif ((Dt.I x0 0)==9) then
  (jj J 0 7 0 (s20_1 (Dt.I x0 0) ((Dt.I x0 0)==9) x0 x1) (e20 J m w20_12 []))
  else
  (jj J 0 7 0 (s20_1 (Dt.I x0 0) ((Dt.I x0 0)==10) x0 x1) (e20 J m w20_12 []))))) (fun J=>by kernel_rfl) (by simp only[jj_eq,value_Compare_j1_eq m];rfl)
theorem value_Compare_eq m a0 a1:e20 jn m [] [] ⟨[(.dat 25 a0),(.dat 25 a1)],[],0⟩=value_Compare (m+1) a0 a1:=
 tre (g:=fun J=>(bif ((Dt.I a0 0) !=(Dt.I a1 0)) then
  ((cmp_Compare m (Dt.I a0 0) (Dt.I a1 0)).bind fun r0=>
  some r0)
   else
  (jj J 0 3 0 (s20_7 a0 a1) (e20 J m [1,1] [])))) (fun J=>by kernel_rfl) (by simp only[jj_eq,value_Compare_j0_eq m];rfl)
noncomputable def e19 (J:Nat→Nat→Nat→St→Option Bool→Option Bool) (m:Nat) (p ms:List Nat) (σ:St):=evAt Tryz.prog env (ct m) J (m+1) 47 9 Tryz.f47 d13 p ms σ
noncomputable def l19 (J:Nat→Nat→Nat→St→Option Bool→Option Bool) (m:Nat) (p ms:List Nat) (M:Nat) (σ:St):=loopAt Tryz.prog env (ct m) J (m+1) 47 9 Tryz.f47 d13 p ms M σ
theorem value_Equal_eq m a0 a1:e19 jn m [] [] ⟨[(.dat 25 a0),(.dat 25 a1)],[],0⟩=value_Equal (m+1) a0 a1:=
 tre (g:=fun J=>((value_Compare m a0 a1).bind fun r0=>
  some (r0==0))) (fun J=>by kernel_rfl) (by rfl)
noncomputable def e18 (J:Nat→Nat→Nat→St→Option Bool→Option Bool) (m:Nat) (p ms:List Nat) (σ:St):=evAt Tryz.prog env (ct m) J (m+1) 46 7 Tryz.f46 d13 p ms σ
noncomputable def l18 (J:Nat→Nat→Nat→St→Option Bool→Option Bool) (m:Nat) (p ms:List Nat) (M:Nat) (σ:St):=loopAt Tryz.prog env (ct m) J (m+1) 46 7 Tryz.f46 d13 p ms M σ
theorem i18_eq m a0 a1:e18 jn m [] [] ⟨[(.dat 25 a0),(.rptr 25 a1)],[],0⟩=i18 (m+1) a0 a1:=
 tre (g:=fun J=>((value_Equal m a0 a1).bind fun r0=>
  some r0)) (fun J=>by kernel_rfl) (by rfl)
def w17_1:List Nat:=[1,0,1,0,0,1,1]
def w17_0:List Nat:=w17_1++[1]
noncomputable def e17 (J:Nat→Nat→Nat→St→Option Int→Option Int) (m:Nat) (p ms:List Nat) (σ:St):=evAt Tryz.prog env (ct m) J (m+1) 79 19 Tryz.f79 d9 p ms σ
noncomputable def l17 (J:Nat→Nat→Nat→St→Option Int→Option Int) (m:Nat) (p ms:List Nat) (M:Nat) (σ:St):=loopAt Tryz.prog env (ct m) J (m+1) 79 19 Tryz.f79 d9 p ms M σ
noncomputable def s17_3 (x0:List Dt) (x1:Dt) (x2 x3:Int):St:=⟨tsOf [(0,(.dat 22 (.lst x0))),(1,(.fn 46 [(.rptr 25 x1)])),(7,(.dat 3 (.int x2))),(8,(.dat 3 (.int x3)))],[],0⟩
noncomputable def s17_4:St:=⟨tsOf [],[],0⟩
abbrev H17_1 (m M1:Nat) (rec1:List Dt→Dt→Int→Int→Option Int):Prop:=∀x0 x1 x2 x3,l17 jn m [1,0,1,0] [] M1 (s17_3 x0 x1 x2 x3)=rec1 x0 x1 x2 x3
theorem i17_j3_eq m M1 rec1 (h1:H17_1 m M1 rec1) x0 x1 x2 x3:e17 jn m w17_0 [M1] (s17_3 x0 x1 x2 x3)=i17_j3 m rec1 x0 x1 x2 x3:=
 tre (g:=fun J=>(jj J 1 2 M1 (s17_3 x0 x1 x2 (IntKind.wrap .i64 (x3+1))) (l17 J m [1,0,1,0] [] M1))) (fun J=>by kernel_rfl) (by simp only[jj_eq,h1];rfl)
theorem i17_j2_eq m M1 rec1 (h1:H17_1 m M1 rec1) x0 x1 x2 x3:e17 jn m w17_1 [M1] (s17_3 x0 x1 x2 x3)=i17_j2 m rec1 x0 x1 x2 x3:=
 tre (g:=fun J=>((idx x0 x3).bind fun v0=>
  ((i18 m v0 x1).bind fun r1=>
  (bif r1 then
  some x3
  else
  (jj J 0 6 0 (s17_3 x0 x1 x2 x3) (e17 J m w17_0 [M1])))))) (fun J=>by kernel_rfl) (by simp only[jj_eq,i17_j3_eq m M1 rec1 h1];rfl)
theorem i17_j4_eq m:e17 jn m [1,1] [] s17_4=i17_j4 m:=
 tre (g:=fun J=>some (-1)) (fun J=>by kernel_rfl) (by rfl)
theorem i17_l1_eq m:∀M1 x0 x1 x2 x3,l17 jn m [1,0,1,0] [] M1 (s17_3 x0 x1 x2 x3)=i17_l1 m M1 x0 x1 x2 x3
 |0,_,_,_,_=>rfl
 | M1+1,x0,x1,x2,x3=>
   trl (g:=fun J=>(bif (decide (x3<x2)) then
  (jj J 0 3 0 (s17_3 x0 x1 x2 x3) (e17 J m w17_1 [M1]))
   else
  (jj J 0 7 0 s17_4 (e17 J m [1,1] [])))) (fun J=>by kernel_rfl) (by simp only[jj_eq,i17_j2_eq m M1 (i17_l1 m M1) (i17_l1_eq m M1),i17_j4_eq m];rfl)
theorem i17_j0_eq m x0 x1 x2 x3:e17 jn m [1,0,1] [] (s17_3 x0 x1 x2 x3)=i17_j0 m x0 x1 x2 x3:=
 tre (g:=fun J=>(jj J 1 2 (Nat.succ m) (s17_3 x0 x1 x2 x3) (l17 J m [1,0,1,0] [] (Nat.succ m)))) (fun J=>by kernel_rfl) (by simp only[jj_eq,i17_l1_eq m];rfl)
theorem i17_eq m a0 a1:e17 jn m [] [] ⟨[(.dat 22 (.lst a0)),(.fn 46 [(.rptr 25 a1)])],[],0⟩=i17 (m+1) a0 a1:=
 tre (g:=fun J=>(jj J 0 2 0 (s17_3 a0 a1 (List.length a0:Int) 0) (e17 J m [1,0,1] []))) (fun J=>by kernel_rfl) (by simp only[jj_eq,i17_j0_eq m];rfl)
noncomputable def e16 (J:Nat→Nat→Nat→St→Option Bool→Option Bool) (m:Nat) (p ms:List Nat) (σ:St):=evAt Tryz.prog env (ct m) J (m+1) 49 9 Tryz.f49 d13 p ms σ
noncomputable def l16 (J:Nat→Nat→Nat→St→Option Bool→Option Bool) (m:Nat) (p ms:List Nat) (M:Nat) (σ:St):=loopAt Tryz.prog env (ct m) J (m+1) 49 9 Tryz.f49 d13 p ms M σ
theorem i16_eq m a0 a1:e16 jn m [] [] ⟨[(.dat 22 (.lst a0)),(.fn 46 [(.rptr 25 a1)])],[],0⟩=i16 (m+1) a0 a1:=
 tre (g:=fun J=>((i17 m a0 a1).bind fun r0=>
  some (decide (0≤r0)))) (fun J=>by kernel_rfl) (by rfl)
def w40_3:List Nat:=[1,0,0,1,1]
def w40_4:List Nat:=[1,0,0,1,0,0,1]
def w40_0:List Nat:=w40_4++[0]
def w40_2:List Nat:=w40_0++[0,1]
def w40_1:List Nat:=w40_2++[1]
noncomputable def e40 (J:Nat→Nat→Nat→St→Option (List Dt)→Option (List Dt)) (m:Nat) (p ms:List Nat) (σ:St):=evAt Tryz.prog env (ct m) J (m+1) 118 53 Tryz.f118 d43 p ms σ
noncomputable def l40 (J:Nat→Nat→Nat→St→Option (List Dt)→Option (List Dt)) (m:Nat) (p ms:List Nat) (M:Nat) (σ:St):=loopAt Tryz.prog env (ct m) J (m+1) 118 53 Tryz.f118 d43 p ms M σ
noncomputable def s40_6 (x0 x1 x2 x3:Int) (x4:List Dt):St:=⟨tsOf [(0,(.row 0)),(1,(.dat 3 (.int x0))),(2,(.dat 3 (.int x1))),(3,(.fn 50 [])),(8,(.dat 3 (.int x2))),(9,(.dat 3 (.int x3)))],[(.row 22 x4)],1⟩
noncomputable def s40_7 (x0 x1 x2:Int) (x3:List Dt):St:=⟨tsOf [(0,(.row 0)),(1,(.dat 3 (.int x0))),(2,(.dat 3 (.int x1))),(3,(.fn 50 [])),(8,(.dat 3 (.int x2)))],[(.row 22 x3)],1⟩
abbrev H40_1 (m M1:Nat) (rec1:Int→Int→Int→List Dt→Option (List Dt)):Prop:=∀x0 x1 x2 x3,l40 jn m [1,0] [] M1 (s40_7 x0 x1 x2 x3)=rec1 x0 x1 x2 x3
abbrev H40_4 (m M1 M4:Nat) (rec4:Int→Int→Int→Int→List Dt→Option (List Dt)):Prop:=∀x0 x1 x2 x3 x4,l40 jn m w40_0 [M1] M4 (s40_6 x0 x1 x2 x3 x4)=rec4 x0 x1 x2 x3 x4
theorem i40_j6_eq m M1 rec1 (h1:H40_1 m M1 rec1) M4 rec4 (h4:H40_4 m M1 M4 rec4) x0 x1 x2 x3 x4:e40 jn m w40_1 [M1,M4] (s40_6 x0 x1 x2 x3 x4)=i40_j6 m rec1 rec4 x0 x1 x2 x3 x4:=
 tre (g:=fun J=>(jj J 1 4 M4 (s40_6 x0 x1 x2 (IntKind.wrap .i64 (x3-1)) x4) (l40 J m w40_0 [M1] M4))) (fun J=>by kernel_rfl) (by simp only[jj_eq,h4];rfl)
theorem i40_j5_eq m M1 rec1 (h1:H40_1 m M1 rec1) M4 rec4 (h4:H40_4 m M1 M4 rec4) x0 x1 x2 x3 x4:e40 jn m w40_2 [M1,M4] (s40_6 x0 x1 x2 x3 x4)=i40_j5 m rec1 rec4 x0 x1 x2 x3 x4:=
 tre (g:=fun J=>((inL x4 (IntKind.wrap .i64 (x3-1))).bind fun v5=>
  ((x4[(Int.toNat (IntKind.wrap .i64 (x3-1)))]?).bind fun v6=>
  ((inL x4 x3).bind fun v7=>
  ((x4[(Int.toNat x3)]?).bind fun v8=>
  ((inL x4 x3).bind fun v9=>
  ((x4[(Int.toNat x3)]?).bind fun v10=>
  ((inL (List.set x4 (Int.toNat x3) v6) (IntKind.wrap .i64 (x3-1))).bind fun v11=>
  (((List.set x4 (Int.toNat x3) v6)[(Int.toNat (IntKind.wrap .i64 (x3-1)))]?).bind fun v12=>
  (jj J 0 5 0 (s40_6 x0 x1 x2 x3 (List.set (List.set x4 (Int.toNat x3) v6) (Int.toNat (IntKind.wrap .i64 (x3-1))) v8)) (e40 J m w40_1 [M1,M4]))))))))))) (fun J=>by kernel_rfl) (by simp only[jj_eq,i40_j6_eq m M1 rec1 h1 M4 rec4 h4];rfl)
theorem i40_j7_eq m M1 rec1 (h1:H40_1 m M1 rec1) x0 x1 x2 x3:e40 jn m w40_3 [M1] (s40_7 x0 x1 x2 x3)=i40_j7 m rec1 x0 x1 x2 x3:=
 tre (g:=fun J=>(jj J 1 1 M1 (s40_7 x0 x1 (IntKind.wrap .i64 (x2+1)) x3) (l40 J m [1,0] [] M1))) (fun J=>by kernel_rfl) (by simp only[jj_eq,h1];rfl)
theorem i40_l4_eq m M1 rec1 (h1:H40_1 m M1 rec1):∀M4 x0 x1 x2 x3 x4,l40 jn m w40_0 [M1] M4 (s40_6 x0 x1 x2 x3 x4)=i40_l4 m rec1 M4 x0 x1 x2 x3 x4
 |0,_,_,_,_,_=>rfl
 | M4+1,x0,x1,x2,x3,x4=>
   trl (g:=fun J=>(bif (decide (x0<x3)) then
  ((inL x4 x3).bind fun v0=>
  ((x4[(Int.toNat x3)]?).bind fun v1=>
  ((inL x4 (IntKind.wrap .i64 (x3-1))).bind fun v2=>
  ((x4[(Int.toNat (IntKind.wrap .i64 (x3-1)))]?).bind fun v3=>
  ((value_Compare m v1 v3).bind fun r4=>
  (bif (decide (r4<0)) then
  (jj J 0 6 0 (s40_6 x0 x1 x2 x3 x4) (e40 J m w40_2 [M1,M4]))
  else
  (jj J 0 2 0 (s40_7 x0 x1 x2 x4) (e40 J m w40_3 [M1]))))))))
   else
  (jj J 0 2 0 (s40_7 x0 x1 x2 x4) (e40 J m w40_3 [M1])))) (fun J=>by kernel_rfl) (by simp only[jj_eq,i40_j5_eq m M1 rec1 h1 M4 (i40_l4 m rec1 M4) (i40_l4_eq m M1 rec1 h1 M4),i40_j7_eq m M1 rec1 h1];rfl)
theorem i40_j3_eq m M1 rec1 (h1:H40_1 m M1 rec1) x0 x1 x2 x3 x4:e40 jn m w40_4 [M1] (s40_6 x0 x1 x2 x3 x4)=i40_j3 m rec1 x0 x1 x2 x3 x4:=
 tre (g:=fun J=>(jj J 1 4 (Nat.succ m) (s40_6 x0 x1 x2 x3 x4) (l40 J m w40_0 [M1] (Nat.succ m)))) (fun J=>by kernel_rfl) (by simp only[jj_eq,i40_l4_eq m M1 rec1 h1];rfl)
theorem i40_j2_eq m M1 rec1 (h1:H40_1 m M1 rec1) x0 x1 x2 x3:e40 jn m [1,0,0,1] [M1] (s40_7 x0 x1 x2 x3)=i40_j2 m rec1 x0 x1 x2 x3:=
 tre (g:=fun J=>(jj J 0 4 0 (s40_6 x0 x1 x2 x2 x3) (e40 J m w40_4 [M1]))) (fun J=>by kernel_rfl) (by simp only[jj_eq,i40_j3_eq m M1 rec1 h1];rfl)
theorem i40_l1_eq m:∀M1 x0 x1 x2 x3,l40 jn m [1,0] [] M1 (s40_7 x0 x1 x2 x3)=i40_l1 m M1 x0 x1 x2 x3
 |0,_,_,_,_=>rfl
 | M1+1,x0,x1,x2,x3=>
   trl (g:=fun J=>(bif (decide (x2<x1)) then
  (jj J 0 3 0 (s40_7 x0 x1 x2 x3) (e40 J m [1,0,0,1] [M1]))
   else
  some x3)) (fun J=>by kernel_rfl) (by simp only[jj_eq,i40_j2_eq m M1 (i40_l1 m M1) (i40_l1_eq m M1)];rfl)
theorem i40_j0_eq m x0 x1 x2 x3:e40 jn m [1] [] (s40_7 x0 x1 x2 x3)=i40_j0 m x0 x1 x2 x3:=
 tre (g:=fun J=>(jj J 1 1 (Nat.succ m) (s40_7 x0 x1 x2 x3) (l40 J m [1,0] [] (Nat.succ m)))) (fun J=>by kernel_rfl) (by simp only[jj_eq,i40_l1_eq m];rfl)
theorem i40_eq m a0 a1 a2:e40 jn m [] [] ⟨[(.row 0),(.dat 3 (.int a0)),(.dat 3 (.int a1)),(.fn 50 [])],[(.row 22 a2)],1⟩=i40 (m+1) a0 a1 a2:=
 tre (g:=fun J=>(jj J 0 1 0 (s40_7 a0 a1 (IntKind.wrap .i64 (a0+1)) a2) (e40 J m [1] []))) (fun J=>by kernel_rfl) (by simp only[jj_eq,i40_j0_eq m];rfl)
def w41_7:List Nat:=[0,1,0,1,1]
def w41_6:List Nat:=[0,1,0,1,1,1]
def w41_15:List Nat:=[1,0,1,0,1,1]
def w41_25:List Nat:=[1,1,1,1,1,1]
def w41_0:List Nat:=[0,1,0,1,1,0,0]
def w41_14:List Nat:=w41_15++[1]
def w41_24:List Nat:=w41_25++[1]
def w41_5:List Nat:=w41_6++[0,1]
def w41_8:List Nat:=w41_15++[0,0]
def w41_23:List Nat:=w41_24++[1]
def w41_1:List Nat:=w41_0++[0,1]
def w41_2:List Nat:=w41_5++[0]
def w41_13:List Nat:=w41_14++[0,1]
def w41_16:List Nat:=w41_24++[0,0]
def w41_9:List Nat:=w41_8++[0,1]
def w41_10:List Nat:=w41_13++[0]
def w41_21:List Nat:=w41_23++[1,1]
def w41_4:List Nat:=w41_2++[0,1]
def w41_17:List Nat:=w41_16++[0,1]
def w41_19:List Nat:=w41_21++[1]
def w41_22:List Nat:=w41_23++[1,0,1]
def w41_3:List Nat:=w41_4++[1]
def w41_12:List Nat:=w41_10++[0,1]
def w41_18:List Nat:=w41_19++[1]
def w41_20:List Nat:=w41_21++[0,1]
def w41_11:List Nat:=w41_12++[1]
noncomputable def e41 (J:Nat→Nat→Nat→St→Option (List Dt)→Option (List Dt)) (m:Nat) (p ms:List Nat) (σ:St):=evAt Tryz.prog env (ct m) J (m+1) 119 220 Tryz.f119 d43 p ms σ
noncomputable def l41 (J:Nat→Nat→Nat→St→Option (List Dt)→Option (List Dt)) (m:Nat) (p ms:List Nat) (M:Nat) (σ:St):=loopAt Tryz.prog env (ct m) J (m+1) 119 220 Tryz.f119 d43 p ms M σ
noncomputable def s41_2 (x0 x1 x2:Int) (x3:List Dt):St:=⟨tsOf [(0,(.row 0)),(1,(.dat 3 (.int x0))),(4,(.fn 50 [])),(10,(.dat 3 (.int x1))),(11,(.dat 3 (.int x2)))],[(.row 22 x3)],1⟩
noncomputable def s41_7 (x0 x1:Int) (x2:List Dt):St:=⟨tsOf [(0,(.row 0)),(10,(.dat 3 (.int x0))),(13,(.dat 3 (.int x1)))],[(.row 22 x2)],1⟩
noncomputable def s41_3 (x0 x1:Int) (x2:List Dt):St:=⟨tsOf [(0,(.row 0)),(1,(.dat 3 (.int x0))),(10,(.dat 3 (.int x1)))],[(.row 22 x2)],1⟩
noncomputable def s41_11 (x0 x1 x2:Int) (x3:List Dt):St:=⟨tsOf [(0,(.row 0)),(2,(.dat 3 (.int x0))),(4,(.fn 50 [])),(14,(.dat 3 (.int x1))),(15,(.dat 3 (.int x2)))],[(.row 22 x3)],1⟩
noncomputable def s41_16 (x0 x1:Int) (x2:List Dt):St:=⟨tsOf [(0,(.row 0)),(14,(.dat 3 (.int x0))),(17,(.dat 3 (.int x1)))],[(.row 22 x2)],1⟩
noncomputable def s41_12 (x0 x1:Int) (x2:List Dt):St:=⟨tsOf [(0,(.row 0)),(2,(.dat 3 (.int x0))),(14,(.dat 3 (.int x1)))],[(.row 22 x2)],1⟩
noncomputable def s41_21 (x0 x1 x2 x3 x4 x5 x6 x7:Int) (x8:List Dt):St:=⟨tsOf [(0,(.row 0)),(1,(.dat 3 (.int x0))),(2,(.dat 3 (.int x1))),(3,(.dat 3 (.int x2))),(4,(.fn 50 [])),(18,(.dat 3 (.int x3))),(19,(.dat 3 (.int x4))),(20,(.dat 3 (.int x5))),(21,(.dat 3 (.int x6))),(22,(.dat 3 (.int x7)))],[(.row 22 x8)],1⟩
noncomputable def s41_27 (x0 x1 x2:Int) (x3:Bool) (x4:List Dt):St:=⟨tsOf [(0,(.row 0)),(3,(.dat 3 (.int x0))),(4,(.fn 50 [])),(18,(.dat 3 (.int x1))),(24,(.dat 3 (.int x2))),(213,(.dat 4 (.bool x3)))],[(.row 22 x4)],1⟩
noncomputable def s41_26 (x0 x1 x2:Int) (x3:List Dt):St:=⟨tsOf [(0,(.row 0)),(3,(.dat 3 (.int x0))),(4,(.fn 50 [])),(18,(.dat 3 (.int x1))),(24,(.dat 3 (.int x2)))],[(.row 22 x3)],1⟩
noncomputable def s41_25 (x0 x1 x2 x3 x4:Int) (x5:Bool) (x6:List Dt):St:=⟨tsOf [(0,(.row 0)),(1,(.dat 3 (.int x0))),(3,(.dat 3 (.int x1))),(4,(.fn 50 [])),(18,(.dat 3 (.int x2))),(20,(.dat 3 (.int x3))),(24,(.dat 3 (.int x4))),(199,(.dat 4 (.bool x5)))],[(.row 22 x6)],1⟩
noncomputable def s41_24 (x0 x1 x2 x3 x4:Int) (x5:List Dt):St:=⟨tsOf [(0,(.row 0)),(1,(.dat 3 (.int x0))),(3,(.dat 3 (.int x1))),(4,(.fn 50 [])),(18,(.dat 3 (.int x2))),(20,(.dat 3 (.int x3))),(24,(.dat 3 (.int x4)))],[(.row 22 x5)],1⟩
noncomputable def s41_23 (x0 x1 x2 x3 x4 x5:Int) (x6:Bool) (x7:List Dt):St:=⟨tsOf [(0,(.row 0)),(1,(.dat 3 (.int x0))),(2,(.dat 3 (.int x1))),(3,(.dat 3 (.int x2))),(4,(.fn 50 [])),(18,(.dat 3 (.int x3))),(20,(.dat 3 (.int x4))),(24,(.dat 3 (.int x5))),(185,(.dat 4 (.bool x6)))],[(.row 22 x7)],1⟩
noncomputable def s41_22 (x0 x1 x2 x3 x4 x5:Int) (x6:List Dt):St:=⟨tsOf [(0,(.row 0)),(1,(.dat 3 (.int x0))),(2,(.dat 3 (.int x1))),(3,(.dat 3 (.int x2))),(4,(.fn 50 [])),(18,(.dat 3 (.int x3))),(19,(.dat 3 (.int x4))),(20,(.dat 3 (.int x5)))],[(.row 22 x6)],1⟩
noncomputable def s41_18 (x0 x1 x2 x3 x4 x5 x6:Int) (x7:List Dt):St:=⟨tsOf [(0,(.row 0)),(1,(.dat 3 (.int x0))),(2,(.dat 3 (.int x1))),(3,(.dat 3 (.int x2))),(4,(.fn 50 [])),(18,(.dat 3 (.int x3))),(19,(.dat 3 (.int x4))),(20,(.dat 3 (.int x5))),(21,(.dat 3 (.int x6)))],[(.row 22 x7)],1⟩
noncomputable def s41_17 (x0 x1 x2:Int) (x3:List Dt):St:=⟨tsOf [(0,(.row 0)),(1,(.dat 3 (.int x0))),(2,(.dat 3 (.int x1))),(3,(.dat 3 (.int x2))),(4,(.fn 50 []))],[(.row 22 x3)],1⟩
abbrev H41_1 (m M1:Nat) (rec1:Int→Int→Int→List Dt→Option (List Dt)):Prop:=∀x0 x1 x2 x3,l41 jn m w41_0 [] M1 (s41_2 x0 x1 x2 x3)=rec1 x0 x1 x2 x3
theorem i41_j2_eq m M1 rec1 (h1:H41_1 m M1 rec1) x0 x1 x2 x3:e41 jn m w41_1 [M1] (s41_2 x0 x1 x2 x3)=i41_j2 m (i41 m) rec1 x0 x1 x2 x3:=
 tre (g:=fun J=>((inL x3 (IntKind.wrap .i64 (shrI IntKind.u64 (IntKind.wrap IntKind.u64 (IntKind.wrap .i64 (x1+x2))) 1))).bind fun v0=>
  ((x3[(Int.toNat (IntKind.wrap .i64 (shrI IntKind.u64 (IntKind.wrap IntKind.u64 (IntKind.wrap .i64 (x1+x2))) 1)))]?).bind fun v1=>
  ((inL x3 x0).bind fun v2=>
  ((x3[(Int.toNat x0)]?).bind fun v3=>
  ((value_Compare m v1 v3).bind fun r4=>
  (bif (decide (r4<0)) then
  (jj J 1 3 M1 (s41_2 x0 (IntKind.wrap .i64 ((IntKind.wrap .i64 (shrI IntKind.u64 (IntKind.wrap IntKind.u64 (IntKind.wrap .i64 (x1+x2))) 1))+1)) x2 x3) (l41 J m w41_0 [] M1))
  else
  (jj J 1 3 M1 (s41_2 x0 x1 (IntKind.wrap .i64 (shrI IntKind.u64 (IntKind.wrap IntKind.u64 (IntKind.wrap .i64 (x1+x2))) 1)) x3) (l41 J m w41_0 [] M1))))))))) (fun J=>by kernel_rfl) (by simp only[jj_eq,h1];rfl)
abbrev H41_5 (m M5:Nat) (rec5:Int→Int→List Dt→Option (List Dt)):Prop:=∀x0 x1 x2,l41 jn m w41_2 [] M5 (s41_7 x0 x1 x2)=rec5 x0 x1 x2
theorem i41_j7_eq m M5 rec5 (h5:H41_5 m M5 rec5) x0 x1 x2:e41 jn m w41_3 [M5] (s41_7 x0 x1 x2)=i41_j7 m (i41 m) rec5 x0 x1 x2:=
 tre (g:=fun J=>(jj J 1 9 M5 (s41_7 x0 (IntKind.wrap .i64 (x1+1)) x2) (l41 J m w41_2 [] M5))) (fun J=>by kernel_rfl) (by simp only[jj_eq,h5];rfl)
theorem i41_j6_eq m M5 rec5 (h5:H41_5 m M5 rec5) x0 x1 x2:e41 jn m w41_4 [M5] (s41_7 x0 x1 x2)=i41_j6 m (i41 m) rec5 x0 x1 x2:=
 tre (g:=fun J=>((inL x2 (IntKind.wrap .i64 (x1+1))).bind fun v5=>
  ((x2[(Int.toNat (IntKind.wrap .i64 (x1+1)))]?).bind fun v6=>
  ((inL x2 x1).bind fun v7=>
  ((x2[(Int.toNat x1)]?).bind fun v8=>
  ((inL x2 x1).bind fun v9=>
  ((x2[(Int.toNat x1)]?).bind fun v10=>
  ((inL (List.set x2 (Int.toNat x1) v6) (IntKind.wrap .i64 (x1+1))).bind fun v11=>
  (((List.set x2 (Int.toNat x1) v6)[(Int.toNat (IntKind.wrap .i64 (x1+1)))]?).bind fun v12=>
  (jj J 0 10 0 (s41_7 x0 x1 (List.set (List.set x2 (Int.toNat x1) v6) (Int.toNat (IntKind.wrap .i64 (x1+1))) v8)) (e41 J m w41_3 [M5]))))))))))) (fun J=>by kernel_rfl) (by simp only[jj_eq,i41_j7_eq m M5 rec5 h5];rfl)
theorem i41_l5_eq m:∀M5 x0 x1 x2,l41 jn m w41_2 [] M5 (s41_7 x0 x1 x2)=i41_l5 m (i41 m) M5 x0 x1 x2
 |0,_,_,_=>rfl
 | M5+1,x0,x1,x2=>
   trl (g:=fun J=>(bif (decide (x1<(IntKind.wrap .i64 (x0-1)))) then
  (jj J 0 11 0 (s41_7 x0 x1 x2) (e41 J m w41_4 [M5]))
   else
  some x2)) (fun J=>by kernel_rfl) (by simp only[jj_eq,i41_j6_eq m M5 (i41_l5 m (i41 m) M5) (i41_l5_eq m M5)];rfl)
theorem i41_j4_eq m x0 x1 x2:e41 jn m w41_5 [] (s41_7 x0 x1 x2)=i41_j4 m (i41 m) x0 x1 x2:=
 tre (g:=fun J=>(jj J 1 9 (Nat.succ m) (s41_7 x0 x1 x2) (l41 J m w41_2 [] (Nat.succ m)))) (fun J=>by kernel_rfl) (by simp only[jj_eq,i41_l5_eq m];rfl)
theorem i41_j3_eq m x0 x1 x2:e41 jn m w41_6 [] (s41_3 x0 x1 x2)=i41_j3 m (i41 m) x0 x1 x2:=
 tre (g:=fun J=>(jj J 0 9 0 (s41_7 x1 x0 x2) (e41 J m w41_5 []))) (fun J=>by kernel_rfl) (by simp only[jj_eq,i41_j4_eq m];rfl)
theorem i41_l1_eq m:∀M1 x0 x1 x2 x3,l41 jn m w41_0 [] M1 (s41_2 x0 x1 x2 x3)=i41_l1 m (i41 m) M1 x0 x1 x2 x3
 |0,_,_,_,_=>rfl
 | M1+1,x0,x1,x2,x3=>
   trl (g:=fun J=>(bif (decide (x1<x2)) then
  (jj J 0 4 0 (s41_2 x0 x1 x2 x3) (e41 J m w41_1 [M1]))
   else
  (jj J 0 8 0 (s41_3 x0 x1 x3) (e41 J m w41_6 [])))) (fun J=>by kernel_rfl) (by simp only[jj_eq,i41_j2_eq m M1 (i41_l1 m (i41 m) M1) (i41_l1_eq m M1),i41_j3_eq m];rfl)
theorem i41_j0_eq m x0 x1 x2 x3:e41 jn m w41_7 [] (s41_2 x0 x1 x2 x3)=i41_j0 m (i41 m) x0 x1 x2 x3:=
 tre (g:=fun J=>(jj J 1 3 (Nat.succ m) (s41_2 x0 x1 x2 x3) (l41 J m w41_0 [] (Nat.succ m)))) (fun J=>by kernel_rfl) (by simp only[jj_eq,i41_l1_eq m];rfl)
abbrev H41_10 (m M10:Nat) (rec10:Int→Int→Int→List Dt→Option (List Dt)):Prop:=∀x0 x1 x2 x3,l41 jn m w41_8 [] M10 (s41_11 x0 x1 x2 x3)=rec10 x0 x1 x2 x3
theorem i41_j11_eq m M10 rec10 (h10:H41_10 m M10 rec10) x0 x1 x2 x3:e41 jn m w41_9 [M10] (s41_11 x0 x1 x2 x3)=i41_j11 m (i41 m) rec10 x0 x1 x2 x3:=
 tre (g:=fun J=>((inL x3 x0).bind fun v13=>
  ((x3[(Int.toNat x0)]?).bind fun v14=>
  ((inL x3 (IntKind.wrap .i64 (shrI IntKind.u64 (IntKind.wrap IntKind.u64 (IntKind.wrap .i64 (x1+x2))) 1))).bind fun v15=>
  ((x3[(Int.toNat (IntKind.wrap .i64 (shrI IntKind.u64 (IntKind.wrap IntKind.u64 (IntKind.wrap .i64 (x1+x2))) 1)))]?).bind fun v16=>
  ((value_Compare m v14 v16).bind fun r17=>
  (bif (Bool.not (decide (r17<0))) then
  (jj J 1 15 M10 (s41_11 x0 (IntKind.wrap .i64 ((IntKind.wrap .i64 (shrI IntKind.u64 (IntKind.wrap IntKind.u64 (IntKind.wrap .i64 (x1+x2))) 1))+1)) x2 x3) (l41 J m w41_8 [] M10))
  else
  (jj J 1 15 M10 (s41_11 x0 x1 (IntKind.wrap .i64 (shrI IntKind.u64 (IntKind.wrap IntKind.u64 (IntKind.wrap .i64 (x1+x2))) 1)) x3) (l41 J m w41_8 [] M10))))))))) (fun J=>by kernel_rfl) (by simp only[jj_eq,h10];rfl)
abbrev H41_14 (m M14:Nat) (rec14:Int→Int→List Dt→Option (List Dt)):Prop:=∀x0 x1 x2,l41 jn m w41_10 [] M14 (s41_16 x0 x1 x2)=rec14 x0 x1 x2
theorem i41_j16_eq m M14 rec14 (h14:H41_14 m M14 rec14) x0 x1 x2:e41 jn m w41_11 [M14] (s41_16 x0 x1 x2)=i41_j16 m (i41 m) rec14 x0 x1 x2:=
 tre (g:=fun J=>(jj J 1 21 M14 (s41_16 x0 (IntKind.wrap .i64 (x1-1)) x2) (l41 J m w41_10 [] M14))) (fun J=>by kernel_rfl) (by simp only[jj_eq,h14];rfl)
theorem i41_j15_eq m M14 rec14 (h14:H41_14 m M14 rec14) x0 x1 x2:e41 jn m w41_12 [M14] (s41_16 x0 x1 x2)=i41_j15 m (i41 m) rec14 x0 x1 x2:=
 tre (g:=fun J=>((inL x2 (IntKind.wrap .i64 (x1-1))).bind fun v18=>
  ((x2[(Int.toNat (IntKind.wrap .i64 (x1-1)))]?).bind fun v19=>
  ((inL x2 x1).bind fun v20=>
  ((x2[(Int.toNat x1)]?).bind fun v21=>
  ((inL x2 x1).bind fun v22=>
  ((x2[(Int.toNat x1)]?).bind fun v23=>
  ((inL (List.set x2 (Int.toNat x1) v19) (IntKind.wrap .i64 (x1-1))).bind fun v24=>
  (((List.set x2 (Int.toNat x1) v19)[(Int.toNat (IntKind.wrap .i64 (x1-1)))]?).bind fun v25=>
  (jj J 0 22 0 (s41_16 x0 x1 (List.set (List.set x2 (Int.toNat x1) v19) (Int.toNat (IntKind.wrap .i64 (x1-1))) v21)) (e41 J m w41_11 [M14]))))))))))) (fun J=>by kernel_rfl) (by simp only[jj_eq,i41_j16_eq m M14 rec14 h14];rfl)
theorem i41_l14_eq m:∀M14 x0 x1 x2,l41 jn m w41_10 [] M14 (s41_16 x0 x1 x2)=i41_l14 m (i41 m) M14 x0 x1 x2
 |0,_,_,_=>rfl
 | M14+1,x0,x1,x2=>
   trl (g:=fun J=>(bif (decide (x0<x1)) then
  (jj J 0 23 0 (s41_16 x0 x1 x2) (e41 J m w41_12 [M14]))
   else
  some x2)) (fun J=>by kernel_rfl) (by simp only[jj_eq,i41_j15_eq m M14 (i41_l14 m (i41 m) M14) (i41_l14_eq m M14)];rfl)
theorem i41_j13_eq m x0 x1 x2:e41 jn m w41_13 [] (s41_16 x0 x1 x2)=i41_j13 m (i41 m) x0 x1 x2:=
 tre (g:=fun J=>(jj J 1 21 (Nat.succ m) (s41_16 x0 x1 x2) (l41 J m w41_10 [] (Nat.succ m)))) (fun J=>by kernel_rfl) (by simp only[jj_eq,i41_l14_eq m];rfl)
theorem i41_j12_eq m x0 x1 x2:e41 jn m w41_14 [] (s41_12 x0 x1 x2)=i41_j12 m (i41 m) x0 x1 x2:=
 tre (g:=fun J=>(jj J 0 21 0 (s41_16 x1 x0 x2) (e41 J m w41_13 []))) (fun J=>by kernel_rfl) (by simp only[jj_eq,i41_j13_eq m];rfl)
theorem i41_l10_eq m:∀M10 x0 x1 x2 x3,l41 jn m w41_8 [] M10 (s41_11 x0 x1 x2 x3)=i41_l10 m (i41 m) M10 x0 x1 x2 x3
 |0,_,_,_,_=>rfl
 | M10+1,x0,x1,x2,x3=>
   trl (g:=fun J=>(bif (decide (x1<x2)) then
  (jj J 0 16 0 (s41_11 x0 x1 x2 x3) (e41 J m w41_9 [M10]))
   else
  (jj J 0 20 0 (s41_12 x0 x1 x3) (e41 J m w41_14 [])))) (fun J=>by kernel_rfl) (by simp only[jj_eq,i41_j11_eq m M10 (i41_l10 m (i41 m) M10) (i41_l10_eq m M10),i41_j12_eq m];rfl)
theorem i41_j9_eq m x0 x1 x2 x3:e41 jn m w41_15 [] (s41_11 x0 x1 x2 x3)=i41_j9 m (i41 m) x0 x1 x2 x3:=
 tre (g:=fun J=>(jj J 1 15 (Nat.succ m) (s41_11 x0 x1 x2 x3) (l41 J m w41_8 [] (Nat.succ m)))) (fun J=>by kernel_rfl) (by simp only[jj_eq,i41_l10_eq m];rfl)
abbrev H41_20 (m M20:Nat) (rec20:Int→Int→Int→Int→Int→Int→Int→Int→List Dt→Option (List Dt)):Prop:=∀x0 x1 x2 x3 x4 x5 x6 x7 x8,l41 jn m w41_16 [] M20 (s41_21 x0 x1 x2 x3 x4 x5 x6 x7 x8)=rec20 x0 x1 x2 x3 x4 x5 x6 x7 x8
theorem i41_j21_eq m M20 rec20 (h20:H41_20 m M20 rec20) x0 x1 x2 x3 x4 x5 x6 x7 x8:e41 jn m w41_17 [M20] (s41_21 x0 x1 x2 x3 x4 x5 x6 x7 x8)=i41_j21 m (i41 m) rec20 x0 x1 x2 x3 x4 x5 x6 x7 x8:=
 tre (g:=fun J=>((inL x8 (IntKind.wrap .i64 (x7-(IntKind.wrap .i64 (shrI IntKind.u64 (IntKind.wrap IntKind.u64 (IntKind.wrap .i64 (x5+x6))) 1))))).bind fun v26=>
  ((x8[(Int.toNat (IntKind.wrap .i64 (x7-(IntKind.wrap .i64 (shrI IntKind.u64 (IntKind.wrap IntKind.u64 (IntKind.wrap .i64 (x5+x6))) 1)))))]?).bind fun v27=>
  ((inL x8 (IntKind.wrap .i64 (shrI IntKind.u64 (IntKind.wrap IntKind.u64 (IntKind.wrap .i64 (x5+x6))) 1))).bind fun v28=>
  ((x8[(Int.toNat (IntKind.wrap .i64 (shrI IntKind.u64 (IntKind.wrap IntKind.u64 (IntKind.wrap .i64 (x5+x6))) 1)))]?).bind fun v29=>
  ((value_Compare m v27 v29).bind fun r30=>
  (bif (Bool.not (decide (r30<0))) then
  (jj J 1 33 M20 (s41_21 x0 x1 x2 x3 x4 (IntKind.wrap .i64 ((IntKind.wrap .i64 (shrI IntKind.u64 (IntKind.wrap IntKind.u64 (IntKind.wrap .i64 (x5+x6))) 1))+1)) x6 x7 x8) (l41 J m w41_16 [] M20))
  else
  (jj J 1 33 M20 (s41_21 x0 x1 x2 x3 x4 x5 (IntKind.wrap .i64 (shrI IntKind.u64 (IntKind.wrap IntKind.u64 (IntKind.wrap .i64 (x5+x6))) 1)) x7 x8) (l41 J m w41_16 [] M20))))))))) (fun J=>by kernel_rfl) (by simp only[jj_eq,h20];rfl)
theorem i41_j27_eq m x0 x1 x2 x3 x4:e41 jn m w41_18 [] (s41_27 x0 x1 x2 x3 x4)=i41_j27 m (i41 m) x0 x1 x2 x3 x4:=
 tre (g:=fun J=>(bif x3 then
  ((i41 m x1 x2 x0 x4).bind fun r33=>
  some r33)
   else
  some x4)) (fun J=>by kernel_rfl) (by rfl)
theorem i41_j26_eq m x0 x1 x2 x3:e41 jn m w41_19 [] (s41_26 x0 x1 x2 x3)=i41_j26 m (i41 m) x0 x1 x2 x3:=
 tre (g:=fun J=>(bif (decide (x1<x2)) then
  (jj J 0 44 0 (s41_27 x0 x1 x2 (decide (x2<x0)) x3) (e41 J m w41_18 []))
   else
  (jj J 0 44 0 (s41_27 x0 x1 x2 false x3) (e41 J m w41_18 [])))) (fun J=>by kernel_rfl) (by simp only[jj_eq,i41_j27_eq m];rfl)
theorem i41_j25_eq m x0 x1 x2 x3 x4 x5 x6:e41 jn m w41_20 [] (s41_25 x0 x1 x2 x3 x4 x5 x6)=i41_j25 m (i41 m) x0 x1 x2 x3 x4 x5 x6:=
 tre (g:=fun J=>(bif x5 then
  ((i41 m x0 x3 x2 x6).bind fun r32=>
  (jj J 0 43 0 (s41_26 x1 x2 x4 r32) (e41 J m w41_19 [])))
   else
  (jj J 0 43 0 (s41_26 x1 x2 x4 x6) (e41 J m w41_19 [])))) (fun J=>by kernel_rfl) (by simp only[jj_eq,i41_j26_eq m];rfl)
theorem i41_j24_eq m x0 x1 x2 x3 x4 x5:e41 jn m w41_21 [] (s41_24 x0 x1 x2 x3 x4 x5)=i41_j24 m (i41 m) x0 x1 x2 x3 x4 x5:=
 tre (g:=fun J=>(bif (decide (x0<x3)) then
  (jj J 0 42 0 (s41_25 x0 x1 x2 x3 x4 (decide (x3<x2)) x5) (e41 J m w41_20 []))
   else
  (jj J 0 42 0 (s41_25 x0 x1 x2 x3 x4 false x5) (e41 J m w41_20 [])))) (fun J=>by kernel_rfl) (by simp only[jj_eq,i41_j25_eq m];rfl)
theorem i41_j23_eq m x0 x1 x2 x3 x4 x5 x6 x7:e41 jn m w41_22 [] (s41_23 x0 x1 x2 x3 x4 x5 x6 x7)=i41_j23 m (i41 m) x0 x1 x2 x3 x4 x5 x6 x7:=
 tre (g:=fun J=>(bif x6 then
  ((i42 m x4 x1 x5 x7).bind fun r31=>
  (jj J 0 41 0 (s41_24 x0 x2 x3 x4 x5 r31) (e41 J m w41_21 [])))
   else
  (jj J 0 41 0 (s41_24 x0 x2 x3 x4 x5 x7) (e41 J m w41_21 [])))) (fun J=>by kernel_rfl) (by simp only[jj_eq,i41_j24_eq m];rfl)
theorem i41_j22_eq m x0 x1 x2 x3 x4 x5 x6:e41 jn m w41_23 [] (s41_22 x0 x1 x2 x3 x4 x5 x6)=i41_j22 m (i41 m) x0 x1 x2 x3 x4 x5 x6:=
 tre (g:=fun J=>(bif (decide (x5<x1)) then
  (jj J 0 40 0 (s41_23 x0 x1 x2 x3 x5 (IntKind.wrap .i64 (x4-x5)) (decide (x1<(IntKind.wrap .i64 (x4-x5)))) x6) (e41 J m w41_22 []))
   else
  (jj J 0 40 0 (s41_23 x0 x1 x2 x3 x5 (IntKind.wrap .i64 (x4-x5)) false x6) (e41 J m w41_22 [])))) (fun J=>by kernel_rfl) (by simp only[jj_eq,i41_j23_eq m];rfl)
theorem i41_l20_eq m:∀M20 x0 x1 x2 x3 x4 x5 x6 x7 x8,l41 jn m w41_16 [] M20 (s41_21 x0 x1 x2 x3 x4 x5 x6 x7 x8)=i41_l20 m (i41 m) M20 x0 x1 x2 x3 x4 x5 x6 x7 x8
 |0,_,_,_,_,_,_,_,_,_=>rfl
 | M20+1,x0,x1,x2,x3,x4,x5,x6,x7,x8=>
   trl (g:=fun J=>(bif (decide (x5<x6)) then
  (jj J 0 34 0 (s41_21 x0 x1 x2 x3 x4 x5 x6 x7 x8) (e41 J m w41_17 [M20]))
   else
  (jj J 0 38 0 (s41_22 x0 x1 x2 x3 x4 x5 x8) (e41 J m w41_23 [])))) (fun J=>by kernel_rfl) (by simp only[jj_eq,i41_j21_eq m M20 (i41_l20 m (i41 m) M20) (i41_l20_eq m M20),i41_j22_eq m];rfl)
theorem i41_j19_eq m x0 x1 x2 x3 x4 x5 x6 x7 x8:e41 jn m w41_24 [] (s41_21 x0 x1 x2 x3 x4 x5 x6 x7 x8)=i41_j19 m (i41 m) x0 x1 x2 x3 x4 x5 x6 x7 x8:=
 tre (g:=fun J=>(jj J 1 33 (Nat.succ m) (s41_21 x0 x1 x2 x3 x4 x5 x6 x7 x8) (l41 J m w41_16 [] (Nat.succ m)))) (fun J=>by kernel_rfl) (by simp only[jj_eq,i41_l20_eq m];rfl)
theorem i41_j18_eq m x0 x1 x2 x3 x4 x5 x6 x7:e41 jn m w41_25 [] (s41_18 x0 x1 x2 x3 x4 x5 x6 x7)=i41_j18 m (i41 m) x0 x1 x2 x3 x4 x5 x6 x7:=
 tre (g:=fun J=>(jj J 0 33 0 (s41_21 x0 x1 x2 x3 x4 x5 x6 (IntKind.wrap .i64 (x4-1)) x7) (e41 J m w41_24 []))) (fun J=>by kernel_rfl) (by simp only[jj_eq,i41_j19_eq m];rfl)
theorem i41_j17_eq m x0 x1 x2 x3:e41 jn m [1,1] [] (s41_17 x0 x1 x2 x3)=i41_j17 m (i41 m) x0 x1 x2 x3:=
 tre (g:=fun J=>(bif (decide ((IntKind.wrap .i64 (shrI IntKind.u64 (IntKind.wrap IntKind.u64 (IntKind.wrap .i64 (x0+x2))) 1))<x1)) then
  (jj J 0 32 0 (s41_18 x0 x1 x2 (IntKind.wrap .i64 (shrI IntKind.u64 (IntKind.wrap IntKind.u64 (IntKind.wrap .i64 (x0+x2))) 1)) (IntKind.wrap .i64 ((IntKind.wrap .i64 (shrI IntKind.u64 (IntKind.wrap IntKind.u64 (IntKind.wrap .i64 (x0+x2))) 1))+x1)) (IntKind.wrap .i64 ((IntKind.wrap .i64 ((IntKind.wrap .i64 (shrI IntKind.u64 (IntKind.wrap IntKind.u64 (IntKind.wrap .i64 (x0+x2))) 1))+x1))-x2)) (IntKind.wrap .i64 (shrI IntKind.u64 (IntKind.wrap IntKind.u64 (IntKind.wrap .i64 (x0+x2))) 1)) x3) (e41 J m w41_25 []))
   else
  (jj J 0 32 0 (s41_18 x0 x1 x2 (IntKind.wrap .i64 (shrI IntKind.u64 (IntKind.wrap IntKind.u64 (IntKind.wrap .i64 (x0+x2))) 1)) (IntKind.wrap .i64 ((IntKind.wrap .i64 (shrI IntKind.u64 (IntKind.wrap IntKind.u64 (IntKind.wrap .i64 (x0+x2))) 1))+x1)) x0 x1 x3) (e41 J m w41_25 [])))) (fun J=>by kernel_rfl) (by simp only[jj_eq,i41_j18_eq m];rfl)
theorem i41_j8_eq m x0 x1 x2 x3:e41 jn m [1] [] (s41_17 x0 x1 x2 x3)=i41_j8 m (i41 m) x0 x1 x2 x3:=
 tre (g:=fun J=>(bif ((IntKind.wrap .i64 (x2-x1))==1) then
  (jj J 0 15 0 (s41_11 x1 x0 x1 x3) (e41 J m w41_15 []))
   else
  (jj J 0 24 0 (s41_17 x0 x1 x2 x3) (e41 J m [1,1] [])))) (fun J=>by kernel_rfl) (by simp only[jj_eq,i41_j9_eq m,i41_j17_eq m];rfl)
theorem i41_eq m a0 a1 a2 a3:e41 jn m [] [] ⟨[(.row 0),(.dat 3 (.int a0)),(.dat 3 (.int a1)),(.dat 3 (.int a2)),(.fn 50 [])],[(.row 22 a3)],1⟩=i41 (m+1) a0 a1 a2 a3:=
 tre (g:=fun J=>(bif ((IntKind.wrap .i64 (a1-a0))==1) then
  (jj J 0 3 0 (s41_2 a0 a1 a2 a3) (e41 J m w41_7 []))
   else
  (jj J 0 12 0 (s41_17 a0 a1 a2 a3) (e41 J m [1] [])))) (fun J=>by kernel_rfl) (by simp only[jj_eq,i41_j0_eq m,i41_j8_eq m];rfl)
def w39_1:List Nat:=[1,1,1,1,0]
def w39_0:List Nat:=[1,1,0,0,0,1]
def w39_7:List Nat:=[1,1,1,1,0,0,1]
def w39_6:List Nat:=w39_7++[0,1]
def w39_5:List Nat:=w39_6++[1]
def w39_2:List Nat:=w39_6++[0,0]
def w39_4:List Nat:=w39_5++[1]
def w39_3:List Nat:=w39_2++[0,1]
noncomputable def e39 (J:Nat→Nat→Nat→St→Option (List Dt)→Option (List Dt)) (m:Nat) (p ms:List Nat) (σ:St):=evAt Tryz.prog env (ct m) J (m+1) 110 63 Tryz.f110 d43 p ms σ
noncomputable def l39 (J:Nat→Nat→Nat→St→Option (List Dt)→Option (List Dt)) (m:Nat) (p ms:List Nat) (M:Nat) (σ:St):=loopAt Tryz.prog env (ct m) J (m+1) 110 63 Tryz.f110 d43 p ms M σ
noncomputable def s39_2 (x0 x1 x2 x3:Int) (x4:List Dt):St:=⟨tsOf [(0,(.row 0)),(1,(.dat 3 (.int x0))),(2,(.fn 50 [])),(6,(.dat 3 (.int x1))),(7,(.dat 3 (.int x2))),(8,(.dat 3 (.int x3)))],[(.row 22 x4)],1⟩
noncomputable def s39_11 (x0 x1:Int) (x2:List Dt):St:=⟨tsOf [(0,(.row 0)),(1,(.dat 3 (.int x0))),(2,(.fn 50 [])),(6,(.dat 3 (.int x1)))],[(.row 22 x2)],1⟩
noncomputable def s39_10 (x0 x1 x2:Int) (x3:List Dt):St:=⟨tsOf [(0,(.row 0)),(1,(.dat 3 (.int x0))),(2,(.fn 50 [])),(6,(.dat 3 (.int x1))),(7,(.dat 3 (.int x2)))],[(.row 22 x3)],1⟩
abbrev H39_1 (m M1:Nat) (rec1:Int→Int→Int→Int→List Dt→Option (List Dt)):Prop:=∀x0 x1 x2 x3 x4,l39 jn m [1,1,0,0] [] M1 (s39_2 x0 x1 x2 x3 x4)=rec1 x0 x1 x2 x3 x4
theorem i39_j2_eq m M1 rec1 (h1:H39_1 m M1 rec1) x0 x1 x2 x3 x4:e39 jn m w39_0 [M1] (s39_2 x0 x1 x2 x3 x4)=i39_j2 m rec1 x0 x1 x2 x3 x4:=
 tre (g:=fun J=>((i40 m x2 x3 x4).bind fun r0=>
  (jj J 1 2 M1 (s39_2 x0 x1 x3 (IntKind.wrap .i64 (x3+x1)) r0) (l39 J m [1,1,0,0] [] M1)))) (fun J=>by kernel_rfl) (by simp only[jj_eq,h1];rfl)
abbrev H39_5 (m M5:Nat) (rec5:Int→Int→List Dt→Option (List Dt)):Prop:=∀x0 x1 x2,l39 jn m w39_1 [] M5 (s39_11 x0 x1 x2)=rec5 x0 x1 x2
abbrev H39_8 (m M5 M8:Nat) (rec8:Int→Int→Int→Int→List Dt→Option (List Dt)):Prop:=∀x0 x1 x2 x3 x4,l39 jn m w39_2 [M5] M8 (s39_2 x0 x1 x2 x3 x4)=rec8 x0 x1 x2 x3 x4
theorem i39_j9_eq m M5 rec5 (h5:H39_5 m M5 rec5) M8 rec8 (h8:H39_8 m M5 M8 rec8) x0 x1 x2 x3 x4:e39 jn m w39_3 [M5,M8] (s39_2 x0 x1 x2 x3 x4)=i39_j9 m rec5 rec8 x0 x1 x2 x3 x4:=
 tre (g:=fun J=>((i41 m x2 (IntKind.wrap .i64 (x2+x1)) x3 x4).bind fun r2=>
  (jj J 1 9 M8 (s39_2 x0 x1 x3 (IntKind.wrap .i64 (x3+(IntKind.wrap .i64 (2*x1)))) r2) (l39 J m w39_2 [M5] M8)))) (fun J=>by kernel_rfl) (by simp only[jj_eq,h8];rfl)
theorem i39_j11_eq m M5 rec5 (h5:H39_5 m M5 rec5) x0 x1 x2:e39 jn m w39_4 [M5] (s39_11 x0 x1 x2)=i39_j11 m rec5 x0 x1 x2:=
 tre (g:=fun J=>(jj J 1 7 M5 (s39_11 x0 (IntKind.wrap .i64 (x1*2)) x2) (l39 J m w39_1 [] M5))) (fun J=>by kernel_rfl) (by simp only[jj_eq,h5];rfl)
theorem i39_j10_eq m M5 rec5 (h5:H39_5 m M5 rec5) x0 x1 x2 x3:e39 jn m w39_5 [M5] (s39_10 x0 x1 x2 x3)=i39_j10 m rec5 x0 x1 x2 x3:=
 tre (g:=fun J=>(bif (decide ((IntKind.wrap .i64 (x2+x1))<x0)) then
  ((i41 m x2 (IntKind.wrap .i64 (x2+x1)) x0 x3).bind fun r3=>
  (jj J 0 16 0 (s39_11 x0 x1 r3) (e39 J m w39_4 [M5])))
   else
  (jj J 0 16 0 (s39_11 x0 x1 x3) (e39 J m w39_4 [M5])))) (fun J=>by kernel_rfl) (by simp only[jj_eq,i39_j11_eq m M5 rec5 h5];rfl)
theorem i39_l8_eq m M5 rec5 (h5:H39_5 m M5 rec5):∀M8 x0 x1 x2 x3 x4,l39 jn m w39_2 [M5] M8 (s39_2 x0 x1 x2 x3 x4)=i39_l8 m rec5 M8 x0 x1 x2 x3 x4
 |0,_,_,_,_,_=>rfl
 | M8+1,x0,x1,x2,x3,x4=>
   trl (g:=fun J=>(bif (decide (x3≤x0)) then
  (jj J 0 10 0 (s39_2 x0 x1 x2 x3 x4) (e39 J m w39_3 [M5,M8]))
   else
  (jj J 0 13 0 (s39_10 x0 x1 x2 x4) (e39 J m w39_5 [M5])))) (fun J=>by kernel_rfl) (by simp only[jj_eq,i39_j9_eq m M5 rec5 h5 M8 (i39_l8 m rec5 M8) (i39_l8_eq m M5 rec5 h5 M8),i39_j10_eq m M5 rec5 h5];rfl)
theorem i39_j7_eq m M5 rec5 (h5:H39_5 m M5 rec5) x0 x1 x2 x3 x4:e39 jn m w39_6 [M5] (s39_2 x0 x1 x2 x3 x4)=i39_j7 m rec5 x0 x1 x2 x3 x4:=
 tre (g:=fun J=>(jj J 1 9 (Nat.succ m) (s39_2 x0 x1 x2 x3 x4) (l39 J m w39_2 [M5] (Nat.succ m)))) (fun J=>by kernel_rfl) (by simp only[jj_eq,i39_l8_eq m M5 rec5 h5];rfl)
theorem i39_j6_eq m M5 rec5 (h5:H39_5 m M5 rec5) x0 x1 x2:e39 jn m w39_7 [M5] (s39_11 x0 x1 x2)=i39_j6 m rec5 x0 x1 x2:=
 tre (g:=fun J=>(jj J 0 9 0 (s39_2 x0 x1 0 (IntKind.wrap .i64 (2*x1)) x2) (e39 J m w39_6 [M5]))) (fun J=>by kernel_rfl) (by simp only[jj_eq,i39_j7_eq m M5 rec5 h5];rfl)
theorem i39_l5_eq m:∀M5 x0 x1 x2,l39 jn m w39_1 [] M5 (s39_11 x0 x1 x2)=i39_l5 m M5 x0 x1 x2
 |0,_,_,_=>rfl
 | M5+1,x0,x1,x2=>
   trl (g:=fun J=>(bif (decide (x1<x0)) then
  (jj J 0 8 0 (s39_11 x0 x1 x2) (e39 J m w39_7 [M5]))
   else
  some x2)) (fun J=>by kernel_rfl) (by simp only[jj_eq,i39_j6_eq m M5 (i39_l5 m M5) (i39_l5_eq m M5)];rfl)
theorem i39_j4_eq m x0 x1 x2:e39 jn m [1,1,1,1] [] (s39_11 x0 x1 x2)=i39_j4 m x0 x1 x2:=
 tre (g:=fun J=>(jj J 1 7 (Nat.succ m) (s39_11 x0 x1 x2) (l39 J m w39_1 [] (Nat.succ m)))) (fun J=>by kernel_rfl) (by simp only[jj_eq,i39_l5_eq m];rfl)
theorem i39_j3_eq m x0 x1 x2 x3:e39 jn m [1,1,1] [] (s39_10 x0 x1 x2 x3)=i39_j3 m x0 x1 x2 x3:=
 tre (g:=fun J=>((i40 m x2 x0 x3).bind fun r1=>
  (jj J 0 7 0 (s39_11 x0 x1 r1) (e39 J m [1,1,1,1] [])))) (fun J=>by kernel_rfl) (by simp only[jj_eq,i39_j4_eq m];rfl)
theorem i39_l1_eq m:∀M1 x0 x1 x2 x3 x4,l39 jn m [1,1,0,0] [] M1 (s39_2 x0 x1 x2 x3 x4)=i39_l1 m M1 x0 x1 x2 x3 x4
 |0,_,_,_,_,_=>rfl
 | M1+1,x0,x1,x2,x3,x4=>
   trl (g:=fun J=>(bif (decide (x3≤x0)) then
  (jj J 0 3 0 (s39_2 x0 x1 x2 x3 x4) (e39 J m w39_0 [M1]))
   else
  (jj J 0 6 0 (s39_10 x0 x1 x2 x4) (e39 J m [1,1,1] [])))) (fun J=>by kernel_rfl) (by simp only[jj_eq,i39_j2_eq m M1 (i39_l1 m M1) (i39_l1_eq m M1),i39_j3_eq m];rfl)
theorem i39_j0_eq m x0 x1 x2 x3 x4:e39 jn m [1,1] [] (s39_2 x0 x1 x2 x3 x4)=i39_j0 m x0 x1 x2 x3 x4:=
 tre (g:=fun J=>(jj J 1 2 (Nat.succ m) (s39_2 x0 x1 x2 x3 x4) (l39 J m [1,1,0,0] [] (Nat.succ m)))) (fun J=>by kernel_rfl) (by simp only[jj_eq,i39_l1_eq m];rfl)
theorem i39_eq m a0 a1:e39 jn m [] [] ⟨[(.row 0),(.dat 3 (.int a0)),(.fn 50 [])],[(.row 22 a1)],1⟩=i39 (m+1) a0 a1:=
 tre (g:=fun J=>(jj J 0 2 0 (s39_2 a0 20 0 20 a1) (e39 J m [1,1] []))) (fun J=>by kernel_rfl) (by simp only[jj_eq,i39_j0_eq m];rfl)
noncomputable def e38 (J:Nat→Nat→Nat→St→Option (List Dt)→Option (List Dt)) (m:Nat) (p ms:List Nat) (σ:St):=evAt Tryz.prog env (ct m) J (m+1) 84 9 Tryz.f84 d43 p ms σ
noncomputable def l38 (J:Nat→Nat→Nat→St→Option (List Dt)→Option (List Dt)) (m:Nat) (p ms:List Nat) (M:Nat) (σ:St):=loopAt Tryz.prog env (ct m) J (m+1) 84 9 Tryz.f84 d43 p ms M σ
theorem i38_eq m a0:e38 jn m [] [] ⟨[(.row 0),(.fn 50 [])],[(.row 22 a0)],1⟩=i38 (m+1) a0:=
 tre (g:=fun J=>((i39 m (List.length a0:Int) a0).bind fun r0=>
  some r0)) (fun J=>by kernel_rfl) (by rfl)
def w26_3:List Nat:=[1,1,1,0,1]
def w26_0:List Nat:=[1,1,1,0,1,0]
def w26_2:List Nat:=w26_0++[0,1]
def w26_1:List Nat:=w26_2++[1]
noncomputable def e26 (J:Nat→Nat→Nat→St→Option Bool→Option Bool) (m:Nat) (p ms:List Nat) (σ:St):=evAt Tryz.prog env (ct m) J (m+1) 55 25 Tryz.f55 d13 p ms σ
noncomputable def l26 (J:Nat→Nat→Nat→St→Option Bool→Option Bool) (m:Nat) (p ms:List Nat) (M:Nat) (σ:St):=loopAt Tryz.prog env (ct m) J (m+1) 55 25 Tryz.f55 d13 p ms M σ
noncomputable def s26_3 (x0:Int) (x1:List Dt):St:=⟨tsOf [(3,(.row 0)),(4,(.dat 3 (.int x0)))],[(.row 22 x1)],0⟩
noncomputable def s26_4:St:=⟨tsOf [],[],0⟩
abbrev H26_1 (m M1:Nat) (rec1:Int→List Dt→Option Bool):Prop:=∀x0 x1,l26 jn m w26_0 [] M1 (s26_3 x0 x1)=rec1 x0 x1
theorem schema_repeats_j3_eq m M1 rec1 (h1:H26_1 m M1 rec1) x0 x1:e26 jn m w26_1 [M1] (s26_3 x0 x1)=schema_repeats_j3 m rec1 x0 x1:=
 tre (g:=fun J=>(jj J 1 4 M1 (s26_3 (IntKind.wrap .i64 (x0+1)) x1) (l26 J m w26_0 [] M1))) (fun J=>by kernel_rfl) (by simp only[jj_eq,h1];rfl)
theorem schema_repeats_j2_eq m M1 rec1 (h1:H26_1 m M1 rec1) x0 x1:e26 jn m w26_2 [M1] (s26_3 x0 x1)=schema_repeats_j2 m rec1 x0 x1:=
 tre (g:=fun J=>((inL x1 (IntKind.wrap .i64 (x0-1))).bind fun v2=>
  ((x1[(Int.toNat (IntKind.wrap .i64 (x0-1)))]?).bind fun v3=>
  ((inL x1 x0).bind fun v4=>
  ((x1[(Int.toNat x0)]?).bind fun v5=>
  ((value_Equal m v3 v5).bind fun r6=>
  (bif r6 then
  some true
  else
  (jj J 0 5 0 (s26_3 x0 x1) (e26 J m w26_1 [M1]))))))))) (fun J=>by kernel_rfl) (by simp only[jj_eq,schema_repeats_j3_eq m M1 rec1 h1];rfl)
theorem schema_repeats_j4_eq m:e26 jn m [1,1,1,1] [] s26_4=schema_repeats_j4 m:=
 tre (g:=fun J=>some false) (fun J=>by kernel_rfl) (by rfl)
theorem schema_repeats_l1_eq m:∀M1 x0 x1,l26 jn m w26_0 [] M1 (s26_3 x0 x1)=schema_repeats_l1 m M1 x0 x1
 |0,_,_=>rfl
 | M1+1,x0,x1=>
   trl (g:=fun J=>(bif (decide (x0<(List.length x1:Int))) then
  (jj J 0 6 0 (s26_3 x0 x1) (e26 J m w26_2 [M1]))
   else
  (jj J 0 8 0 s26_4 (e26 J m [1,1,1,1] [])))) (fun J=>by kernel_rfl) (by simp only[jj_eq,schema_repeats_j2_eq m M1 (schema_repeats_l1 m M1) (schema_repeats_l1_eq m M1),schema_repeats_j4_eq m];rfl)
theorem schema_repeats_j0_eq m x0 x1:e26 jn m w26_3 [] (s26_3 x0 x1)=schema_repeats_j0 m x0 x1:=
 tre (g:=fun J=>(jj J 1 4 (Nat.succ m) (s26_3 x0 x1) (l26 J m w26_0 [] (Nat.succ m)))) (fun J=>by kernel_rfl) (by simp only[jj_eq,schema_repeats_l1_eq m];rfl)
theorem schema_repeats_eq m a0:e26 jn m [] [] ⟨[(.dat 22 (.lst a0))],[],0⟩=schema_repeats (m+1) a0:=
 tre (g:=fun J=>((slices_Clone a0).bind fun r0=>
  ((i38 m r0).bind fun r1=>
  (jj J 0 4 0 (s26_3 1 r1) (e26 J m w26_3 []))))) (fun J=>by kernel_rfl) (by simp only[jj_eq,schema_repeats_j0_eq m];rfl)
def w12_28:List Nat:=[1,1,1,1,1]
def w12_27:List Nat:=[1,1,1,1,1,1]
def w12_26:List Nat:=w12_27++[1]
def w12_25:List Nat:=w12_26++[1,1]
def w12_19:List Nat:=w12_25++[1]
def w12_16:List Nat:=w12_19++[1]
def w12_23:List Nat:=w12_25++[0,1,0,1]
def w12_18:List Nat:=w12_19++[0,1,0,1]
def w12_21:List Nat:=w12_23++[1]
def w12_24:List Nat:=w12_25++[0,1,0,0,1]
def w12_0:List Nat:=w12_24++[0]
def w12_17:List Nat:=w12_18++[1]
def w12_20:List Nat:=w12_21++[1]
def w12_22:List Nat:=w12_23++[0,1]
def w12_3:List Nat:=w12_22++[0]
def w12_6:List Nat:=w12_20++[0]
def w12_9:List Nat:=w12_17++[0]
def w12_2:List Nat:=w12_0++[0,1,1]
def w12_1:List Nat:=w12_2++[1]
def w12_5:List Nat:=w12_3++[0,1,1]
def w12_8:List Nat:=w12_6++[0,1,1]
def w12_15:List Nat:=w12_9++[0,1,1]
def w12_4:List Nat:=w12_5++[1]
def w12_7:List Nat:=w12_8++[1]
def w12_13:List Nat:=w12_15++[1]
def w12_14:List Nat:=w12_15++[0,0,1,1]
def w12_10:List Nat:=w12_14++[0]
def w12_12:List Nat:=w12_10++[0,1,1]
def w12_11:List Nat:=w12_12++[1]
noncomputable def e12 (J:Nat→Nat→Nat→St→Option (List Dt)→Option (List Dt)) (m:Nat) (p ms:List Nat) (σ:St):=evAt Tryz.prog env (ct m) J (m+1) 30 211 Tryz.f30 d12 p ms σ
noncomputable def l12 (J:Nat→Nat→Nat→St→Option (List Dt)→Option (List Dt)) (m:Nat) (p ms:List Nat) (M:Nat) (σ:St):=loopAt Tryz.prog env (ct m) J (m+1) 30 211 Tryz.f30 d12 p ms M σ
noncomputable def s12_7 (x0:List Dt) (x1 x2:Int) (x3:List Dt) (x4 x5:Dt) (x6:List Dt):St:=⟨tsOf [(4,(.ptr 1 [] 0)),(5,(.ptr 3 [] 0)),(6,(.ptr 4 [] 0)),(7,(.ptr 5 [] 0)),(9,(.fn 44 [(.ptr 1 [] 0),(.ptr 5 [] 0)])),(102,(.dat 28 (.lst x0))),(103,(.dat 3 (.int x1))),(104,(.dat 3 (.int x2)))],[.gone,(.box 40 (.row 2)),(.row 40 x3),(.box 32 (.dat 32 x4)),(.box 25 (.dat 25 x5)),(.box 28 (.dat 28 (.lst x6)))],1⟩
noncomputable def s12_12 (x0:List Dt) (x1 x2:Int) (x3:List Dt) (x4 x5:Dt) (x6:List Dt):St:=⟨tsOf [(4,(.ptr 1 [] 0)),(5,(.ptr 3 [] 0)),(6,(.ptr 4 [] 0)),(7,(.ptr 5 [] 0)),(9,(.fn 44 [(.ptr 1 [] 0),(.ptr 5 [] 0)])),(122,(.dat 23 (.lst x0))),(123,(.dat 3 (.int x1))),(124,(.dat 3 (.int x2)))],[.gone,(.box 40 (.row 2)),(.row 40 x3),(.box 32 (.dat 32 x4)),(.box 25 (.dat 25 x5)),(.box 28 (.dat 28 (.lst x6)))],1⟩
noncomputable def s12_17 (x0:List Dt) (x1 x2:Int) (x3:List Dt) (x4 x5:Dt) (x6:List Dt):St:=⟨tsOf [(4,(.ptr 1 [] 0)),(5,(.ptr 3 [] 0)),(6,(.ptr 4 [] 0)),(7,(.ptr 5 [] 0)),(9,(.fn 44 [(.ptr 1 [] 0),(.ptr 5 [] 0)])),(145,(.dat 29 (.lst x0))),(146,(.dat 3 (.int x1))),(147,(.dat 3 (.int x2)))],[.gone,(.box 40 (.row 2)),(.row 40 x3),(.box 32 (.dat 32 x4)),(.box 25 (.dat 25 x5)),(.box 28 (.dat 28 (.lst x6)))],1⟩
noncomputable def s12_26 (x0:List Dt) (x1 x2:Int) (x3:List Dt) (x4 x5:Int) (x6:List Dt) (x7:Dt) (x8:List Dt) (x9:Dt):St:=⟨tsOf [(4,(.ptr 1 [] 0)),(6,(.ptr 3 [] 0)),(7,(.ptr 4 [] 0)),(25,(.ptr 5 [] 0)),(184,(.dat 30 (.lst x0))),(185,(.dat 3 (.int x1))),(186,(.dat 3 (.int x2))),(191,(.dat 22 (.lst x3))),(192,(.dat 3 (.int x4))),(193,(.dat 3 (.int x5)))],[.gone,(.box 40 (.row 2)),(.row 40 x6),(.box 25 (.dat 25 x7)),(.box 28 (.dat 28 (.lst x8))),(.box 32 (.dat 32 x9))],1⟩
noncomputable def s12_27 (x0:List Dt) (x1 x2:Int) (x3:List Dt) (x4:Dt) (x5:List Dt):St:=⟨tsOf [(4,(.ptr 1 [] 0)),(6,(.ptr 3 [] 0)),(7,(.ptr 4 [] 0)),(184,(.dat 30 (.lst x0))),(185,(.dat 3 (.int x1))),(186,(.dat 3 (.int x2)))],[.gone,(.box 40 (.row 2)),(.row 40 x3),(.box 25 (.dat 25 x4)),(.box 28 (.dat 28 (.lst x5)))],1⟩
noncomputable def s12_28 (x0:List Dt):St:=⟨tsOf [(4,(.ptr 1 [] 0))],[.gone,(.box 40 (.row 2)),(.row 40 x0)],1⟩
noncomputable def s12_19 (x0:List Dt) (x1 x2:Dt) (x3:List Dt):St:=⟨tsOf [(4,(.ptr 1 [] 0)),(5,(.ptr 3 [] 0)),(6,(.ptr 4 [] 0)),(7,(.ptr 5 [] 0))],[.gone,(.box 40 (.row 2)),(.row 40 x0),(.box 32 (.dat 32 x1)),(.box 25 (.dat 25 x2)),(.box 28 (.dat 28 (.lst x3)))],1⟩
noncomputable def s12_18 (x0:List Dt) (x1 x2:Dt) (x3:List Dt):St:=⟨tsOf [(4,(.ptr 1 [] 0)),(5,(.ptr 3 [] 0)),(6,(.ptr 4 [] 0)),(7,(.ptr 5 [] 0)),(9,(.fn 44 [(.ptr 1 [] 0),(.ptr 5 [] 0)]))],[.gone,(.box 40 (.row 2)),(.row 40 x0),(.box 32 (.dat 32 x1)),(.box 25 (.dat 25 x2)),(.box 28 (.dat 28 (.lst x3)))],1⟩
abbrev H12_5 (m M5:Nat) (rec5:List Dt→Int→Int→List Dt→Dt→Dt→List Dt→Option (List Dt)):Prop:=∀x0 x1 x2 x3 x4 x5 x6,l12 jn m w12_0 [] M5 (s12_7 x0 x1 x2 x3 x4 x5 x6)=rec5 x0 x1 x2 x3 x4 x5 x6
theorem i12_j7_eq m M5 rec5 (h5:H12_5 m M5 rec5) x0 x1 x2 x3 x4 x5 x6:e12 jn m w12_1 [M5] (s12_7 x0 x1 x2 x3 x4 x5 x6)=i12_j7 m (i12 m) rec5 x0 x1 x2 x3 x4 x5 x6:=
 tre (g:=fun J=>(jj J 1 11 M5 (s12_7 x0 x1 (IntKind.wrap .i64 (x2+1)) x3 x4 x5 x6) (l12 J m w12_0 [] M5))) (fun J=>by kernel_rfl) (by simp only[jj_eq,h5];rfl)
theorem i12_j6_eq m M5 rec5 (h5:H12_5 m M5 rec5) x0 x1 x2 x3 x4 x5 x6:e12 jn m w12_2 [M5] (s12_7 x0 x1 x2 x3 x4 x5 x6)=i12_j6 m (i12 m) rec5 x0 x1 x2 x3 x4 x5 x6:=
 tre (g:=fun J=>((idx x0 x2).bind fun v10=>
  ((schema_field m x5 (Dt.toStr v10)).bind fun r11=>
  ((i14 m (Bool.not r11.2) 6 [(Dt.str (Dt.toStr v10))] x3 x6).bind fun r12=>
  (jj J 0 15 0 (s12_7 x0 x1 x2 r12.2 x4 x5 r12.1) (e12 J m w12_1 [M5])))))) (fun J=>by kernel_rfl) (by simp only[jj_eq,i12_j7_eq m M5 rec5 h5];rfl)
abbrev H12_10 (m M10:Nat) (rec10:List Dt→Int→Int→List Dt→Dt→Dt→List Dt→Option (List Dt)):Prop:=∀x0 x1 x2 x3 x4 x5 x6,l12 jn m w12_3 [] M10 (s12_12 x0 x1 x2 x3 x4 x5 x6)=rec10 x0 x1 x2 x3 x4 x5 x6
theorem i12_j12_eq m M10 rec10 (h10:H12_10 m M10 rec10) x0 x1 x2 x3 x4 x5 x6:e12 jn m w12_4 [M10] (s12_12 x0 x1 x2 x3 x4 x5 x6)=i12_j12 m (i12 m) rec10 x0 x1 x2 x3 x4 x5 x6:=
 tre (g:=fun J=>(jj J 1 17 M10 (s12_12 x0 x1 (IntKind.wrap .i64 (x2+1)) x3 x4 x5 x6) (l12 J m w12_3 [] M10))) (fun J=>by kernel_rfl) (by simp only[jj_eq,h10];rfl)
theorem i12_j11_eq m M10 rec10 (h10:H12_10 m M10 rec10) x0 x1 x2 x3 x4 x5 x6:e12 jn m w12_5 [M10] (s12_12 x0 x1 x2 x3 x4 x5 x6)=i12_j11 m (i12 m) rec10 x0 x1 x2 x3 x4 x5 x6:=
 tre (g:=fun J=>((idx x0 x2).bind fun v13=>
  (bif (Dt.B x4 10) then
  ((i23 m (Dt.L x4 9) v13).bind fun r14=>
  ((i14 m (Bool.not r14) 7 [(Dt.str (Dt.S v13 0))] x3 x6).bind fun r15=>
  (jj J 0 21 0 (s12_12 x0 x1 x2 r15.2 x4 x5 r15.1) (e12 J m w12_4 [M10]))))
  else
  ((i14 m false 7 [(Dt.str (Dt.S v13 0))] x3 x6).bind fun r16=>
  (jj J 0 21 0 (s12_12 x0 x1 x2 r16.2 x4 x5 r16.1) (e12 J m w12_4 [M10])))))) (fun J=>by kernel_rfl) (by simp only[jj_eq,i12_j12_eq m M10 rec10 h10];rfl)
abbrev H12_15 (m M15:Nat) (rec15:List Dt→Int→Int→List Dt→Dt→Dt→List Dt→Option (List Dt)):Prop:=∀x0 x1 x2 x3 x4 x5 x6,l12 jn m w12_6 [] M15 (s12_17 x0 x1 x2 x3 x4 x5 x6)=rec15 x0 x1 x2 x3 x4 x5 x6
theorem i12_j17_eq m M15 rec15 (h15:H12_15 m M15 rec15) x0 x1 x2 x3 x4 x5 x6:e12 jn m w12_7 [M15] (s12_17 x0 x1 x2 x3 x4 x5 x6)=i12_j17 m (i12 m) rec15 x0 x1 x2 x3 x4 x5 x6:=
 tre (g:=fun J=>(jj J 1 23 M15 (s12_17 x0 x1 (IntKind.wrap .i64 (x2+1)) x3 x4 x5 x6) (l12 J m w12_6 [] M15))) (fun J=>by kernel_rfl) (by simp only[jj_eq,h15];rfl)
theorem i12_j16_eq m M15 rec15 (h15:H12_15 m M15 rec15) x0 x1 x2 x3 x4 x5 x6:e12 jn m w12_8 [M15] (s12_17 x0 x1 x2 x3 x4 x5 x6)=i12_j16 m (i12 m) rec15 x0 x1 x2 x3 x4 x5 x6:=
 tre (g:=fun J=>((idx x0 x2).bind fun v17=>
  ((schema_field m x5 (Dt.S v17 0)).bind fun r18=>
  (bif r18.2 then
  ((slices_Concat m [(Dt.lst x6),(Dt.lst [(Dt.str (Dt.S v17 0))])]).bind fun r19=>
  ((i12 m (Dt.fld v17 1) r18.1 r19 x3).bind fun r20=>
  (jj J 0 28 0 (s12_17 x0 x1 x2 r20 x4 x5 x6) (e12 J m w12_7 [M15]))))
  else
  (jj J 0 28 0 (s12_17 x0 x1 x2 x3 x4 x5 x6) (e12 J m w12_7 [M15])))))) (fun J=>by kernel_rfl) (by simp only[jj_eq,i12_j17_eq m M15 rec15 h15];rfl)
abbrev H12_21 (m M21:Nat) (rec21:List Dt→Int→Int→List Dt→Dt→List Dt→Option (List Dt)):Prop:=∀x0 x1 x2 x3 x4 x5,l12 jn m w12_9 [] M21 (s12_27 x0 x1 x2 x3 x4 x5)=rec21 x0 x1 x2 x3 x4 x5
abbrev H12_24 (m M21 M24:Nat) (rec24:List Dt→Int→Int→List Dt→Int→Int→List Dt→Dt→List Dt→Dt→Option (List Dt)):Prop:=∀x0 x1 x2 x3 x4 x5 x6 x7 x8 x9,l12 jn m w12_10 [M21] M24 (s12_26 x0 x1 x2 x3 x4 x5 x6 x7 x8 x9)=rec24 x0 x1 x2 x3 x4 x5 x6 x7 x8 x9
theorem i12_j26_eq m M21 rec21 (h21:H12_21 m M21 rec21) M24 rec24 (h24:H12_24 m M21 M24 rec24) x0 x1 x2 x3 x4 x5 x6 x7 x8 x9:e12 jn m w12_11 [M21,M24] (s12_26 x0 x1 x2 x3 x4 x5 x6 x7 x8 x9)=i12_j26 m (i12 m) rec21 rec24 x0 x1 x2 x3 x4 x5 x6 x7 x8 x9:=
 tre (g:=fun J=>(jj J 1 35 M24 (s12_26 x0 x1 x2 x3 x4 (IntKind.wrap .i64 (x5+1)) x6 x7 x8 x9) (l12 J m w12_10 [M21] M24))) (fun J=>by kernel_rfl) (by simp only[jj_eq,h24];rfl)
theorem i12_j25_eq m M21 rec21 (h21:H12_21 m M21 rec21) M24 rec24 (h24:H12_24 m M21 M24 rec24) x0 x1 x2 x3 x4 x5 x6 x7 x8 x9:e12 jn m w12_12 [M21,M24] (s12_26 x0 x1 x2 x3 x4 x5 x6 x7 x8 x9)=i12_j25 m (i12 m) rec21 rec24 x0 x1 x2 x3 x4 x5 x6 x7 x8 x9:=
 tre (g:=fun J=>((idx x3 x5).bind fun v24=>
  ((strconv_Itoa x5).bind fun r25=>
  ((slices_Concat m [(Dt.lst x8),(Dt.lst [(Dt.str r25)])]).bind fun r26=>
  ((i12 m x9 v24 r26 x6).bind fun r27=>
  (jj J 0 38 0 (s12_26 x0 x1 x2 x3 x4 x5 r27 x7 x8 x9) (e12 J m w12_11 [M21,M24]))))))) (fun J=>by kernel_rfl) (by simp only[jj_eq,i12_j26_eq m M21 rec21 h21 M24 rec24 h24];rfl)
theorem i12_j27_eq m M21 rec21 (h21:H12_21 m M21 rec21) x0 x1 x2 x3 x4 x5:e12 jn m w12_13 [M21] (s12_27 x0 x1 x2 x3 x4 x5)=i12_j27 m (i12 m) rec21 x0 x1 x2 x3 x4 x5:=
 tre (g:=fun J=>(jj J 1 32 M21 (s12_27 x0 x1 (IntKind.wrap .i64 (x2+1)) x3 x4 x5) (l12 J m w12_9 [] M21))) (fun J=>by kernel_rfl) (by simp only[jj_eq,h21];rfl)
theorem i12_l24_eq m M21 rec21 (h21:H12_21 m M21 rec21):∀M24 x0 x1 x2 x3 x4 x5 x6 x7 x8 x9,l12 jn m w12_10 [M21] M24 (s12_26 x0 x1 x2 x3 x4 x5 x6 x7 x8 x9)=i12_l24 m (i12 m) rec21 M24 x0 x1 x2 x3 x4 x5 x6 x7 x8 x9
 |0,_,_,_,_,_,_,_,_,_,_=>rfl
 | M24+1,x0,x1,x2,x3,x4,x5,x6,x7,x8,x9=>
   trl (g:=fun J=>(bif (decide (x5<x4)) then
  (jj J 0 36 0 (s12_26 x0 x1 x2 x3 x4 x5 x6 x7 x8 x9) (e12 J m w12_12 [M21,M24]))
   else
  (jj J 0 39 0 (s12_27 x0 x1 x2 x6 x7 x8) (e12 J m w12_13 [M21])))) (fun J=>by kernel_rfl) (by simp only[jj_eq,i12_j25_eq m M21 rec21 h21 M24 (i12_l24 m (i12 m) rec21 M24) (i12_l24_eq m M21 rec21 h21 M24),i12_j27_eq m M21 rec21 h21];rfl)
theorem i12_j23_eq m M21 rec21 (h21:H12_21 m M21 rec21) x0 x1 x2 x3 x4 x5 x6 x7 x8 x9:e12 jn m w12_14 [M21] (s12_26 x0 x1 x2 x3 x4 x5 x6 x7 x8 x9)=i12_j23 m (i12 m) rec21 x0 x1 x2 x3 x4 x5 x6 x7 x8 x9:=
 tre (g:=fun J=>(jj J 1 35 (Nat.succ m) (s12_26 x0 x1 x2 x3 x4 x5 x6 x7 x8 x9) (l12 J m w12_10 [M21] (Nat.succ m)))) (fun J=>by kernel_rfl) (by simp only[jj_eq,i12_l24_eq m M21 rec21 h21];rfl)
theorem i12_j22_eq m M21 rec21 (h21:H12_21 m M21 rec21) x0 x1 x2 x3 x4 x5:e12 jn m w12_15 [M21] (s12_27 x0 x1 x2 x3 x4 x5)=i12_j22 m (i12 m) rec21 x0 x1 x2 x3 x4 x5:=
 tre (g:=fun J=>((idx x0 x2).bind fun v23=>
  (jj J 0 35 0 (s12_26 x0 x1 x2 (Dt.L x4 3) (List.length (Dt.L x4 3):Int) 0 x3 x4 x5 v23) (e12 J m w12_14 [M21])))) (fun J=>by kernel_rfl) (by simp only[jj_eq,i12_j23_eq m M21 rec21 h21];rfl)
theorem i12_j28_eq m x0:e12 jn m w12_16 [] (s12_28 x0)=i12_j28 m (i12 m) x0:=
 tre (g:=fun J=>some x0) (fun J=>by kernel_rfl) (by rfl)
theorem i12_l21_eq m:∀M21 x0 x1 x2 x3 x4 x5,l12 jn m w12_9 [] M21 (s12_27 x0 x1 x2 x3 x4 x5)=i12_l21 m (i12 m) M21 x0 x1 x2 x3 x4 x5
 |0,_,_,_,_,_,_=>rfl
 | M21+1,x0,x1,x2,x3,x4,x5=>
   trl (g:=fun J=>(bif (decide (x2<x1)) then
  (jj J 0 33 0 (s12_27 x0 x1 x2 x3 x4 x5) (e12 J m w12_15 [M21]))
   else
  (jj J 0 40 0 (s12_28 x3) (e12 J m w12_16 [])))) (fun J=>by kernel_rfl) (by simp only[jj_eq,i12_j22_eq m M21 (i12_l21 m (i12 m) M21) (i12_l21_eq m M21),i12_j28_eq m];rfl)
theorem i12_j20_eq m x0 x1 x2 x3 x4 x5:e12 jn m w12_17 [] (s12_27 x0 x1 x2 x3 x4 x5)=i12_j20 m (i12 m) x0 x1 x2 x3 x4 x5:=
 tre (g:=fun J=>(jj J 1 32 (Nat.succ m) (s12_27 x0 x1 x2 x3 x4 x5) (l12 J m w12_9 [] (Nat.succ m)))) (fun J=>by kernel_rfl) (by simp only[jj_eq,i12_l21_eq m];rfl)
theorem i12_j19_eq m x0 x1 x2 x3:e12 jn m w12_18 [] (s12_19 x0 x1 x2 x3)=i12_j19 m (i12 m) x0 x1 x2 x3:=
 tre (g:=fun J=>(jj J 0 32 0 (s12_27 (Dt.L x1 11) (List.length (Dt.L x1 11):Int) 0 x0 x2 x3) (e12 J m w12_17 []))) (fun J=>by kernel_rfl) (by simp only[jj_eq,i12_j20_eq m];rfl)
theorem i12_j18_eq m x0 x1 x2 x3:e12 jn m w12_19 [] (s12_18 x0 x1 x2 x3)=i12_j18 m (i12 m) x0 x1 x2 x3:=
 tre (g:=fun J=>(bif ((Dt.I x2 0)==6) then
  (bif (Dt.B x1 12) then
  ((schema_repeats m (Dt.L x2 3)).bind fun r21=>
  ((i14 m r21 8 [] x0 x3).bind fun r22=>
  (jj J 0 31 0 (s12_19 r22.2 x1 x2 r22.1) (e12 J m w12_18 []))))
  else
  ((i14 m false 8 [] x0 x3).bind fun r28=>
  (jj J 0 31 0 (s12_19 r28.2 x1 x2 r28.1) (e12 J m w12_18 []))))
   else
  (jj J 0 40 0 (s12_28 x0) (e12 J m w12_16 [])))) (fun J=>by kernel_rfl) (by simp only[jj_eq,i12_j19_eq m,i12_j28_eq m];rfl)
theorem i12_l15_eq m:∀M15 x0 x1 x2 x3 x4 x5 x6,l12 jn m w12_6 [] M15 (s12_17 x0 x1 x2 x3 x4 x5 x6)=i12_l15 m (i12 m) M15 x0 x1 x2 x3 x4 x5 x6
 |0,_,_,_,_,_,_,_=>rfl
 | M15+1,x0,x1,x2,x3,x4,x5,x6=>
   trl (g:=fun J=>(bif (decide (x2<x1)) then
  (jj J 0 24 0 (s12_17 x0 x1 x2 x3 x4 x5 x6) (e12 J m w12_8 [M15]))
   else
  (jj J 0 29 0 (s12_18 x3 x4 x5 x6) (e12 J m w12_19 [])))) (fun J=>by kernel_rfl) (by simp only[jj_eq,i12_j16_eq m M15 (i12_l15 m (i12 m) M15) (i12_l15_eq m M15),i12_j18_eq m];rfl)
theorem i12_j14_eq m x0 x1 x2 x3 x4 x5 x6:e12 jn m w12_20 [] (s12_17 x0 x1 x2 x3 x4 x5 x6)=i12_j14 m (i12 m) x0 x1 x2 x3 x4 x5 x6:=
 tre (g:=fun J=>(jj J 1 23 (Nat.succ m) (s12_17 x0 x1 x2 x3 x4 x5 x6) (l12 J m w12_6 [] (Nat.succ m)))) (fun J=>by kernel_rfl) (by simp only[jj_eq,i12_l15_eq m];rfl)
theorem i12_j13_eq m x0 x1 x2 x3:e12 jn m w12_21 [] (s12_18 x0 x1 x2 x3)=i12_j13 m (i12 m) x0 x1 x2 x3:=
 tre (g:=fun J=>(jj J 0 23 0 (s12_17 (Dt.L x1 9) (List.length (Dt.L x1 9):Int) 0 x0 x1 x2 x3) (e12 J m w12_20 []))) (fun J=>by kernel_rfl) (by simp only[jj_eq,i12_j14_eq m];rfl)
theorem i12_l10_eq m:∀M10 x0 x1 x2 x3 x4 x5 x6,l12 jn m w12_3 [] M10 (s12_12 x0 x1 x2 x3 x4 x5 x6)=i12_l10 m (i12 m) M10 x0 x1 x2 x3 x4 x5 x6
 |0,_,_,_,_,_,_,_=>rfl
 | M10+1,x0,x1,x2,x3,x4,x5,x6=>
   trl (g:=fun J=>(bif (decide (x2<x1)) then
  (jj J 0 18 0 (s12_12 x0 x1 x2 x3 x4 x5 x6) (e12 J m w12_5 [M10]))
   else
  (jj J 0 22 0 (s12_18 x3 x4 x5 x6) (e12 J m w12_21 [])))) (fun J=>by kernel_rfl) (by simp only[jj_eq,i12_j11_eq m M10 (i12_l10 m (i12 m) M10) (i12_l10_eq m M10),i12_j13_eq m];rfl)
theorem i12_j9_eq m x0 x1 x2 x3 x4 x5 x6:e12 jn m w12_22 [] (s12_12 x0 x1 x2 x3 x4 x5 x6)=i12_j9 m (i12 m) x0 x1 x2 x3 x4 x5 x6:=
 tre (g:=fun J=>(jj J 1 17 (Nat.succ m) (s12_12 x0 x1 x2 x3 x4 x5 x6) (l12 J m w12_3 [] (Nat.succ m)))) (fun J=>by kernel_rfl) (by simp only[jj_eq,i12_l10_eq m];rfl)
theorem i12_j8_eq m x0 x1 x2 x3:e12 jn m w12_23 [] (s12_18 x0 x1 x2 x3)=i12_j8 m (i12 m) x0 x1 x2 x3:=
 tre (g:=fun J=>(jj J 0 17 0 (s12_12 (Dt.L x2 4) (List.length (Dt.L x2 4):Int) 0 x0 x1 x2 x3) (e12 J m w12_22 []))) (fun J=>by kernel_rfl) (by simp only[jj_eq,i12_j9_eq m];rfl)
theorem i12_l5_eq m:∀M5 x0 x1 x2 x3 x4 x5 x6,l12 jn m w12_0 [] M5 (s12_7 x0 x1 x2 x3 x4 x5 x6)=i12_l5 m (i12 m) M5 x0 x1 x2 x3 x4 x5 x6
 |0,_,_,_,_,_,_,_=>rfl
 | M5+1,x0,x1,x2,x3,x4,x5,x6=>
   trl (g:=fun J=>(bif (decide (x2<x1)) then
  (jj J 0 12 0 (s12_7 x0 x1 x2 x3 x4 x5 x6) (e12 J m w12_2 [M5]))
   else
  (jj J 0 16 0 (s12_18 x3 x4 x5 x6) (e12 J m w12_23 [])))) (fun J=>by kernel_rfl) (by simp only[jj_eq,i12_j6_eq m M5 (i12_l5 m (i12 m) M5) (i12_l5_eq m M5),i12_j8_eq m];rfl)
theorem i12_j4_eq m x0 x1 x2 x3 x4 x5 x6:e12 jn m w12_24 [] (s12_7 x0 x1 x2 x3 x4 x5 x6)=i12_j4 m (i12 m) x0 x1 x2 x3 x4 x5 x6:=
 tre (g:=fun J=>(jj J 1 11 (Nat.succ m) (s12_7 x0 x1 x2 x3 x4 x5 x6) (l12 J m w12_0 [] (Nat.succ m)))) (fun J=>by kernel_rfl) (by simp only[jj_eq,i12_l5_eq m];rfl)
theorem i12_j3_eq m x0 x1 x2 x3:e12 jn m w12_25 [] (s12_18 x0 x1 x2 x3)=i12_j3 m (i12 m) x0 x1 x2 x3:=
 tre (g:=fun J=>(bif ((Dt.I x2 0)==5) then
  (jj J 0 11 0 (s12_7 (Dt.L x1 8) (List.length (Dt.L x1 8):Int) 0 x0 x1 x2 x3) (e12 J m w12_24 []))
   else
  (jj J 0 29 0 (s12_18 x0 x1 x2 x3) (e12 J m w12_19 [])))) (fun J=>by kernel_rfl) (by simp only[jj_eq,i12_j4_eq m,i12_j18_eq m];rfl)
theorem i12_j2_eq m x0 x1 x2 x3:e12 jn m w12_26 [] (s12_18 x0 x1 x2 x3)=i12_j2 m (i12 m) x0 x1 x2 x3:=
 tre (g:=fun J=>((schema_length m x2).bind fun r8=>
  (bif r8.2 then
  (bif (decide (r8.1<(Dt.I x1 6))) then
  ((i14 m true 5 [] x0 x3).bind fun r9=>
  (jj J 0 9 0 (s12_18 r9.2 x1 x2 r9.1) (e12 J m w12_25 [])))
  else
  (bif (decide (0≤(Dt.I x1 7))) then
  ((i14 m (decide ((Dt.I x1 7)<r8.1)) 5 [] x0 x3).bind fun r29=>
  (jj J 0 9 0 (s12_18 r29.2 x1 x2 r29.1) (e12 J m w12_25 [])))
  else
  ((i14 m false 5 [] x0 x3).bind fun r30=>
  (jj J 0 9 0 (s12_18 r30.2 x1 x2 r30.1) (e12 J m w12_25 [])))))
  else
  ((i14 m false 5 [] x0 x3).bind fun r31=>
  (jj J 0 9 0 (s12_18 r31.2 x1 x2 r31.1) (e12 J m w12_25 [])))))) (fun J=>by kernel_rfl) (by simp only[jj_eq,i12_j3_eq m];rfl)
theorem i12_j1_eq m x0 x1 x2 x3:e12 jn m w12_27 [] (s12_18 x0 x1 x2 x3)=i12_j1 m (i12 m) x0 x1 x2 x3:=
 tre (g:=fun J=>(bif (Dt.B x1 3) then
  ((value_Compare m x2 (Dt.fld x1 4)).bind fun r6=>
  ((i14 m (decide (0<r6)) 4 [] x0 x3).bind fun r7=>
  (jj J 0 7 0 (s12_18 r7.2 x1 x2 r7.1) (e12 J m w12_26 []))))
   else
  ((i14 m false 4 [] x0 x3).bind fun r32=>
  (jj J 0 7 0 (s12_18 r32.2 x1 x2 r32.1) (e12 J m w12_26 []))))) (fun J=>by kernel_rfl) (by simp only[jj_eq,i12_j2_eq m];rfl)
theorem i12_j0_eq m x0 x1 x2 x3:e12 jn m w12_28 [] (s12_18 x0 x1 x2 x3)=i12_j0 m (i12 m) x0 x1 x2 x3:=
 tre (g:=fun J=>(bif (Dt.B x1 1) then
  ((value_Compare m x2 (Dt.fld x1 2)).bind fun r4=>
  ((i14 m (decide (r4<0)) 3 [] x0 x3).bind fun r5=>
  (jj J 0 6 0 (s12_18 r5.2 x1 x2 r5.1) (e12 J m w12_27 []))))
   else
  ((i14 m false 3 [] x0 x3).bind fun r33=>
  (jj J 0 6 0 (s12_18 r33.2 x1 x2 r33.1) (e12 J m w12_27 []))))) (fun J=>by kernel_rfl) (by simp only[jj_eq,i12_j1_eq m];rfl)
theorem i12_eq m a0 a1 a2 a3:e12 jn m [] [] ⟨[(.row 0),(.dat 32 a0),(.dat 25 a1),(.dat 28 (.lst a2))],[(.row 40 a3)],1⟩=i12 (m+1) a0 a1 a2 a3:=
 tre (g:=fun J=>((schema_hasKind m (Dt.I a0 0) (Dt.I a1 0)).bind fun r0=>
  ((i14 m (Bool.not r0) 1 [] a3 a2).bind fun r1=>
  (bif (decide (0<(List.length (Dt.L a0 5):Int))) then
  ((i16 m (Dt.L a0 5) a1).bind fun r2=>
  ((i14 m (Bool.not r2) 2 [] r1.2 r1.1).bind fun r3=>
  (jj J 0 5 0 (s12_18 r3.2 a0 a1 r3.1) (e12 J m w12_28 []))))
  else
  ((i14 m false 2 [] r1.2 r1.1).bind fun r34=>
  (jj J 0 5 0 (s12_18 r34.2 a0 a1 r34.1) (e12 J m w12_28 []))))))) (fun J=>by kernel_rfl) (by simp only[jj_eq,i12_j0_eq m];rfl)
noncomputable def e60 (J:Nat→Nat→Nat→St→Option Int→Option Int) (m:Nat) (p ms:List Nat) (σ:St):=evAt Tryz.prog env (ct m) J (m+1) 113 11 Tryz.f113 d9 p ms σ
noncomputable def l60 (J:Nat→Nat→Nat→St→Option Int→Option Int) (m:Nat) (p ms:List Nat) (M:Nat) (σ:St):=loopAt Tryz.prog env (ct m) J (m+1) 113 11 Tryz.f113 d9 p ms M σ
noncomputable def s60_1:St:=⟨tsOf [],[],0⟩
noncomputable def s60_0 (x0 x1:Int):St:=⟨tsOf [(0,(.dat 3 (.int x0))),(1,(.dat 3 (.int x1)))],[],0⟩
theorem ref01_Ints_j1_eq m:e60 jn m [1,1,1] [] s60_1=ref01_Ints_j1 m:=
 tre (g:=fun J=>some 0) (fun J=>by kernel_rfl) (by rfl)
theorem ref01_Ints_j0_eq m x0 x1:e60 jn m [1,1] [] (s60_0 x0 x1)=ref01_Ints_j0 m x0 x1:=
 tre (g:=fun J=>(bif (decide (x1<x0)) then
  some 1
   else
  (jj J 0 5 0 s60_1 (e60 J m [1,1,1] [])))) (fun J=>by kernel_rfl) (by simp only[jj_eq,ref01_Ints_j1_eq m];rfl)
theorem ref01_Ints_eq m a0 a1:e60 jn m [] [] ⟨[(.dat 3 (.int a0)),(.dat 3 (.int a1))],[],0⟩=ref01_Ints (m+1) a0 a1:=
 tre (g:=fun J=>(bif (decide (a0<a1)) then
  some (-1)
   else
  (jj J 0 3 0 (s60_0 a0 a1) (e60 J m [1,1] [])))) (fun J=>by kernel_rfl) (by simp only[jj_eq,ref01_Ints_j0_eq m];rfl)
def w61_1:List Nat:=[1,0,1,0,0,1]
def w61_0:List Nat:=w61_1++[1]
noncomputable def e61 (J:Nat→Nat→Nat→St→Option Int→Option Int) (m:Nat) (p ms:List Nat) (σ:St):=evAt Tryz.prog env (ct m) J (m+1) 114 39 Tryz.f114 d9 p ms σ
noncomputable def l61 (J:Nat→Nat→Nat→St→Option Int→Option Int) (m:Nat) (p ms:List Nat) (M:Nat) (σ:St):=loopAt Tryz.prog env (ct m) J (m+1) 114 39 Tryz.f114 d9 p ms M σ
noncomputable def s61_3 (x0 x1:ByteArray) (x2:Int):St:=⟨tsOf [(0,(.dat 9 (.str x0))),(1,(.dat 9 (.str x1))),(5,(.dat 3 (.int x2)))],[],0⟩
noncomputable def s61_4 (x0 x1:ByteArray):St:=⟨tsOf [(0,(.dat 9 (.str x0))),(1,(.dat 9 (.str x1)))],[],0⟩
abbrev H61_1 (m M1:Nat) (rec1:ByteArray→ByteArray→Int→Option Int):Prop:=∀x0 x1 x2,l61 jn m [1,0,1,0] [] M1 (s61_3 x0 x1 x2)=rec1 x0 x1 x2
theorem ref01_Texts_j3_eq m M1 rec1 (h1:H61_1 m M1 rec1) x0 x1 x2:e61 jn m w61_0 [M1] (s61_3 x0 x1 x2)=ref01_Texts_j3 m rec1 x0 x1 x2:=
 tre (g:=fun J=>(jj J 1 2 M1 (s61_3 x0 x1 (IntKind.wrap .i64 (x2+1))) (l61 J m [1,0,1,0] [] M1))) (fun J=>by kernel_rfl) (by simp only[jj_eq,h1];rfl)
theorem ref01_Texts_j2_eq m M1 rec1 (h1:H61_1 m M1 rec1) x0 x1 x2:e61 jn m w61_1 [M1] (s61_3 x0 x1 x2)=ref01_Texts_j2 m rec1 x0 x1 x2:=
 tre (g:=fun J=>((idxS x0 x2).bind fun v0=>
  ((idxS x1 x2).bind fun v1=>
  (bif (v0 !=v1) then
  ((idxS x0 x2).bind fun v2=>
  ((idxS x1 x2).bind fun v3=>
  ((ref01_Ints m (IntKind.wrap .i64 v2) (IntKind.wrap .i64 v3)).bind fun r4=>
  some r4)))
  else
  (jj J 0 3 0 (s61_3 x0 x1 x2) (e61 J m w61_0 [M1])))))) (fun J=>by kernel_rfl) (by simp only[jj_eq,ref01_Texts_j3_eq m M1 rec1 h1];rfl)
theorem ref01_Texts_j4_eq m x0 x1:e61 jn m [1,1] [] (s61_4 x0 x1)=ref01_Texts_j4 m x0 x1:=
 tre (g:=fun J=>((ref01_Ints m (ByteArray.size x0:Int) (ByteArray.size x1:Int)).bind fun r5=>
  some r5)) (fun J=>by kernel_rfl) (by rfl)
theorem ref01_Texts_l1_eq m:∀M1 x0 x1 x2,l61 jn m [1,0,1,0] [] M1 (s61_3 x0 x1 x2)=ref01_Texts_l1 m M1 x0 x1 x2
 |0,_,_,_=>rfl
 | M1+1,x0,x1,x2=>
   trl (g:=fun J=>(bif (decide (x2<(ByteArray.size x0:Int))) then
  (bif (decide (x2<(ByteArray.size x1:Int))) then
  (jj J 0 4 0 (s61_3 x0 x1 x2) (e61 J m w61_1 [M1]))
  else
  (jj J 0 6 0 (s61_4 x0 x1) (e61 J m [1,1] [])))
   else
  (jj J 0 6 0 (s61_4 x0 x1) (e61 J m [1,1] [])))) (fun J=>by kernel_rfl) (by simp only[jj_eq,ref01_Texts_j2_eq m M1 (ref01_Texts_l1 m M1) (ref01_Texts_l1_eq m M1),ref01_Texts_j4_eq m];rfl)
theorem ref01_Texts_j0_eq m x0 x1 x2:e61 jn m [1,0,1] [] (s61_3 x0 x1 x2)=ref01_Texts_j0 m x0 x1 x2:=
 tre (g:=fun J=>(jj J 1 2 (Nat.succ m) (s61_3 x0 x1 x2) (l61 J m [1,0,1,0] [] (Nat.succ m)))) (fun J=>by kernel_rfl) (by simp only[jj_eq,ref01_Texts_l1_eq m];rfl)
theorem ref01_Texts_eq m a0 a1:e61 jn m [] [] ⟨[(.dat 9 (.str a0)),(.dat 9 (.str a1))],[],0⟩=ref01_Texts (m+1) a0 a1:=
 tre (g:=fun J=>(jj J 0 2 0 (s61_3 a0 a1 0) (e61 J m [1,0,1] []))) (fun J=>by kernel_rfl) (by simp only[jj_eq,ref01_Texts_j0_eq m];rfl)
def w47_12:List Nat:=[1,1,0,1,0,1]
def w47_11:List Nat:=w47_12++[1,1]
def w47_3:List Nat:=w47_11++[1,1,0,1]
def w47_4:List Nat:=w47_11++[1,1,0,0,1]
def w47_0:List Nat:=w47_4++[0]
def w47_9:List Nat:=w47_11++[1,1,1,1,0,1]
def w47_10:List Nat:=w47_11++[1,1,1,1,0,0,1]
def w47_2:List Nat:=w47_0++[0,1]
def w47_5:List Nat:=w47_10++[0]
def w47_1:List Nat:=w47_2++[1]
def w47_8:List Nat:=w47_5++[0,1]
def w47_6:List Nat:=w47_8++[1]
def w47_7:List Nat:=w47_8++[0,0,1,1]
noncomputable def e47 (J:Nat→Nat→Nat→St→Option Int→Option Int) (m:Nat) (p ms:List Nat) (σ:St):=evAt Tryz.prog env (ct m) J (m+1) 87 130 Tryz.f87 d9 p ms σ
noncomputable def l47 (J:Nat→Nat→Nat→St→Option Int→Option Int) (m:Nat) (p ms:List Nat) (M:Nat) (σ:St):=loopAt Tryz.prog env (ct m) J (m+1) 87 130 Tryz.f87 d9 p ms M σ
noncomputable def s47_6 (x0:Int) (x1 x2:Dt):St:=⟨tsOf [(2,(.ptr 0 [] 0)),(3,(.ptr 1 [] 0)),(5,(.dat 3 (.int x0)))],[(.box 25 (.dat 25 x1)),(.box 25 (.dat 25 x2))],0⟩
noncomputable def s47_7 (x0 x1:Dt):St:=⟨tsOf [(2,(.ptr 0 [] 0)),(3,(.ptr 1 [] 0))],[(.box 25 (.dat 25 x0)),(.box 25 (.dat 25 x1))],0⟩
noncomputable def s47_12 (x0:Int) (x1 x2:Dt):St:=⟨tsOf [(2,(.ptr 0 [] 0)),(3,(.ptr 1 [] 0)),(7,(.dat 3 (.int x0)))],[(.box 25 (.dat 25 x1)),(.box 25 (.dat 25 x2))],0⟩
noncomputable def s47_11 (x0 x1:Int) (x2 x3:Dt):St:=⟨tsOf [(2,(.ptr 0 [] 0)),(3,(.ptr 1 [] 0)),(7,(.dat 3 (.int x0))),(8,(.dat 3 (.int x1)))],[(.box 25 (.dat 25 x2)),(.box 25 (.dat 25 x3))],0⟩
noncomputable def s47_14:St:=⟨tsOf [],[],0⟩
noncomputable def s47_2 (x0:Int) (x1:Bool) (x2 x3:Dt):St:=⟨tsOf [(2,(.ptr 0 [] 0)),(3,(.ptr 1 [] 0)),(20,(.dat 3 (.int x0))),(30,(.dat 4 (.bool x1)))],[(.box 25 (.dat 25 x2)),(.box 25 (.dat 25 x3))],0⟩
noncomputable def s47_1 (x0:Int) (x1:Bool) (x2 x3:Dt):St:=⟨tsOf [(2,(.ptr 0 [] 0)),(3,(.ptr 1 [] 0)),(20,(.dat 3 (.int x0))),(21,(.dat 4 (.bool x1)))],[(.box 25 (.dat 25 x2)),(.box 25 (.dat 25 x3))],0⟩
abbrev H47_4 (m M4:Nat) (rec4:Int→Dt→Dt→Option Int):Prop:=∀x0 x1 x2,l47 jn m w47_0 [] M4 (s47_6 x0 x1 x2)=rec4 x0 x1 x2
theorem ref01_Compare_j6_eq m M4 rec4 (h4:H47_4 m M4 rec4) x0 x1 x2:e47 jn m w47_1 [M4] (s47_6 x0 x1 x2)=ref01_Compare_j6 m (ref01_Compare m) rec4 x0 x1 x2:=
 tre (g:=fun J=>(jj J 1 14 M4 (s47_6 (IntKind.wrap .i64 (x0+1)) x1 x2) (l47 J m w47_0 [] M4))) (fun J=>by kernel_rfl) (by simp only[jj_eq,h4];rfl)
theorem ref01_Compare_j5_eq m M4 rec4 (h4:H47_4 m M4 rec4) x0 x1 x2:e47 jn m w47_2 [M4] (s47_6 x0 x1 x2)=ref01_Compare_j5 m (ref01_Compare m) rec4 x0 x1 x2:=
 tre (g:=fun J=>((idx (Dt.L x1 3) x0).bind fun v3=>
  ((idx (Dt.L x2 3) x0).bind fun v4=>
  ((ref01_Compare m v3 v4).bind fun r5=>
  (bif (r5 !=0) then
  some r5
  else
  (jj J 0 15 0 (s47_6 x0 x1 x2) (e47 J m w47_1 [M4]))))))) (fun J=>by kernel_rfl) (by simp only[jj_eq,ref01_Compare_j6_eq m M4 rec4 h4];rfl)
theorem ref01_Compare_j7_eq m x0 x1:e47 jn m w47_3 [] (s47_7 x0 x1)=ref01_Compare_j7 m (ref01_Compare m) x0 x1:=
 tre (g:=fun J=>((ref01_Ints m (List.length (Dt.L x0 3):Int) (List.length (Dt.L x1 3):Int)).bind fun r6=>
  some r6)) (fun J=>by kernel_rfl) (by rfl)
theorem ref01_Compare_l4_eq m:∀M4 x0 x1 x2,l47 jn m w47_0 [] M4 (s47_6 x0 x1 x2)=ref01_Compare_l4 m (ref01_Compare m) M4 x0 x1 x2
 |0,_,_,_=>rfl
 | M4+1,x0,x1,x2=>
   trl (g:=fun J=>(bif (decide (x0<(List.length (Dt.L x1 3):Int))) then
  (bif (decide (x0<(List.length (Dt.L x2 3):Int))) then
  (jj J 0 16 0 (s47_6 x0 x1 x2) (e47 J m w47_2 [M4]))
  else
  (jj J 0 19 0 (s47_7 x1 x2) (e47 J m w47_3 [])))
   else
  (jj J 0 19 0 (s47_7 x1 x2) (e47 J m w47_3 [])))) (fun J=>by kernel_rfl) (by simp only[jj_eq,ref01_Compare_j5_eq m M4 (ref01_Compare_l4 m (ref01_Compare m) M4) (ref01_Compare_l4_eq m M4),ref01_Compare_j7_eq m];rfl)
theorem ref01_Compare_j3_eq m x0 x1 x2:e47 jn m w47_4 [] (s47_6 x0 x1 x2)=ref01_Compare_j3 m (ref01_Compare m) x0 x1 x2:=
 tre (g:=fun J=>(jj J 1 14 (Nat.succ m) (s47_6 x0 x1 x2) (l47 J m w47_0 [] (Nat.succ m)))) (fun J=>by kernel_rfl) (by simp only[jj_eq,ref01_Compare_l4_eq m];rfl)
abbrev H47_9 (m M9:Nat) (rec9:Int→Dt→Dt→Option Int):Prop:=∀x0 x1 x2,l47 jn m w47_5 [] M9 (s47_12 x0 x1 x2)=rec9 x0 x1 x2
theorem ref01_Compare_j12_eq m M9 rec9 (h9:H47_9 m M9 rec9) x0 x1 x2:e47 jn m w47_6 [M9] (s47_12 x0 x1 x2)=ref01_Compare_j12 m (ref01_Compare m) rec9 x0 x1 x2:=
 tre (g:=fun J=>(jj J 1 22 M9 (s47_12 (IntKind.wrap .i64 (x0+1)) x1 x2) (l47 J m w47_5 [] M9))) (fun J=>by kernel_rfl) (by simp only[jj_eq,h9];rfl)
theorem ref01_Compare_j11_eq m M9 rec9 (h9:H47_9 m M9 rec9) x0 x1 x2 x3:e47 jn m w47_7 [M9] (s47_11 x0 x1 x2 x3)=ref01_Compare_j11 m (ref01_Compare m) rec9 x0 x1 x2 x3:=
 tre (g:=fun J=>(bif (x1 !=0) then
  some x1
   else
  (jj J 0 23 0 (s47_12 x0 x2 x3) (e47 J m w47_6 [M9])))) (fun J=>by kernel_rfl) (by simp only[jj_eq,ref01_Compare_j12_eq m M9 rec9 h9];rfl)
theorem ref01_Compare_j10_eq m M9 rec9 (h9:H47_9 m M9 rec9) x0 x1 x2:e47 jn m w47_8 [M9] (s47_12 x0 x1 x2)=ref01_Compare_j10 m (ref01_Compare m) rec9 x0 x1 x2:=
 tre (g:=fun J=>((idx (Dt.L x1 4) x0).bind fun v7=>
  ((idx (Dt.L x2 4) x0).bind fun v8=>
  ((ref01_Texts m (Dt.S v7 0) (Dt.S v8 0)).bind fun r9=>
  (bif (r9==0) then
  ((idx (Dt.L x1 4) x0).bind fun v10=>
  ((idx (Dt.L x2 4) x0).bind fun v11=>
  ((ref01_Compare m (Dt.fld v10 1) (Dt.fld v11 1)).bind fun r12=>
  (jj J 0 27 0 (s47_11 x0 r12 x1 x2) (e47 J m w47_7 [M9])))))
  else
  (jj J 0 27 0 (s47_11 x0 r9 x1 x2) (e47 J m w47_7 [M9]))))))) (fun J=>by kernel_rfl) (by simp only[jj_eq,ref01_Compare_j11_eq m M9 rec9 h9];rfl)
theorem ref01_Compare_j13_eq m x0 x1:e47 jn m w47_9 [] (s47_7 x0 x1)=ref01_Compare_j13 m (ref01_Compare m) x0 x1:=
 tre (g:=fun J=>((ref01_Ints m (List.length (Dt.L x0 4):Int) (List.length (Dt.L x1 4):Int)).bind fun r13=>
  some r13)) (fun J=>by kernel_rfl) (by rfl)
theorem ref01_Compare_l9_eq m:∀M9 x0 x1 x2,l47 jn m w47_5 [] M9 (s47_12 x0 x1 x2)=ref01_Compare_l9 m (ref01_Compare m) M9 x0 x1 x2
 |0,_,_,_=>rfl
 | M9+1,x0,x1,x2=>
   trl (g:=fun J=>(bif (decide (x0<(List.length (Dt.L x1 4):Int))) then
  (bif (decide (x0<(List.length (Dt.L x2 4):Int))) then
  (jj J 0 24 0 (s47_12 x0 x1 x2) (e47 J m w47_8 [M9]))
  else
  (jj J 0 29 0 (s47_7 x1 x2) (e47 J m w47_9 [])))
   else
  (jj J 0 29 0 (s47_7 x1 x2) (e47 J m w47_9 [])))) (fun J=>by kernel_rfl) (by simp only[jj_eq,ref01_Compare_j10_eq m M9 (ref01_Compare_l9 m (ref01_Compare m) M9) (ref01_Compare_l9_eq m M9),ref01_Compare_j13_eq m];rfl)
theorem ref01_Compare_j8_eq m x0 x1 x2:e47 jn m w47_10 [] (s47_12 x0 x1 x2)=ref01_Compare_j8 m (ref01_Compare m) x0 x1 x2:=
 tre (g:=fun J=>(jj J 1 22 (Nat.succ m) (s47_12 x0 x1 x2) (l47 J m w47_5 [] (Nat.succ m)))) (fun J=>by kernel_rfl) (by simp only[jj_eq,ref01_Compare_l9_eq m];rfl)
theorem ref01_Compare_j14_eq m:e47 jn m [1,1,1] [] s47_14=ref01_Compare_j14 m (ref01_Compare m):=
 tre (g:=fun J=>some 0) (fun J=>by kernel_rfl) (by rfl)
theorem ref01_Compare_j2_eq m x0 x1 x2 x3:e47 jn m w47_11 [] (s47_2 x0 x1 x2 x3)=ref01_Compare_j2 m (ref01_Compare m) x0 x1 x2 x3:=
 tre (g:=fun J=>(bif x1 then
  ((ref01_Texts m (Dt.S x2 2) (Dt.S x3 2)).bind fun r2=>
  some r2)
   else
  (bif (x0==6) then
  (jj J 0 14 0 (s47_6 0 x2 x3) (e47 J m w47_4 []))
  else
  (bif (x0==5) then
  (jj J 0 22 0 (s47_12 0 x2 x3) (e47 J m w47_10 []))
  else
  (jj J 0 30 0 s47_14 (e47 J m [1,1,1] [])))))) (fun J=>by kernel_rfl) (by simp only[jj_eq,ref01_Compare_j3_eq m,ref01_Compare_j8_eq m,ref01_Compare_j14_eq m];rfl)
theorem ref01_Compare_j1_eq m x0 x1 x2 x3:e47 jn m w47_12 [] (s47_1 x0 x1 x2 x3)=ref01_Compare_j1 m (ref01_Compare m) x0 x1 x2 x3:=
 tre (g:=fun J=>(bif x1 then
  ((ref01_Ints m (Dt.I x2 1) (Dt.I x3 1)).bind fun r1=>
  some r1)
   else
  (bif (x0==4) then
  (jj J 0 11 0 (s47_2 x0 (x0==4) x2 x3) (e47 J m w47_11 []))
  else
  (bif (x0==7) then
  (jj J 0 11 0 (s47_2 x0 (x0==7) x2 x3) (e47 J m w47_11 []))
  else
  (jj J 0 11 0 (s47_2 x0 (x0==8) x2 x3) (e47 J m w47_11 [])))))) (fun J=>by kernel_rfl) (by simp only[jj_eq,ref01_Compare_j2_eq m];rfl)
theorem ref01_Compare_j0_eq m x0 x1:e47 jn m [1,1] [] (s47_7 x0 x1)=ref01_Compare_j0 m (ref01_Compare m) x0 x1:=
 tre (g:=fun J=>(bif ((Dt.I x0 0)==3) then
  (jj J 0 7 0 (s47_1 (Dt.I x0 0) ((Dt.I x0 0)==3) x0 x1) (e47 J m w47_12 []))
   else
  (bif ((Dt.I x0 0)==9) then
  (jj J 0 7 0 (s47_1 (Dt.I x0 0) ((Dt.I x0 0)==9) x0 x1) (e47 J m w47_12 []))
  else
  (jj J 0 7 0 (s47_1 (Dt.I x0 0) ((Dt.I x0 0)==10) x0 x1) (e47 J m w47_12 []))))) (fun J=>by kernel_rfl) (by simp only[jj_eq,ref01_Compare_j1_eq m];rfl)
theorem ref01_Compare_eq m a0 a1:e47 jn m [] [] ⟨[(.dat 25 a0),(.dat 25 a1)],[],0⟩=ref01_Compare (m+1) a0 a1:=
 tre (g:=fun J=>(bif ((Dt.I a0 0) !=(Dt.I a1 0)) then
  ((ref01_Ints m (Dt.I a0 0) (Dt.I a1 0)).bind fun r0=>
  some r0)
   else
  (jj J 0 3 0 (s47_7 a0 a1) (e47 J m [1,1] [])))) (fun J=>by kernel_rfl) (by simp only[jj_eq,ref01_Compare_j0_eq m];rfl)
noncomputable def e59 (J:Nat→Nat→Nat→St→Option Bool→Option Bool) (m:Nat) (p ms:List Nat) (σ:St):=evAt Tryz.prog env (ct m) J (m+1) 112 9 Tryz.f112 d13 p ms σ
noncomputable def l59 (J:Nat→Nat→Nat→St→Option Bool→Option Bool) (m:Nat) (p ms:List Nat) (M:Nat) (σ:St):=loopAt Tryz.prog env (ct m) J (m+1) 112 9 Tryz.f112 d13 p ms M σ
theorem ref01_Equal_eq m a0 a1:e59 jn m [] [] ⟨[(.dat 25 a0),(.dat 25 a1)],[],0⟩=ref01_Equal (m+1) a0 a1:=
 tre (g:=fun J=>((ref01_Compare m a0 a1).bind fun r0=>
  some (r0==0))) (fun J=>by kernel_rfl) (by rfl)
def w46_1:List Nat:=[1,0,1,0,0,1]
def w46_0:List Nat:=w46_1++[1]
noncomputable def e46 (J:Nat→Nat→Nat→St→Option Bool→Option Bool) (m:Nat) (p ms:List Nat) (σ:St):=evAt Tryz.prog env (ct m) J (m+1) 86 18 Tryz.f86 d13 p ms σ
noncomputable def l46 (J:Nat→Nat→Nat→St→Option Bool→Option Bool) (m:Nat) (p ms:List Nat) (M:Nat) (σ:St):=loopAt Tryz.prog env (ct m) J (m+1) 86 18 Tryz.f86 d13 p ms M σ
noncomputable def s46_3 (x0:List Dt) (x1:Int) (x2:Dt):St:=⟨tsOf [(0,(.dat 22 (.lst x0))),(3,(.ptr 0 [] 0)),(5,(.dat 3 (.int x1)))],[(.box 25 (.dat 25 x2))],0⟩
noncomputable def s46_4:St:=⟨tsOf [],[],0⟩
abbrev H46_1 (m M1:Nat) (rec1:List Dt→Int→Dt→Option Bool):Prop:=∀x0 x1 x2,l46 jn m [1,0,1,0] [] M1 (s46_3 x0 x1 x2)=rec1 x0 x1 x2
theorem ref14_among_j3_eq m M1 rec1 (h1:H46_1 m M1 rec1) x0 x1 x2:e46 jn m w46_0 [M1] (s46_3 x0 x1 x2)=ref14_among_j3 m rec1 x0 x1 x2:=
 tre (g:=fun J=>(jj J 1 2 M1 (s46_3 x0 (IntKind.wrap .i64 (x1+1)) x2) (l46 J m [1,0,1,0] [] M1))) (fun J=>by kernel_rfl) (by simp only[jj_eq,h1];rfl)
theorem ref14_among_j2_eq m M1 rec1 (h1:H46_1 m M1 rec1) x0 x1 x2:e46 jn m w46_1 [M1] (s46_3 x0 x1 x2)=ref14_among_j2 m rec1 x0 x1 x2:=
 tre (g:=fun J=>((idx x0 x1).bind fun v0=>
  ((ref01_Equal m v0 x2).bind fun r1=>
  (bif r1 then
  some true
  else
  (jj J 0 3 0 (s46_3 x0 x1 x2) (e46 J m w46_0 [M1])))))) (fun J=>by kernel_rfl) (by simp only[jj_eq,ref14_among_j3_eq m M1 rec1 h1];rfl)
theorem ref14_among_j4_eq m:e46 jn m [1,1] [] s46_4=ref14_among_j4 m:=
 tre (g:=fun J=>some false) (fun J=>by kernel_rfl) (by rfl)
theorem ref14_among_l1_eq m:∀M1 x0 x1 x2,l46 jn m [1,0,1,0] [] M1 (s46_3 x0 x1 x2)=ref14_among_l1 m M1 x0 x1 x2
 |0,_,_,_=>rfl
 | M1+1,x0,x1,x2=>
   trl (g:=fun J=>(bif (decide (x1<(List.length x0:Int))) then
  (jj J 0 4 0 (s46_3 x0 x1 x2) (e46 J m w46_1 [M1]))
   else
  (jj J 0 6 0 s46_4 (e46 J m [1,1] [])))) (fun J=>by kernel_rfl) (by simp only[jj_eq,ref14_among_j2_eq m M1 (ref14_among_l1 m M1) (ref14_among_l1_eq m M1),ref14_among_j4_eq m];rfl)
theorem ref14_among_j0_eq m x0 x1 x2:e46 jn m [1,0,1] [] (s46_3 x0 x1 x2)=ref14_among_j0 m x0 x1 x2:=
 tre (g:=fun J=>(jj J 1 2 (Nat.succ m) (s46_3 x0 x1 x2) (l46 J m [1,0,1,0] [] (Nat.succ m)))) (fun J=>by kernel_rfl) (by simp only[jj_eq,ref14_among_l1_eq m];rfl)
theorem ref14_among_eq m a0 a1:e46 jn m [] [] ⟨[(.dat 22 (.lst a0)),(.dat 25 a1)],[],0⟩=ref14_among (m+1) a0 a1:=
 tre (g:=fun J=>(jj J 0 2 0 (s46_3 a0 0 a1) (e46 J m [1,0,1] []))) (fun J=>by kernel_rfl) (by simp only[jj_eq,ref14_among_j0_eq m];rfl)
def w62_0:List Nat:=[1,1,0,1,0]
def w62_2:List Nat:=[1,1,0,1,0,0,1]
def w62_1:List Nat:=w62_2++[1]
noncomputable def e62 (J:Nat→Nat→Nat→St→Option Int→Option Int) (m:Nat) (p ms:List Nat) (σ:St):=evAt Tryz.prog env (ct m) J (m+1) 90 25 Tryz.f90 d9 p ms σ
noncomputable def l62 (J:Nat→Nat→Nat→St→Option Int→Option Int) (m:Nat) (p ms:List Nat) (M:Nat) (σ:St):=loopAt Tryz.prog env (ct m) J (m+1) 90 25 Tryz.f90 d9 p ms M σ
noncomputable def s62_4 (x0:ByteArray) (x1:Int) (x2:Dt):St:=⟨tsOf [(1,(.dat 9 (.str x0))),(2,(.ptr 0 [] 0)),(5,(.dat 3 (.int x1)))],[(.box 25 (.dat 25 x2))],0⟩
noncomputable def s62_5:St:=⟨tsOf [],[],0⟩
noncomputable def s62_0 (x0:ByteArray) (x1:Dt):St:=⟨tsOf [(1,(.dat 9 (.str x0))),(2,(.ptr 0 [] 0))],[(.box 25 (.dat 25 x1))],0⟩
abbrev H62_2 (m M2:Nat) (rec2:ByteArray→Int→Dt→Option Int):Prop:=∀x0 x1 x2,l62 jn m w62_0 [] M2 (s62_4 x0 x1 x2)=rec2 x0 x1 x2
theorem ref01_at_j4_eq m M2 rec2 (h2:H62_2 m M2 rec2) x0 x1 x2:e62 jn m w62_1 [M2] (s62_4 x0 x1 x2)=ref01_at_j4 m rec2 x0 x1 x2:=
 tre (g:=fun J=>(jj J 1 4 M2 (s62_4 x0 (IntKind.wrap .i64 (x1+1)) x2) (l62 J m w62_0 [] M2))) (fun J=>by kernel_rfl) (by simp only[jj_eq,h2];rfl)
theorem ref01_at_j3_eq m M2 rec2 (h2:H62_2 m M2 rec2) x0 x1 x2:e62 jn m w62_2 [M2] (s62_4 x0 x1 x2)=ref01_at_j3 m rec2 x0 x1 x2:=
 tre (g:=fun J=>((idx (Dt.L x2 4) x1).bind fun v0=>
  (bif ((ByteArray.toList (Dt.S v0 0))==(ByteArray.toList x0)) then
  some x1
  else
  (jj J 0 5 0 (s62_4 x0 x1 x2) (e62 J m w62_1 [M2]))))) (fun J=>by kernel_rfl) (by simp only[jj_eq,ref01_at_j4_eq m M2 rec2 h2];rfl)
theorem ref01_at_j5_eq m:e62 jn m [1,1,1] [] s62_5=ref01_at_j5 m:=
 tre (g:=fun J=>some (-1)) (fun J=>by kernel_rfl) (by rfl)
theorem ref01_at_l2_eq m:∀M2 x0 x1 x2,l62 jn m w62_0 [] M2 (s62_4 x0 x1 x2)=ref01_at_l2 m M2 x0 x1 x2
 |0,_,_,_=>rfl
 | M2+1,x0,x1,x2=>
   trl (g:=fun J=>(bif (decide (x1<(List.length (Dt.L x2 4):Int))) then
  (jj J 0 6 0 (s62_4 x0 x1 x2) (e62 J m w62_2 [M2]))
   else
  (jj J 0 8 0 s62_5 (e62 J m [1,1,1] [])))) (fun J=>by kernel_rfl) (by simp only[jj_eq,ref01_at_j3_eq m M2 (ref01_at_l2 m M2) (ref01_at_l2_eq m M2),ref01_at_j5_eq m];rfl)
theorem ref01_at_j1_eq m x0 x1 x2:e62 jn m [1,1,0,1] [] (s62_4 x0 x1 x2)=ref01_at_j1 m x0 x1 x2:=
 tre (g:=fun J=>(jj J 1 4 (Nat.succ m) (s62_4 x0 x1 x2) (l62 J m w62_0 [] (Nat.succ m)))) (fun J=>by kernel_rfl) (by simp only[jj_eq,ref01_at_l2_eq m];rfl)
theorem ref01_at_j0_eq m x0 x1:e62 jn m [1,1] [] (s62_0 x0 x1)=ref01_at_j0 m x0 x1:=
 tre (g:=fun J=>(jj J 0 4 0 (s62_4 x0 0 x1) (e62 J m [1,1,0,1] []))) (fun J=>by kernel_rfl) (by simp only[jj_eq,ref01_at_j1_eq m];rfl)
theorem ref01_at_eq m a0 a1:e62 jn m [] [] ⟨[(.dat 25 a0),(.dat 9 (.str a1))],[],0⟩=ref01_at (m+1) a0 a1:=
 tre (g:=fun J=>(bif ((Dt.I a0 0) !=5) then
  some (-1)
   else
  (jj J 0 3 0 (s62_0 a1 a0) (e62 J m [1,1] [])))) (fun J=>by kernel_rfl) (by simp only[jj_eq,ref01_at_j0_eq m];rfl)
noncomputable def e49 (J:Nat→Nat→Nat→St→Option (Dt×Bool)→Option (Dt×Bool)) (m:Nat) (p ms:List Nat) (σ:St):=evAt Tryz.prog env (ct m) J (m+1) 58 19 Tryz.f58 d22 p ms σ
noncomputable def l49 (J:Nat→Nat→Nat→St→Option (Dt×Bool)→Option (Dt×Bool)) (m:Nat) (p ms:List Nat) (M:Nat) (σ:St):=loopAt Tryz.prog env (ct m) J (m+1) 58 19 Tryz.f58 d22 p ms M σ
noncomputable def s49_0 (x0:Int) (x1 x2:Dt):St:=⟨tsOf [(2,(.ptr 0 [] 0)),(4,(.ptr 1 [] 0)),(6,(.dat 3 (.int x0)))],[(.box 25 (.dat 25 x1)),(.box 25 (.dat 25 x2))],0⟩
theorem ref01_Get_j0_eq m x0 x1 x2:e49 jn m [1,1,1] [] (s49_0 x0 x1 x2)=ref01_Get_j0 m x0 x1 x2:=
 tre (g:=fun J=>((idx (Dt.L x1 4) x0).bind fun v1=>
  some ((Dt.fld v1 1),true))) (fun J=>by kernel_rfl) (by rfl)
theorem ref01_Get_eq m a0 a1:e49 jn m [] [] ⟨[(.dat 25 a0),(.dat 9 (.str a1))],[],0⟩=ref01_Get (m+1) a0 a1:=
 tre (g:=fun J=>((ref01_at m a0 a1).bind fun r0=>
  (bif (decide (r0<0)) then
  some (kza2373,false)
  else
  (jj J 0 4 0 (s49_0 r0 a0 kza2373) (e49 J m [1,1,1] []))))) (fun J=>by kernel_rfl) (by simp only[jj_eq,ref01_Get_j0_eq m];rfl)
def w45_21:List Nat:=[1,1,1,1,1]
def w45_23:List Nat:=[1,1,1,0,1]
def w45_19:List Nat:=[1,1,1,1,1,1]
def w45_22:List Nat:=[1,1,1,1,0,1]
def w45_20:List Nat:=[1,1,1,1,1,0,1]
def w45_17:List Nat:=w45_19++[1,1]
def w45_13:List Nat:=w45_17++[1]
def w45_18:List Nat:=w45_19++[1,0,1]
def w45_9:List Nat:=w45_13++[1]
def w45_12:List Nat:=w45_13++[0,1]
def w45_15:List Nat:=w45_17++[0,1,0,1]
def w45_14:List Nat:=w45_15++[1]
def w45_16:List Nat:=w45_17++[0,1,0,0,1]
def w45_0:List Nat:=w45_16++[0]
def w45_3:List Nat:=w45_14++[0]
def w45_10:List Nat:=w45_12++[0,1,1]
def w45_11:List Nat:=w45_12++[0,1,0,1]
def w45_2:List Nat:=w45_0++[0,1]
def w45_5:List Nat:=w45_3++[0,1]
def w45_6:List Nat:=w45_11++[0]
def w45_1:List Nat:=w45_2++[1]
def w45_4:List Nat:=w45_5++[1]
def w45_8:List Nat:=w45_6++[0,1]
def w45_7:List Nat:=w45_8++[1]
noncomputable def e45 (J:Nat→Nat→Nat→St→Option (List Dt)→Option (List Dt)) (m:Nat) (p ms:List Nat) (σ:St):=evAt Tryz.prog env (ct m) J (m+1) 57 214 Tryz.f57 d45 p ms σ
noncomputable def l45 (J:Nat→Nat→Nat→St→Option (List Dt)→Option (List Dt)) (m:Nat) (p ms:List Nat) (M:Nat) (σ:St):=loopAt Tryz.prog env (ct m) J (m+1) 57 214 Tryz.f57 d45 p ms M σ
noncomputable def s45_13 (x0:List Dt) (x1:Int) (x2 x3:Dt) (x4:List Dt):St:=⟨tsOf [(2,(.dat 28 (.lst x0))),(3,(.ptr 0 [] 0)),(4,(.ptr 1 [] 0)),(7,(.row 2)),(10,(.dat 3 (.int x1)))],[(.box 32 (.dat 32 x2)),(.box 25 (.dat 25 x3)),(.row 40 x4)],0⟩
noncomputable def s45_18 (x0:List Dt) (x1:Int) (x2 x3:Dt) (x4:List Dt):St:=⟨tsOf [(2,(.dat 28 (.lst x0))),(3,(.ptr 0 [] 0)),(4,(.ptr 1 [] 0)),(7,(.row 2)),(13,(.dat 3 (.int x1)))],[(.box 32 (.dat 32 x2)),(.box 25 (.dat 25 x3)),(.row 40 x4)],0⟩
noncomputable def s45_24 (x0:List Dt) (x1:Bool) (x2:Int) (x3:Dt) (x4:List Dt):St:=⟨tsOf [(2,(.dat 28 (.lst x0))),(4,(.ptr 0 [] 0)),(7,(.row 1)),(14,(.dat 4 (.bool x1))),(15,(.dat 3 (.int x2)))],[(.box 25 (.dat 25 x3)),(.row 40 x4)],0⟩
noncomputable def s45_26 (x0:List Dt):St:=⟨tsOf [(7,(.row 0))],[(.row 40 x0)],0⟩
noncomputable def s45_25 (x0:List Dt) (x1:Bool) (x2:List Dt):St:=⟨tsOf [(2,(.dat 28 (.lst x0))),(7,(.row 0)),(14,(.dat 4 (.bool x1)))],[(.row 40 x2)],0⟩
noncomputable def s45_20 (x0:List Dt) (x1:Bool) (x2:Dt) (x3:List Dt):St:=⟨tsOf [(2,(.dat 28 (.lst x0))),(4,(.ptr 0 [] 0)),(7,(.row 1)),(186,(.dat 4 (.bool x1)))],[(.box 25 (.dat 25 x2)),(.row 40 x3)],0⟩
noncomputable def s45_19 (x0:List Dt) (x1 x2:Dt) (x3:List Dt):St:=⟨tsOf [(2,(.dat 28 (.lst x0))),(3,(.ptr 0 [] 0)),(4,(.ptr 1 [] 0)),(7,(.row 2))],[(.box 32 (.dat 32 x1)),(.box 25 (.dat 25 x2)),(.row 40 x3)],0⟩
noncomputable def s45_8 (x0:List Dt) (x1:Bool) (x2 x3:Dt) (x4:List Dt):St:=⟨tsOf [(2,(.dat 28 (.lst x0))),(3,(.ptr 0 [] 0)),(4,(.ptr 1 [] 0)),(7,(.row 2)),(109,(.dat 4 (.bool x1)))],[(.box 32 (.dat 32 x2)),(.box 25 (.dat 25 x3)),(.row 40 x4)],0⟩
noncomputable def s45_6 (x0:List Dt) (x1:Bool) (x2 x3:Dt) (x4:List Dt):St:=⟨tsOf [(2,(.dat 28 (.lst x0))),(3,(.ptr 0 [] 0)),(4,(.ptr 1 [] 0)),(7,(.row 2)),(81,(.dat 4 (.bool x1)))],[(.box 32 (.dat 32 x2)),(.box 25 (.dat 25 x3)),(.row 40 x4)],0⟩
noncomputable def s45_4 (x0:List Dt) (x1:Bool) (x2 x3:Dt) (x4:List Dt):St:=⟨tsOf [(2,(.dat 28 (.lst x0))),(3,(.ptr 0 [] 0)),(4,(.ptr 1 [] 0)),(7,(.row 2)),(67,(.dat 4 (.bool x1)))],[(.box 32 (.dat 32 x2)),(.box 25 (.dat 25 x3)),(.row 40 x4)],0⟩
noncomputable def s45_2 (x0:List Dt) (x1:Bool) (x2 x3:Dt) (x4:List Dt):St:=⟨tsOf [(2,(.dat 28 (.lst x0))),(3,(.ptr 0 [] 0)),(4,(.ptr 1 [] 0)),(7,(.row 2)),(53,(.dat 4 (.bool x1)))],[(.box 32 (.dat 32 x2)),(.box 25 (.dat 25 x3)),(.row 40 x4)],0⟩
noncomputable def s45_0 (x0:List Dt) (x1:Bool) (x2 x3:Dt) (x4:List Dt):St:=⟨tsOf [(2,(.dat 28 (.lst x0))),(3,(.ptr 0 [] 0)),(4,(.ptr 1 [] 0)),(7,(.row 2)),(37,(.dat 4 (.bool x1)))],[(.box 32 (.dat 32 x2)),(.box 25 (.dat 25 x3)),(.row 40 x4)],0⟩
abbrev H45_11 (m M11:Nat) (rec11:List Dt→Int→Dt→Dt→List Dt→Option (List Dt)):Prop:=∀x0 x1 x2 x3 x4,l45 jn m w45_0 [] M11 (s45_13 x0 x1 x2 x3 x4)=rec11 x0 x1 x2 x3 x4
theorem ref14_own_j13_eq m M11 rec11 (h11:H45_11 m M11 rec11) x0 x1 x2 x3 x4:e45 jn m w45_1 [M11] (s45_13 x0 x1 x2 x3 x4)=ref14_own_j13 m rec11 x0 x1 x2 x3 x4:=
 tre (g:=fun J=>(jj J 1 15 M11 (s45_13 x0 (IntKind.wrap .i64 (x1+1)) x2 x3 x4) (l45 J m w45_0 [] M11))) (fun J=>by kernel_rfl) (by simp only[jj_eq,h11];rfl)
theorem ref14_own_j12_eq m M11 rec11 (h11:H45_11 m M11 rec11) x0 x1 x2 x3 x4:e45 jn m w45_2 [M11] (s45_13 x0 x1 x2 x3 x4)=ref14_own_j12 m rec11 x0 x1 x2 x3 x4:=
 tre (g:=fun J=>((idx (Dt.L x2 8) x1).bind fun v9=>
  ((ref01_Get m x3 (Dt.toStr v9)).bind fun r10=>
  (bif (Bool.not r10.2) then
  ((idx (Dt.L x2 8) x1).bind fun v11=>
  ((ref14_step m x0 (Dt.toStr v11)).bind fun r12=>
  ((app x4 [(Dt.agg [(Dt.lst r12),(Dt.int 6)])]).bind fun v13=>
  (jj J 0 16 0 (s45_13 x0 x1 x2 x3 v13) (e45 J m w45_1 [M11])))))
  else
  (jj J 0 16 0 (s45_13 x0 x1 x2 x3 x4) (e45 J m w45_1 [M11])))))) (fun J=>by kernel_rfl) (by simp only[jj_eq,ref14_own_j13_eq m M11 rec11 h11];rfl)
abbrev H45_16 (m M16:Nat) (rec16:List Dt→Int→Dt→Dt→List Dt→Option (List Dt)):Prop:=∀x0 x1 x2 x3 x4,l45 jn m w45_3 [] M16 (s45_18 x0 x1 x2 x3 x4)=rec16 x0 x1 x2 x3 x4
theorem ref14_own_j18_eq m M16 rec16 (h16:H45_16 m M16 rec16) x0 x1 x2 x3 x4:e45 jn m w45_4 [M16] (s45_18 x0 x1 x2 x3 x4)=ref14_own_j18 m rec16 x0 x1 x2 x3 x4:=
 tre (g:=fun J=>(jj J 1 21 M16 (s45_18 x0 (IntKind.wrap .i64 (x1+1)) x2 x3 x4) (l45 J m w45_3 [] M16))) (fun J=>by kernel_rfl) (by simp only[jj_eq,h16];rfl)
theorem ref14_own_j17_eq m M16 rec16 (h16:H45_16 m M16 rec16) x0 x1 x2 x3 x4:e45 jn m w45_5 [M16] (s45_18 x0 x1 x2 x3 x4)=ref14_own_j17 m rec16 x0 x1 x2 x3 x4:=
 tre (g:=fun J=>((idx (Dt.L x3 4) x1).bind fun v14=>
  ((ref14_has m x2 (Dt.S v14 0)).bind fun r15=>
  (bif (Bool.not r15) then
  ((idx (Dt.L x3 4) x1).bind fun v16=>
  ((ref14_step m x0 (Dt.S v16 0)).bind fun r17=>
  ((app x4 [(Dt.agg [(Dt.lst r17),(Dt.int 7)])]).bind fun v18=>
  (jj J 0 22 0 (s45_18 x0 x1 x2 x3 v18) (e45 J m w45_4 [M16])))))
  else
  (jj J 0 22 0 (s45_18 x0 x1 x2 x3 x4) (e45 J m w45_4 [M16])))))) (fun J=>by kernel_rfl) (by simp only[jj_eq,ref14_own_j18_eq m M16 rec16 h16];rfl)
abbrev H45_22 (m M22:Nat) (rec22:List Dt→Bool→Int→Dt→List Dt→Option (List Dt)):Prop:=∀x0 x1 x2 x3 x4,l45 jn m w45_6 [] M22 (s45_24 x0 x1 x2 x3 x4)=rec22 x0 x1 x2 x3 x4
theorem ref14_own_j24_eq m M22 rec22 (h22:H45_22 m M22 rec22) x0 x1 x2 x3 x4:e45 jn m w45_7 [M22] (s45_24 x0 x1 x2 x3 x4)=ref14_own_j24 m rec22 x0 x1 x2 x3 x4:=
 tre (g:=fun J=>(jj J 1 28 M22 (s45_24 x0 x1 (IntKind.wrap .i64 (x2+1)) x3 x4) (l45 J m w45_6 [] M22))) (fun J=>by kernel_rfl) (by simp only[jj_eq,h22];rfl)
theorem ref14_own_j23_eq m M22 rec22 (h22:H45_22 m M22 rec22) x0 x1 x2 x3 x4:e45 jn m w45_8 [M22] (s45_24 x0 x1 x2 x3 x4)=ref14_own_j23 m rec22 x0 x1 x2 x3 x4:=
 tre (g:=fun J=>(bif x1 then
  (jj J 0 29 0 (s45_24 x0 true x2 x3 x4) (e45 J m w45_7 [M22]))
   else
  ((cutL (Dt.L x3 3) 0 x2).bind fun v19=>
  ((idx (Dt.L x3 3) x2).bind fun v20=>
  ((ref14_among m v19 v20).bind fun r21=>
  (jj J 0 29 0 (s45_24 x0 r21 x2 x3 x4) (e45 J m w45_7 [M22]))))))) (fun J=>by kernel_rfl) (by simp only[jj_eq,ref14_own_j24_eq m M22 rec22 h22];rfl)
theorem ref14_own_j26_eq m x0:e45 jn m w45_9 [] (s45_26 x0)=ref14_own_j26 m x0:=
 tre (g:=fun J=>some x0) (fun J=>by kernel_rfl) (by rfl)
theorem ref14_own_j25_eq m x0 x1 x2:e45 jn m w45_10 [] (s45_25 x0 x1 x2)=ref14_own_j25 m x0 x1 x2:=
 tre (g:=fun J=>(bif x1 then
  ((app x2 [(Dt.agg [(Dt.lst x0),(Dt.int 8)])]).bind fun v22=>
  (jj J 0 33 0 (s45_26 v22) (e45 J m w45_9 [])))
   else
  (jj J 0 33 0 (s45_26 x2) (e45 J m w45_9 [])))) (fun J=>by kernel_rfl) (by simp only[jj_eq,ref14_own_j26_eq m];rfl)
theorem ref14_own_l22_eq m:∀M22 x0 x1 x2 x3 x4,l45 jn m w45_6 [] M22 (s45_24 x0 x1 x2 x3 x4)=ref14_own_l22 m M22 x0 x1 x2 x3 x4
 |0,_,_,_,_,_=>rfl
 | M22+1,x0,x1,x2,x3,x4=>
   trl (g:=fun J=>(bif (decide (x2<(List.length (Dt.L x3 3):Int))) then
  (jj J 0 30 0 (s45_24 x0 x1 x2 x3 x4) (e45 J m w45_8 [M22]))
   else
  (jj J 0 31 0 (s45_25 x0 x1 x4) (e45 J m w45_10 [])))) (fun J=>by kernel_rfl) (by simp only[jj_eq,ref14_own_j23_eq m M22 (ref14_own_l22 m M22) (ref14_own_l22_eq m M22),ref14_own_j25_eq m];rfl)
theorem ref14_own_j21_eq m x0 x1 x2 x3 x4:e45 jn m w45_11 [] (s45_24 x0 x1 x2 x3 x4)=ref14_own_j21 m x0 x1 x2 x3 x4:=
 tre (g:=fun J=>(jj J 1 28 (Nat.succ m) (s45_24 x0 x1 x2 x3 x4) (l45 J m w45_6 [] (Nat.succ m)))) (fun J=>by kernel_rfl) (by simp only[jj_eq,ref14_own_l22_eq m];rfl)
theorem ref14_own_j20_eq m x0 x1 x2 x3:e45 jn m w45_12 [] (s45_20 x0 x1 x2 x3)=ref14_own_j20 m x0 x1 x2 x3:=
 tre (g:=fun J=>(bif x1 then
  (jj J 0 28 0 (s45_24 x0 false 0 x2 x3) (e45 J m w45_11 []))
   else
  (jj J 0 33 0 (s45_26 x3) (e45 J m w45_9 [])))) (fun J=>by kernel_rfl) (by simp only[jj_eq,ref14_own_j21_eq m,ref14_own_j26_eq m];rfl)
theorem ref14_own_j19_eq m x0 x1 x2 x3:e45 jn m w45_13 [] (s45_19 x0 x1 x2 x3)=ref14_own_j19 m x0 x1 x2 x3:=
 tre (g:=fun J=>(bif ((Dt.I x2 0)==6) then
  (jj J 0 26 0 (s45_20 x0 (Dt.B x1 12) x2 x3) (e45 J m w45_12 []))
   else
  (jj J 0 26 0 (s45_20 x0 false x2 x3) (e45 J m w45_12 [])))) (fun J=>by kernel_rfl) (by simp only[jj_eq,ref14_own_j20_eq m];rfl)
theorem ref14_own_l16_eq m:∀M16 x0 x1 x2 x3 x4,l45 jn m w45_3 [] M16 (s45_18 x0 x1 x2 x3 x4)=ref14_own_l16 m M16 x0 x1 x2 x3 x4
 |0,_,_,_,_,_=>rfl
 | M16+1,x0,x1,x2,x3,x4=>
   trl (g:=fun J=>(bif (decide (x1<(List.length (Dt.L x3 4):Int))) then
  (bif (Dt.B x2 10) then
  (jj J 0 23 0 (s45_18 x0 x1 x2 x3 x4) (e45 J m w45_5 [M16]))
  else
  (jj J 0 25 0 (s45_19 x0 x2 x3 x4) (e45 J m w45_13 [])))
   else
  (jj J 0 25 0 (s45_19 x0 x2 x3 x4) (e45 J m w45_13 [])))) (fun J=>by kernel_rfl) (by simp only[jj_eq,ref14_own_j17_eq m M16 (ref14_own_l16 m M16) (ref14_own_l16_eq m M16),ref14_own_j19_eq m];rfl)
theorem ref14_own_j15_eq m x0 x1 x2 x3 x4:e45 jn m w45_14 [] (s45_18 x0 x1 x2 x3 x4)=ref14_own_j15 m x0 x1 x2 x3 x4:=
 tre (g:=fun J=>(jj J 1 21 (Nat.succ m) (s45_18 x0 x1 x2 x3 x4) (l45 J m w45_3 [] (Nat.succ m)))) (fun J=>by kernel_rfl) (by simp only[jj_eq,ref14_own_l16_eq m];rfl)
theorem ref14_own_j14_eq m x0 x1 x2 x3:e45 jn m w45_15 [] (s45_19 x0 x1 x2 x3)=ref14_own_j14 m x0 x1 x2 x3:=
 tre (g:=fun J=>(jj J 0 21 0 (s45_18 x0 0 x1 x2 x3) (e45 J m w45_14 []))) (fun J=>by kernel_rfl) (by simp only[jj_eq,ref14_own_j15_eq m];rfl)
theorem ref14_own_l11_eq m:∀M11 x0 x1 x2 x3 x4,l45 jn m w45_0 [] M11 (s45_13 x0 x1 x2 x3 x4)=ref14_own_l11 m M11 x0 x1 x2 x3 x4
 |0,_,_,_,_,_=>rfl
 | M11+1,x0,x1,x2,x3,x4=>
   trl (g:=fun J=>(bif (decide (x1<(List.length (Dt.L x2 8):Int))) then
  (jj J 0 17 0 (s45_13 x0 x1 x2 x3 x4) (e45 J m w45_2 [M11]))
   else
  (jj J 0 20 0 (s45_19 x0 x2 x3 x4) (e45 J m w45_15 [])))) (fun J=>by kernel_rfl) (by simp only[jj_eq,ref14_own_j12_eq m M11 (ref14_own_l11 m M11) (ref14_own_l11_eq m M11),ref14_own_j14_eq m];rfl)
theorem ref14_own_j10_eq m x0 x1 x2 x3 x4:e45 jn m w45_16 [] (s45_13 x0 x1 x2 x3 x4)=ref14_own_j10 m x0 x1 x2 x3 x4:=
 tre (g:=fun J=>(jj J 1 15 (Nat.succ m) (s45_13 x0 x1 x2 x3 x4) (l45 J m w45_0 [] (Nat.succ m)))) (fun J=>by kernel_rfl) (by simp only[jj_eq,ref14_own_l11_eq m];rfl)
theorem ref14_own_j9_eq m x0 x1 x2 x3:e45 jn m w45_17 [] (s45_19 x0 x1 x2 x3)=ref14_own_j9 m x0 x1 x2 x3:=
 tre (g:=fun J=>(bif ((Dt.I x2 0)==5) then
  (jj J 0 15 0 (s45_13 x0 0 x1 x2 x3) (e45 J m w45_16 []))
   else
  (jj J 0 25 0 (s45_19 x0 x1 x2 x3) (e45 J m w45_13 [])))) (fun J=>by kernel_rfl) (by simp only[jj_eq,ref14_own_j10_eq m,ref14_own_j19_eq m];rfl)
theorem ref14_own_j8_eq m x0 x1 x2 x3 x4:e45 jn m w45_18 [] (s45_8 x0 x1 x2 x3 x4)=ref14_own_j8 m x0 x1 x2 x3 x4:=
 tre (g:=fun J=>(bif x1 then
  ((app x4 [(Dt.agg [(Dt.lst x0),(Dt.int 5)])]).bind fun v8=>
  (jj J 0 13 0 (s45_19 x0 x2 x3 v8) (e45 J m w45_17 [])))
   else
  (jj J 0 13 0 (s45_19 x0 x2 x3 x4) (e45 J m w45_17 [])))) (fun J=>by kernel_rfl) (by simp only[jj_eq,ref14_own_j9_eq m];rfl)
theorem ref14_own_j7_eq m x0 x1 x2 x3:e45 jn m w45_19 [] (s45_19 x0 x1 x2 x3)=ref14_own_j7 m x0 x1 x2 x3:=
 tre (g:=fun J=>((ref14_length m x2).bind fun r7=>
  (bif r7.2 then
  (bif (decide (r7.1<(Dt.I x1 6))) then
  (jj J 0 12 0 (s45_8 x0 true x1 x2 x3) (e45 J m w45_18 []))
  else
  (bif (decide (0≤(Dt.I x1 7))) then
  (jj J 0 12 0 (s45_8 x0 (decide ((Dt.I x1 7)<r7.1)) x1 x2 x3) (e45 J m w45_18 []))
  else
  (jj J 0 12 0 (s45_8 x0 false x1 x2 x3) (e45 J m w45_18 []))))
  else
  (jj J 0 12 0 (s45_8 x0 false x1 x2 x3) (e45 J m w45_18 []))))) (fun J=>by kernel_rfl) (by simp only[jj_eq,ref14_own_j8_eq m];rfl)
theorem ref14_own_j6_eq m x0 x1 x2 x3 x4:e45 jn m w45_20 [] (s45_6 x0 x1 x2 x3 x4)=ref14_own_j6 m x0 x1 x2 x3 x4:=
 tre (g:=fun J=>(bif x1 then
  ((app x4 [(Dt.agg [(Dt.lst x0),(Dt.int 4)])]).bind fun v6=>
  (jj J 0 10 0 (s45_19 x0 x2 x3 v6) (e45 J m w45_19 [])))
   else
  (jj J 0 10 0 (s45_19 x0 x2 x3 x4) (e45 J m w45_19 [])))) (fun J=>by kernel_rfl) (by simp only[jj_eq,ref14_own_j7_eq m];rfl)
theorem ref14_own_j5_eq m x0 x1 x2 x3:e45 jn m w45_21 [] (s45_19 x0 x1 x2 x3)=ref14_own_j5 m x0 x1 x2 x3:=
 tre (g:=fun J=>(bif (Dt.B x1 3) then
  ((ref01_Compare m x2 (Dt.fld x1 4)).bind fun r5=>
  (jj J 0 9 0 (s45_6 x0 (decide (0<r5)) x1 x2 x3) (e45 J m w45_20 [])))
   else
  (jj J 0 9 0 (s45_6 x0 false x1 x2 x3) (e45 J m w45_20 [])))) (fun J=>by kernel_rfl) (by simp only[jj_eq,ref14_own_j6_eq m];rfl)
theorem ref14_own_j4_eq m x0 x1 x2 x3 x4:e45 jn m w45_22 [] (s45_4 x0 x1 x2 x3 x4)=ref14_own_j4 m x0 x1 x2 x3 x4:=
 tre (g:=fun J=>(bif x1 then
  ((app x4 [(Dt.agg [(Dt.lst x0),(Dt.int 3)])]).bind fun v4=>
  (jj J 0 8 0 (s45_19 x0 x2 x3 v4) (e45 J m w45_21 [])))
   else
  (jj J 0 8 0 (s45_19 x0 x2 x3 x4) (e45 J m w45_21 [])))) (fun J=>by kernel_rfl) (by simp only[jj_eq,ref14_own_j5_eq m];rfl)
theorem ref14_own_j3_eq m x0 x1 x2 x3:e45 jn m [1,1,1,1] [] (s45_19 x0 x1 x2 x3)=ref14_own_j3 m x0 x1 x2 x3:=
 tre (g:=fun J=>(bif (Dt.B x1 1) then
  ((ref01_Compare m x2 (Dt.fld x1 2)).bind fun r3=>
  (jj J 0 7 0 (s45_4 x0 (decide (r3<0)) x1 x2 x3) (e45 J m w45_22 [])))
   else
  (jj J 0 7 0 (s45_4 x0 false x1 x2 x3) (e45 J m w45_22 [])))) (fun J=>by kernel_rfl) (by simp only[jj_eq,ref14_own_j4_eq m];rfl)
theorem ref14_own_j2_eq m x0 x1 x2 x3 x4:e45 jn m w45_23 [] (s45_2 x0 x1 x2 x3 x4)=ref14_own_j2 m x0 x1 x2 x3 x4:=
 tre (g:=fun J=>(bif x1 then
  ((app x4 [(Dt.agg [(Dt.lst x0),(Dt.int 2)])]).bind fun v2=>
  (jj J 0 6 0 (s45_19 x0 x2 x3 v2) (e45 J m [1,1,1,1] [])))
   else
  (jj J 0 6 0 (s45_19 x0 x2 x3 x4) (e45 J m [1,1,1,1] [])))) (fun J=>by kernel_rfl) (by simp only[jj_eq,ref14_own_j3_eq m];rfl)
theorem ref14_own_j1_eq m x0 x1 x2 x3:e45 jn m [1,1,1] [] (s45_19 x0 x1 x2 x3)=ref14_own_j1 m x0 x1 x2 x3:=
 tre (g:=fun J=>(bif (decide (0<(List.length (Dt.L x1 5):Int))) then
  ((ref14_among m (Dt.L x1 5) x2).bind fun r1=>
  (jj J 0 5 0 (s45_2 x0 (Bool.not r1) x1 x2 x3) (e45 J m w45_23 [])))
   else
  (jj J 0 5 0 (s45_2 x0 false x1 x2 x3) (e45 J m w45_23 [])))) (fun J=>by kernel_rfl) (by simp only[jj_eq,ref14_own_j2_eq m];rfl)
theorem ref14_own_j0_eq m x0 x1 x2 x3 x4:e45 jn m [1,1,0,1] [] (s45_0 x0 x1 x2 x3 x4)=ref14_own_j0 m x0 x1 x2 x3 x4:=
 tre (g:=fun J=>(bif x1 then
  ((app x4 [(Dt.agg [(Dt.lst x0),(Dt.int 1)])]).bind fun v0=>
  (jj J 0 4 0 (s45_19 x0 x2 x3 v0) (e45 J m [1,1,1] [])))
   else
  (jj J 0 4 0 (s45_19 x0 x2 x3 x4) (e45 J m [1,1,1] [])))) (fun J=>by kernel_rfl) (by simp only[jj_eq,ref14_own_j1_eq m];rfl)
theorem ref14_own_eq m a0 a1 a2:e45 jn m [] [] ⟨[(.dat 32 a0),(.dat 25 a1),(.dat 28 (.lst a2))],[],0⟩=ref14_own (m+1) a0 a1 a2:=
 tre (g:=fun J=>(bif ((Dt.I a0 0) !=0) then
  (bif (decide ((Dt.I a1 0)<1)) then
  (jj J 0 3 0 (s45_0 a2 true a0 a1 []) (e45 J m [1,1,0,1] []))
  else
  (bif (decide (11<(Dt.I a1 0))) then
  (jj J 0 3 0 (s45_0 a2 true a0 a1 []) (e45 J m [1,1,0,1] []))
  else
  (bif (decide (0≤(Dt.I a1 0))) then
  (jj J 0 3 0 (s45_0 a2 ((Int.tmod (shrI IntKind.i64 (Dt.I a0 0) (Dt.I a1 0)) 2)==0) a0 a1 []) (e45 J m [1,1,0,1] []))
  else
  none)))
   else
  (jj J 0 3 0 (s45_0 a2 false a0 a1 []) (e45 J m [1,1,0,1] [])))) (fun J=>by kernel_rfl) (by simp only[jj_eq,ref14_own_j0_eq m];rfl)
noncomputable def e63 (J:Nat→Nat→Nat→St→Option ByteArray→Option ByteArray) (m:Nat) (p ms:List Nat) (σ:St):=evAt Tryz.prog env (ct m) J (m+1) 91 7 Tryz.f91 d63 p ms σ
noncomputable def l63 (J:Nat→Nat→Nat→St→Option ByteArray→Option ByteArray) (m:Nat) (p ms:List Nat) (M:Nat) (σ:St):=loopAt Tryz.prog env (ct m) J (m+1) 91 7 Tryz.f91 d63 p ms M σ
theorem ref05_digit_eq m a0:e63 jn m [] [] ⟨[(.dat 3 (.int a0))],[],0⟩=ref05_digit (m+1) a0:=
 tre (g:=fun J=>((cutS (ByteArray.mk (List.toArray [48,49,50,51,52,53,54,55,56,57,97,98,99,100,101,102])) a0 (IntKind.wrap .i64 (a0+1))).bind fun v0=>
  some v0)) (fun J=>by kernel_rfl) (by rfl)
def w52_4:List Nat:=[1,1,1,1,1]
def w52_3:List Nat:=[1,1,1,1,1,1]
def w52_5:List Nat:=[1,1,1,1,0,1]
def w52_0:List Nat:=w52_5++[0]
def w52_2:List Nat:=w52_0++[0,1]
def w52_1:List Nat:=w52_2++[1]
noncomputable def e52 (J:Nat→Nat→Nat→St→Option ByteArray→Option ByteArray) (m:Nat) (p ms:List Nat) (σ:St):=evAt Tryz.prog env (ct m) J (m+1) 60 37 Tryz.f60 d63 p ms σ
noncomputable def l52 (J:Nat→Nat→Nat→St→Option ByteArray→Option ByteArray) (m:Nat) (p ms:List Nat) (M:Nat) (σ:St):=loopAt Tryz.prog env (ct m) J (m+1) 60 37 Tryz.f60 d63 p ms M σ
noncomputable def s52_4 (x0 x1:Int) (x2:ByteArray) (x3:Int):St:=⟨tsOf [(0,(.dat 3 (.int x0))),(3,(.dat 111 (.int x1))),(4,(.dat 9 (.str x2))),(5,(.dat 3 (.int x3)))],[],0⟩
noncomputable def s52_6 (x0:ByteArray):St:=⟨tsOf [(4,(.dat 9 (.str x0)))],[],0⟩
noncomputable def s52_5 (x0:Int) (x1:ByteArray):St:=⟨tsOf [(0,(.dat 3 (.int x0))),(4,(.dat 9 (.str x1)))],[],0⟩
noncomputable def s52_0 (x0 x1:Int):St:=⟨tsOf [(0,(.dat 3 (.int x0))),(3,(.dat 111 (.int x1)))],[],0⟩
abbrev H52_2 (m M2:Nat) (rec2:Int→Int→ByteArray→Int→Option ByteArray):Prop:=∀x0 x1 x2 x3,l52 jn m w52_0 [] M2 (s52_4 x0 x1 x2 x3)=rec2 x0 x1 x2 x3
theorem ref05_Decimal_j4_eq m M2 rec2 (h2:H52_2 m M2 rec2) x0 x1 x2 x3:e52 jn m w52_1 [M2] (s52_4 x0 x1 x2 x3)=ref05_Decimal_j4 m rec2 x0 x1 x2 x3:=
 tre (g:=fun J=>(jj J 1 6 M2 (s52_4 x0 x1 x2 (IntKind.wrap .i64 (x3+1))) (l52 J m w52_0 [] M2))) (fun J=>by kernel_rfl) (by simp only[jj_eq,h2];rfl)
theorem ref05_Decimal_j3_eq m M2 rec2 (h2:H52_2 m M2 rec2) x0 x1 x2 x3:e52 jn m w52_2 [M2] (s52_4 x0 x1 x2 x3)=ref05_Decimal_j3 m rec2 x0 x1 x2 x3:=
 tre (g:=fun J=>((ref05_digit m (IntKind.wrap .i64 (Int.tmod (IntKind.wrap IntKind.u64 (Int.tdiv x1 10)) 10))).bind fun r1=>
  (bif (Nat.ble ((ByteArray.size r1)+(ByteArray.size x2)) 1152921504606846976) then
  (jj J 0 7 0 (s52_4 x0 (IntKind.wrap IntKind.u64 (Int.tdiv x1 10)) (r1++x2) x3) (e52 J m w52_1 [M2]))
  else
  none))) (fun J=>by kernel_rfl) (by simp only[jj_eq,ref05_Decimal_j4_eq m M2 rec2 h2];rfl)
theorem ref05_Decimal_j6_eq m x0:e52 jn m w52_3 [] (s52_6 x0)=ref05_Decimal_j6 m x0:=
 tre (g:=fun J=>some x0) (fun J=>by kernel_rfl) (by rfl)
theorem ref05_Decimal_j5_eq m x0 x1:e52 jn m w52_4 [] (s52_5 x0 x1)=ref05_Decimal_j5 m x0 x1:=
 tre (g:=fun J=>(bif (decide (x0<0)) then
  (bif (Nat.ble (1+(ByteArray.size x1)) 1152921504606846976) then
  (jj J 0 12 0 (s52_6 ((ByteArray.mk (List.toArray [45]))++x1)) (e52 J m w52_3 []))
  else
  none)
   else
  (jj J 0 12 0 (s52_6 x1) (e52 J m w52_3 [])))) (fun J=>by kernel_rfl) (by simp only[jj_eq,ref05_Decimal_j6_eq m];rfl)
theorem ref05_Decimal_l2_eq m:∀M2 x0 x1 x2 x3,l52 jn m w52_0 [] M2 (s52_4 x0 x1 x2 x3)=ref05_Decimal_l2 m M2 x0 x1 x2 x3
 |0,_,_,_,_=>rfl
 | M2+1,x0,x1,x2,x3=>
   trl (g:=fun J=>(bif (decide (x3<20)) then
  (bif (decide (10≤x1)) then
  (jj J 0 8 0 (s52_4 x0 x1 x2 x3) (e52 J m w52_2 [M2]))
  else
  (jj J 0 10 0 (s52_5 x0 x2) (e52 J m w52_4 [])))
   else
  (jj J 0 10 0 (s52_5 x0 x2) (e52 J m w52_4 [])))) (fun J=>by kernel_rfl) (by simp only[jj_eq,ref05_Decimal_j3_eq m M2 (ref05_Decimal_l2 m M2) (ref05_Decimal_l2_eq m M2),ref05_Decimal_j5_eq m];rfl)
theorem ref05_Decimal_j1_eq m x0 x1 x2 x3:e52 jn m w52_5 [] (s52_4 x0 x1 x2 x3)=ref05_Decimal_j1 m x0 x1 x2 x3:=
 tre (g:=fun J=>(jj J 1 6 (Nat.succ m) (s52_4 x0 x1 x2 x3) (l52 J m w52_0 [] (Nat.succ m)))) (fun J=>by kernel_rfl) (by simp only[jj_eq,ref05_Decimal_l2_eq m];rfl)
theorem ref05_Decimal_j0_eq m x0 x1:e52 jn m [1,1,1] [] (s52_0 x0 x1)=ref05_Decimal_j0 m x0 x1:=
 tre (g:=fun J=>((ref05_digit m (IntKind.wrap .i64 (Int.tmod x1 10))).bind fun r0=>
  (jj J 0 6 0 (s52_4 x0 x1 r0 0) (e52 J m w52_5 [])))) (fun J=>by kernel_rfl) (by simp only[jj_eq,ref05_Decimal_j1_eq m];rfl)
theorem ref05_Decimal_eq m a0:e52 jn m [] [] ⟨[(.dat 3 (.int a0))],[],0⟩=ref05_Decimal (m+1) a0:=
 tre (g:=fun J=>(bif (decide (a0<0)) then
  (jj J 0 4 0 (s52_0 a0 (IntKind.wrap IntKind.u64 (0-(IntKind.wrap IntKind.u64 a0)))) (e52 J m [1,1,1] []))
   else
  (jj J 0 4 0 (s52_0 a0 (IntKind.wrap IntKind.u64 a0)) (e52 J m [1,1,1] [])))) (fun J=>by kernel_rfl) (by simp only[jj_eq,ref05_Decimal_j0_eq m];rfl)
def w29_0:List Nat:=[1,1,0,1,0]
def w29_7:List Nat:=[1,1,1,0,1]
def w29_2:List Nat:=[1,1,0,1,0,0,1]
def w29_6:List Nat:=[1,1,1,0,1,0,1]
def w29_1:List Nat:=w29_2++[1]
def w29_3:List Nat:=w29_6++[0]
def w29_5:List Nat:=w29_3++[0,1]
def w29_4:List Nat:=w29_5++[1]
noncomputable def e29 (J:Nat→Nat→Nat→St→Option (List Dt)→Option (List Dt)) (m:Nat) (p ms:List Nat) (σ:St):=evAt Tryz.prog env (ct m) J (m+1) 31 86 Tryz.f31 d29 p ms σ
noncomputable def l29 (J:Nat→Nat→Nat→St→Option (List Dt)→Option (List Dt)) (m:Nat) (p ms:List Nat) (M:Nat) (σ:St):=loopAt Tryz.prog env (ct m) J (m+1) 31 86 Tryz.f31 d29 p ms M σ
noncomputable def s29_3 (x0:List Dt) (x1:Int) (x2 x3:Dt) (x4:List Dt):St:=⟨tsOf [(2,(.dat 28 (.lst x0))),(3,(.ptr 0 [] 0)),(4,(.ptr 1 [] 0)),(7,(.row 2)),(8,(.dat 3 (.int x1)))],[(.box 32 (.dat 32 x2)),(.box 25 (.dat 25 x3)),(.row 40 x4)],0⟩
noncomputable def s29_9 (x0:List Dt) (x1:Int) (x2 x3:Dt) (x4:List Dt):St:=⟨tsOf [(2,(.dat 28 (.lst x0))),(3,(.ptr 0 [] 0)),(4,(.ptr 1 [] 0)),(7,(.row 2)),(11,(.dat 3 (.int x1)))],[(.box 32 (.dat 32 x2)),(.box 25 (.dat 25 x3)),(.row 40 x4)],0⟩
noncomputable def s29_10 (x0:List Dt):St:=⟨tsOf [(7,(.row 0))],[(.row 40 x0)],0⟩
noncomputable def s29_5 (x0:List Dt) (x1:Bool) (x2 x3:Dt) (x4:List Dt):St:=⟨tsOf [(2,(.dat 28 (.lst x0))),(3,(.ptr 0 [] 0)),(4,(.ptr 1 [] 0)),(7,(.row 2)),(61,(.dat 4 (.bool x1)))],[(.box 32 (.dat 32 x2)),(.box 25 (.dat 25 x3)),(.row 40 x4)],0⟩
noncomputable def s29_4 (x0:List Dt) (x1 x2:Dt) (x3:List Dt):St:=⟨tsOf [(2,(.dat 28 (.lst x0))),(3,(.ptr 0 [] 0)),(4,(.ptr 1 [] 0)),(7,(.row 2))],[(.box 32 (.dat 32 x1)),(.box 25 (.dat 25 x2)),(.row 40 x3)],0⟩
abbrev H29_1 (m M1:Nat) (rec1:List Dt→Int→Dt→Dt→List Dt→Option (List Dt)):Prop:=∀x0 x1 x2 x3 x4,l29 jn m w29_0 [] M1 (s29_3 x0 x1 x2 x3 x4)=rec1 x0 x1 x2 x3 x4
theorem ref14_violations_j3_eq m M1 rec1 (h1:H29_1 m M1 rec1) x0 x1 x2 x3 x4:e29 jn m w29_1 [M1] (s29_3 x0 x1 x2 x3 x4)=ref14_violations_j3 m (ref14_violations m) rec1 x0 x1 x2 x3 x4:=
 tre (g:=fun J=>(jj J 1 3 M1 (s29_3 x0 (IntKind.wrap .i64 (x1+1)) x2 x3 x4) (l29 J m w29_0 [] M1))) (fun J=>by kernel_rfl) (by simp only[jj_eq,h1];rfl)
theorem ref14_violations_j2_eq m M1 rec1 (h1:H29_1 m M1 rec1) x0 x1 x2 x3 x4:e29 jn m w29_2 [M1] (s29_3 x0 x1 x2 x3 x4)=ref14_violations_j2 m (ref14_violations m) rec1 x0 x1 x2 x3 x4:=
 tre (g:=fun J=>((idx (Dt.L x2 9) x1).bind fun v1=>
  ((ref01_Get m x3 (Dt.S v1 0)).bind fun r2=>
  (bif r2.2 then
  ((idx (Dt.L x2 9) x1).bind fun v3=>
  ((idx (Dt.L x2 9) x1).bind fun v4=>
  ((ref14_step m x0 (Dt.S v4 0)).bind fun r5=>
  ((ref14_violations m (Dt.fld v3 1) r2.1 r5).bind fun r6=>
  ((app x4 r6).bind fun v7=>
  (jj J 0 4 0 (s29_3 x0 x1 x2 x3 v7) (e29 J m w29_1 [M1])))))))
  else
  (jj J 0 4 0 (s29_3 x0 x1 x2 x3 x4) (e29 J m w29_1 [M1])))))) (fun J=>by kernel_rfl) (by simp only[jj_eq,ref14_violations_j3_eq m M1 rec1 h1];rfl)
abbrev H29_7 (m M7:Nat) (rec7:List Dt→Int→Dt→Dt→List Dt→Option (List Dt)):Prop:=∀x0 x1 x2 x3 x4,l29 jn m w29_3 [] M7 (s29_9 x0 x1 x2 x3 x4)=rec7 x0 x1 x2 x3 x4
theorem ref14_violations_j9_eq m M7 rec7 (h7:H29_7 m M7 rec7) x0 x1 x2 x3 x4:e29 jn m w29_4 [M7] (s29_9 x0 x1 x2 x3 x4)=ref14_violations_j9 m (ref14_violations m) rec7 x0 x1 x2 x3 x4:=
 tre (g:=fun J=>(jj J 1 10 M7 (s29_9 x0 (IntKind.wrap .i64 (x1+1)) x2 x3 x4) (l29 J m w29_3 [] M7))) (fun J=>by kernel_rfl) (by simp only[jj_eq,h7];rfl)
theorem ref14_violations_j8_eq m M7 rec7 (h7:H29_7 m M7 rec7) x0 x1 x2 x3 x4:e29 jn m w29_5 [M7] (s29_9 x0 x1 x2 x3 x4)=ref14_violations_j8 m (ref14_violations m) rec7 x0 x1 x2 x3 x4:=
 tre (g:=fun J=>((idx (Dt.L x2 11) 0).bind fun v8=>
  ((idx (Dt.L x3 3) x1).bind fun v9=>
  ((ref05_Decimal m x1).bind fun r10=>
  ((ref14_step m x0 r10).bind fun r11=>
  ((ref14_violations m v8 v9 r11).bind fun r12=>
  ((app x4 r12).bind fun v13=>
  (jj J 0 11 0 (s29_9 x0 x1 x2 x3 v13) (e29 J m w29_4 [M7]))))))))) (fun J=>by kernel_rfl) (by simp only[jj_eq,ref14_violations_j9_eq m M7 rec7 h7];rfl)
theorem ref14_violations_j10_eq m x0:e29 jn m [1,1,1,1] [] (s29_10 x0)=ref14_violations_j10 m (ref14_violations m) x0:=
 tre (g:=fun J=>some x0) (fun J=>by kernel_rfl) (by rfl)
theorem ref14_violations_l7_eq m:∀M7 x0 x1 x2 x3 x4,l29 jn m w29_3 [] M7 (s29_9 x0 x1 x2 x3 x4)=ref14_violations_l7 m (ref14_violations m) M7 x0 x1 x2 x3 x4
 |0,_,_,_,_,_=>rfl
 | M7+1,x0,x1,x2,x3,x4=>
   trl (g:=fun J=>(bif (decide (x1<(List.length (Dt.L x3 3):Int))) then
  (jj J 0 12 0 (s29_9 x0 x1 x2 x3 x4) (e29 J m w29_5 [M7]))
   else
  (jj J 0 13 0 (s29_10 x4) (e29 J m [1,1,1,1] [])))) (fun J=>by kernel_rfl) (by simp only[jj_eq,ref14_violations_j8_eq m M7 (ref14_violations_l7 m (ref14_violations m) M7) (ref14_violations_l7_eq m M7),ref14_violations_j10_eq m];rfl)
theorem ref14_violations_j6_eq m x0 x1 x2 x3 x4:e29 jn m w29_6 [] (s29_9 x0 x1 x2 x3 x4)=ref14_violations_j6 m (ref14_violations m) x0 x1 x2 x3 x4:=
 tre (g:=fun J=>(jj J 1 10 (Nat.succ m) (s29_9 x0 x1 x2 x3 x4) (l29 J m w29_3 [] (Nat.succ m)))) (fun J=>by kernel_rfl) (by simp only[jj_eq,ref14_violations_l7_eq m];rfl)
theorem ref14_violations_j5_eq m x0 x1 x2 x3 x4:e29 jn m w29_7 [] (s29_5 x0 x1 x2 x3 x4)=ref14_violations_j5 m (ref14_violations m) x0 x1 x2 x3 x4:=
 tre (g:=fun J=>(bif x1 then
  (jj J 0 10 0 (s29_9 x0 0 x2 x3 x4) (e29 J m w29_6 []))
   else
  (jj J 0 13 0 (s29_10 x4) (e29 J m [1,1,1,1] [])))) (fun J=>by kernel_rfl) (by simp only[jj_eq,ref14_violations_j6_eq m,ref14_violations_j10_eq m];rfl)
theorem ref14_violations_j4_eq m x0 x1 x2 x3:e29 jn m [1,1,1] [] (s29_4 x0 x1 x2 x3)=ref14_violations_j4 m (ref14_violations m) x0 x1 x2 x3:=
 tre (g:=fun J=>(bif ((List.length (Dt.L x1 11):Int)==1) then
  (jj J 0 9 0 (s29_5 x0 ((Dt.I x2 0)==6) x1 x2 x3) (e29 J m w29_7 []))
   else
  (jj J 0 9 0 (s29_5 x0 false x1 x2 x3) (e29 J m w29_7 [])))) (fun J=>by kernel_rfl) (by simp only[jj_eq,ref14_violations_j5_eq m];rfl)
theorem ref14_violations_l1_eq m:∀M1 x0 x1 x2 x3 x4,l29 jn m w29_0 [] M1 (s29_3 x0 x1 x2 x3 x4)=ref14_violations_l1 m (ref14_violations m) M1 x0 x1 x2 x3 x4
 |0,_,_,_,_,_=>rfl
 | M1+1,x0,x1,x2,x3,x4=>
   trl (g:=fun J=>(bif (decide (x1<(List.length (Dt.L x2 9):Int))) then
  (jj J 0 5 0 (s29_3 x0 x1 x2 x3 x4) (e29 J m w29_2 [M1]))
   else
  (jj J 0 8 0 (s29_4 x0 x2 x3 x4) (e29 J m [1,1,1] [])))) (fun J=>by kernel_rfl) (by simp only[jj_eq,ref14_violations_j2_eq m M1 (ref14_violations_l1 m (ref14_violations m) M1) (ref14_violations_l1_eq m M1),ref14_violations_j4_eq m];rfl)
theorem ref14_violations_j0_eq m x0 x1 x2 x3 x4:e29 jn m [1,1,0,1] [] (s29_3 x0 x1 x2 x3 x4)=ref14_violations_j0 m (ref14_violations m) x0 x1 x2 x3 x4:=
 tre (g:=fun J=>(jj J 1 3 (Nat.succ m) (s29_3 x0 x1 x2 x3 x4) (l29 J m w29_0 [] (Nat.succ m)))) (fun J=>by kernel_rfl) (by simp only[jj_eq,ref14_violations_l1_eq m];rfl)
theorem ref14_violations_eq m a0 a1 a2:e29 jn m [] [] ⟨[(.dat 32 a0),(.dat 25 a1),(.dat 28 (.lst a2))],[],0⟩=ref14_violations (m+1) a0 a1 a2:=
 tre (g:=fun J=>((ref14_own m a0 a1 a2).bind fun r0=>
  (jj J 0 3 0 (s29_3 a2 0 a0 a1 r0) (e29 J m [1,1,0,1] [])))) (fun J=>by kernel_rfl) (by simp only[jj_eq,ref14_violations_j0_eq m];rfl)
noncomputable def e70 (J:Nat→Nat→Nat→St→Option Int→Option Int) (m:Nat) (p ms:List Nat) (σ:St):=evAt Tryz.prog env (ct m) J (m+1) 62 14 Tryz.f62 d9 p ms σ
noncomputable def l70 (J:Nat→Nat→Nat→St→Option Int→Option Int) (m:Nat) (p ms:List Nat) (M:Nat) (σ:St):=loopAt Tryz.prog env (ct m) J (m+1) 62 14 Tryz.f62 d9 p ms M σ
noncomputable def s70_0 (x0:Dt) (x1 x2:Int):St:=⟨tsOf [(2,(.ptr 0 [] 0)),(3,(.ptr 1 [] 0)),(5,(.ptr 2 [] 0))],[(.box 25 (.dat 25 x0)),(.box 3 (.dat 3 (.int x1))),(.box 3 (.dat 3 (.int x2)))],0⟩
theorem value_nodes_j0_eq m x0 x1 x2:e70 jn m [1,1,1] [] (s70_0 x0 x1 x2)=value_nodes_j0 m (i79 m) x0 x1 x2:=
 tre (g:=fun J=>((i79 m x0 x2 x1).bind fun r0=>
  some r0.1)) (fun J=>by kernel_rfl) (by rfl)
theorem value_nodes_eq m a0 a1:e70 jn m [] [] ⟨[(.dat 25 a0),(.dat 3 (.int a1))],[],0⟩=value_nodes (m+1) a0 a1:=
 tre (g:=fun J=>(bif (1==a1) then
  some 1
   else
  (jj J 0 4 0 (s70_0 a0 a1 1) (e70 J m [1,1,1] [])))) (fun J=>by kernel_rfl) (by simp only[jj_eq,value_nodes_j0_eq m];rfl)
def w79_3:List Nat:=[1,1,0,1,0,1]
def w79_0:List Nat:=w79_3++[0]
def w79_7:List Nat:=[1,1,0,1,1,1,0,1]
def w79_4:List Nat:=w79_7++[0]
def w79_2:List Nat:=w79_0++[0,1,1]
def w79_1:List Nat:=w79_2++[1]
def w79_6:List Nat:=w79_4++[0,1,1]
def w79_5:List Nat:=w79_6++[1]
noncomputable def e79 (J:Nat→Nat→Nat→St→Option (Int×Int)→Option (Int×Int)) (m:Nat) (p ms:List Nat) (σ:St):=evAt Tryz.prog env (ct m) J (m+1) 94 39 Tryz.f94 d79 p ms σ
noncomputable def l79 (J:Nat→Nat→Nat→St→Option (Int×Int)→Option (Int×Int)) (m:Nat) (p ms:List Nat) (M:Nat) (σ:St):=loopAt Tryz.prog env (ct m) J (m+1) 94 39 Tryz.f94 d79 p ms M σ
noncomputable def s79_3 (x0:List Dt) (x1 x2 x3 x4:Int):St:=⟨tsOf [(1,(.fn 95 [(.ptr 0 [] 0),(.ptr 1 [] 0)])),(13,(.dat 22 (.lst x0))),(14,(.dat 3 (.int x1))),(15,(.dat 3 (.int x2)))],[(.box 3 (.dat 3 (.int x3))),(.box 3 (.dat 3 (.int x4)))],2⟩
noncomputable def s79_7 (x0:List Dt) (x1 x2 x3 x4:Int):St:=⟨tsOf [(1,(.fn 95 [(.ptr 0 [] 0),(.ptr 1 [] 0)])),(27,(.dat 23 (.lst x0))),(28,(.dat 3 (.int x1))),(29,(.dat 3 (.int x2)))],[(.box 3 (.dat 3 (.int x3))),(.box 3 (.dat 3 (.int x4)))],2⟩
abbrev H79_1 (m M1:Nat) (rec1:List Dt→Int→Int→Int→Int→Option (Int×Int)):Prop:=∀x0 x1 x2 x3 x4,l79 jn m w79_0 [] M1 (s79_3 x0 x1 x2 x3 x4)=rec1 x0 x1 x2 x3 x4
theorem i79_j3_eq m M1 rec1 (h1:H79_1 m M1 rec1) x0 x1 x2 x3 x4:e79 jn m w79_1 [M1] (s79_3 x0 x1 x2 x3 x4)=i79_j3 m (i80 m) rec1 x0 x1 x2 x3 x4:=
 tre (g:=fun J=>(jj J 1 4 M1 (s79_3 x0 x1 (IntKind.wrap .i64 (x2+1)) x3 x4) (l79 J m w79_0 [] M1))) (fun J=>by kernel_rfl) (by simp only[jj_eq,h1];rfl)
theorem i79_j2_eq m M1 rec1 (h1:H79_1 m M1 rec1) x0 x1 x2 x3 x4:e79 jn m w79_2 [M1] (s79_3 x0 x1 x2 x3 x4)=i79_j2 m (i80 m) rec1 x0 x1 x2 x3 x4:=
 tre (g:=fun J=>((idx x0 x2).bind fun v0=>
  ((i80 m v0 x3 x4).bind fun r1=>
  (bif (Bool.not r1.1) then
  some (r1.2.1,r1.2.2)
  else
  (jj J 0 7 0 (s79_3 x0 x1 x2 r1.2.1 r1.2.2) (e79 J m w79_1 [M1])))))) (fun J=>by kernel_rfl) (by simp only[jj_eq,i79_j3_eq m M1 rec1 h1];rfl)
theorem i79_l1_eq m:∀M1 x0 x1 x2 x3 x4,l79 jn m w79_0 [] M1 (s79_3 x0 x1 x2 x3 x4)=i79_l1 m (i80 m) M1 x0 x1 x2 x3 x4
 |0,_,_,_,_,_=>rfl
 | M1+1,x0,x1,x2,x3,x4=>
   trl (g:=fun J=>(bif (decide (x2<x1)) then
  (jj J 0 5 0 (s79_3 x0 x1 x2 x3 x4) (e79 J m w79_2 [M1]))
   else
  some (x3,x4))) (fun J=>by kernel_rfl) (by simp only[jj_eq,i79_j2_eq m M1 (i79_l1 m (i80 m) M1) (i79_l1_eq m M1)];rfl)
theorem i79_j0_eq m x0 x1 x2 x3 x4:e79 jn m w79_3 [] (s79_3 x0 x1 x2 x3 x4)=i79_j0 m (i80 m) x0 x1 x2 x3 x4:=
 tre (g:=fun J=>(jj J 1 4 (Nat.succ m) (s79_3 x0 x1 x2 x3 x4) (l79 J m w79_0 [] (Nat.succ m)))) (fun J=>by kernel_rfl) (by simp only[jj_eq,i79_l1_eq m];rfl)
abbrev H79_5 (m M5:Nat) (rec5:List Dt→Int→Int→Int→Int→Option (Int×Int)):Prop:=∀x0 x1 x2 x3 x4,l79 jn m w79_4 [] M5 (s79_7 x0 x1 x2 x3 x4)=rec5 x0 x1 x2 x3 x4
theorem i79_j7_eq m M5 rec5 (h5:H79_5 m M5 rec5) x0 x1 x2 x3 x4:e79 jn m w79_5 [M5] (s79_7 x0 x1 x2 x3 x4)=i79_j7 m (i80 m) rec5 x0 x1 x2 x3 x4:=
 tre (g:=fun J=>(jj J 1 10 M5 (s79_7 x0 x1 (IntKind.wrap .i64 (x2+1)) x3 x4) (l79 J m w79_4 [] M5))) (fun J=>by kernel_rfl) (by simp only[jj_eq,h5];rfl)
theorem i79_j6_eq m M5 rec5 (h5:H79_5 m M5 rec5) x0 x1 x2 x3 x4:e79 jn m w79_6 [M5] (s79_7 x0 x1 x2 x3 x4)=i79_j6 m (i80 m) rec5 x0 x1 x2 x3 x4:=
 tre (g:=fun J=>((idx x0 x2).bind fun v2=>
  ((i80 m (Dt.fld v2 1) x3 x4).bind fun r3=>
  (bif (Bool.not r3.1) then
  some (r3.2.1,r3.2.2)
  else
  (jj J 0 13 0 (s79_7 x0 x1 x2 r3.2.1 r3.2.2) (e79 J m w79_5 [M5])))))) (fun J=>by kernel_rfl) (by simp only[jj_eq,i79_j7_eq m M5 rec5 h5];rfl)
theorem i79_l5_eq m:∀M5 x0 x1 x2 x3 x4,l79 jn m w79_4 [] M5 (s79_7 x0 x1 x2 x3 x4)=i79_l5 m (i80 m) M5 x0 x1 x2 x3 x4
 |0,_,_,_,_,_=>rfl
 | M5+1,x0,x1,x2,x3,x4=>
   trl (g:=fun J=>(bif (decide (x2<x1)) then
  (jj J 0 11 0 (s79_7 x0 x1 x2 x3 x4) (e79 J m w79_6 [M5]))
   else
  some (x3,x4))) (fun J=>by kernel_rfl) (by simp only[jj_eq,i79_j6_eq m M5 (i79_l5 m (i80 m) M5) (i79_l5_eq m M5)];rfl)
theorem i79_j4_eq m x0 x1 x2 x3 x4:e79 jn m w79_7 [] (s79_7 x0 x1 x2 x3 x4)=i79_j4 m (i80 m) x0 x1 x2 x3 x4:=
 tre (g:=fun J=>(jj J 1 10 (Nat.succ m) (s79_7 x0 x1 x2 x3 x4) (l79 J m w79_4 [] (Nat.succ m)))) (fun J=>by kernel_rfl) (by simp only[jj_eq,i79_l5_eq m];rfl)
theorem i79_eq m a0 a1 a2:e79 jn m [] [] ⟨[(.dat 25 a0),(.fn 95 [(.ptr 0 [] 0),(.ptr 1 [] 0)])],[(.box 3 (.dat 3 (.int a1))),(.box 3 (.dat 3 (.int a2)))],2⟩=i79 (m+1) a0 a1 a2:=
 tre (g:=fun J=>(bif ((Dt.I a0 0)==6) then
  (jj J 0 4 0 (s79_3 (Dt.L a0 3) (List.length (Dt.L a0 3):Int) 0 a1 a2) (e79 J m w79_3 []))
   else
  (bif ((Dt.I a0 0)==5) then
  (jj J 0 10 0 (s79_7 (Dt.L a0 4) (List.length (Dt.L a0 4):Int) 0 a1 a2) (e79 J m w79_7 []))
  else
  some (a1,a2)))) (fun J=>by kernel_rfl) (by simp only[jj_eq,i79_j0_eq m,i79_j4_eq m];rfl)
noncomputable def e80 (J:Nat→Nat→Nat→St→Option (Bool×Int×Int)→Option (Bool×Int×Int)) (m:Nat) (p ms:List Nat) (σ:St):=evAt Tryz.prog env (ct m) J (m+1) 95 15 Tryz.f95 d80 p ms σ
noncomputable def l80 (J:Nat→Nat→Nat→St→Option (Bool×Int×Int)→Option (Bool×Int×Int)) (m:Nat) (p ms:List Nat) (M:Nat) (σ:St):=loopAt Tryz.prog env (ct m) J (m+1) 95 15 Tryz.f95 d80 p ms M σ
theorem i80_eq m a0 a1 a2:e80 jn m [] [] ⟨[(.dat 25 a0),(.ptr 0 [] 0),(.ptr 1 [] 0)],[(.box 3 (.dat 3 (.int a1))),(.box 3 (.dat 3 (.int a2)))],2⟩=i80 (m+1) a0 a1 a2:=
 tre (g:=fun J=>((value_nodes m a0 (IntKind.wrap .i64 (a2-a1))).bind fun r0=>
  some ((decide ((IntKind.wrap .i64 (a1+r0))<a2)),(IntKind.wrap .i64 (a1+r0)),a2))) (fun J=>by kernel_rfl) (by rfl)
noncomputable def e64 (J:Nat→Nat→Nat→St→Option Int→Option Int) (m:Nat) (p ms:List Nat) (σ:St):=evAt Tryz.prog env (ct m) J (m+1) 33 5 Tryz.f33 d9 p ms σ
noncomputable def l64 (J:Nat→Nat→Nat→St→Option Int→Option Int) (m:Nat) (p ms:List Nat) (M:Nat) (σ:St):=loopAt Tryz.prog env (ct m) J (m+1) 33 5 Tryz.f33 d9 p ms M σ
theorem value_Nodes_eq m a0:e64 jn m [] [] ⟨[(.dat 25 a0)],[],0⟩=value_Nodes (m+1) a0:=
 tre (g:=fun J=>((value_nodes m a0 1025).bind fun r0=>
  some r0)) (fun J=>by kernel_rfl) (by rfl)
noncomputable def e71 (J:Nat→Nat→Nat→St→Option Int→Option Int) (m:Nat) (p ms:List Nat) (σ:St):=evAt Tryz.prog env (ct m) J (m+1) 63 13 Tryz.f63 d9 p ms σ
noncomputable def l71 (J:Nat→Nat→Nat→St→Option Int→Option Int) (m:Nat) (p ms:List Nat) (M:Nat) (σ:St):=loopAt Tryz.prog env (ct m) J (m+1) 63 13 Tryz.f63 d9 p ms M σ
noncomputable def s71_0 (x0:Dt) (x1:Int):St:=⟨tsOf [(2,(.ptr 0 [] 0)),(3,(.ptr 1 [] 0))],[(.box 25 (.dat 25 x0)),(.box 3 (.dat 3 (.int x1)))],0⟩
theorem value_depth_j0_eq m x0 x1:e71 jn m [1,1] [] (s71_0 x0 x1)=value_depth_j0 m (i81 m) x0 x1:=
 tre (g:=fun J=>((i81 m x0 0 x1).bind fun r0=>
  some (IntKind.wrap .i64 (1+r0.1)))) (fun J=>by kernel_rfl) (by rfl)
theorem value_depth_eq m a0 a1:e71 jn m [] [] ⟨[(.dat 25 a0),(.dat 3 (.int a1))],[],0⟩=value_depth (m+1) a0 a1:=
 tre (g:=fun J=>(bif (a1==1) then
  some 1
   else
  (jj J 0 3 0 (s71_0 a0 a1) (e71 J m [1,1] [])))) (fun J=>by kernel_rfl) (by simp only[jj_eq,value_depth_j0_eq m];rfl)
def w81_3:List Nat:=[1,1,0,1,0,1]
def w81_0:List Nat:=w81_3++[0]
def w81_7:List Nat:=[1,1,0,1,1,1,0,1]
def w81_4:List Nat:=w81_7++[0]
def w81_2:List Nat:=w81_0++[0,1,1]
def w81_1:List Nat:=w81_2++[1]
def w81_6:List Nat:=w81_4++[0,1,1]
def w81_5:List Nat:=w81_6++[1]
noncomputable def e81 (J:Nat→Nat→Nat→St→Option (Int×Int)→Option (Int×Int)) (m:Nat) (p ms:List Nat) (σ:St):=evAt Tryz.prog env (ct m) J (m+1) 94 39 Tryz.f94 d79 p ms σ
noncomputable def l81 (J:Nat→Nat→Nat→St→Option (Int×Int)→Option (Int×Int)) (m:Nat) (p ms:List Nat) (M:Nat) (σ:St):=loopAt Tryz.prog env (ct m) J (m+1) 94 39 Tryz.f94 d79 p ms M σ
noncomputable def s81_3 (x0:List Dt) (x1 x2 x3 x4:Int):St:=⟨tsOf [(1,(.fn 96 [(.ptr 0 [] 0),(.ptr 1 [] 0)])),(13,(.dat 22 (.lst x0))),(14,(.dat 3 (.int x1))),(15,(.dat 3 (.int x2)))],[(.box 3 (.dat 3 (.int x3))),(.box 3 (.dat 3 (.int x4)))],2⟩
noncomputable def s81_7 (x0:List Dt) (x1 x2 x3 x4:Int):St:=⟨tsOf [(1,(.fn 96 [(.ptr 0 [] 0),(.ptr 1 [] 0)])),(27,(.dat 23 (.lst x0))),(28,(.dat 3 (.int x1))),(29,(.dat 3 (.int x2)))],[(.box 3 (.dat 3 (.int x3))),(.box 3 (.dat 3 (.int x4)))],2⟩
abbrev H81_1 (m M1:Nat) (rec1:List Dt→Int→Int→Int→Int→Option (Int×Int)):Prop:=∀x0 x1 x2 x3 x4,l81 jn m w81_0 [] M1 (s81_3 x0 x1 x2 x3 x4)=rec1 x0 x1 x2 x3 x4
theorem i81_j3_eq m M1 rec1 (h1:H81_1 m M1 rec1) x0 x1 x2 x3 x4:e81 jn m w81_1 [M1] (s81_3 x0 x1 x2 x3 x4)=i81_j3 m (i82 m) rec1 x0 x1 x2 x3 x4:=
 tre (g:=fun J=>(jj J 1 4 M1 (s81_3 x0 x1 (IntKind.wrap .i64 (x2+1)) x3 x4) (l81 J m w81_0 [] M1))) (fun J=>by kernel_rfl) (by simp only[jj_eq,h1];rfl)
theorem i81_j2_eq m M1 rec1 (h1:H81_1 m M1 rec1) x0 x1 x2 x3 x4:e81 jn m w81_2 [M1] (s81_3 x0 x1 x2 x3 x4)=i81_j2 m (i82 m) rec1 x0 x1 x2 x3 x4:=
 tre (g:=fun J=>((idx x0 x2).bind fun v0=>
  ((i82 m v0 x3 x4).bind fun r1=>
  (bif (Bool.not r1.1) then
  some (r1.2.1,r1.2.2)
  else
  (jj J 0 7 0 (s81_3 x0 x1 x2 r1.2.1 r1.2.2) (e81 J m w81_1 [M1])))))) (fun J=>by kernel_rfl) (by simp only[jj_eq,i81_j3_eq m M1 rec1 h1];rfl)
theorem i81_l1_eq m:∀M1 x0 x1 x2 x3 x4,l81 jn m w81_0 [] M1 (s81_3 x0 x1 x2 x3 x4)=i81_l1 m (i82 m) M1 x0 x1 x2 x3 x4
 |0,_,_,_,_,_=>rfl
 | M1+1,x0,x1,x2,x3,x4=>
   trl (g:=fun J=>(bif (decide (x2<x1)) then
  (jj J 0 5 0 (s81_3 x0 x1 x2 x3 x4) (e81 J m w81_2 [M1]))
   else
  some (x3,x4))) (fun J=>by kernel_rfl) (by simp only[jj_eq,i81_j2_eq m M1 (i81_l1 m (i82 m) M1) (i81_l1_eq m M1)];rfl)
theorem i81_j0_eq m x0 x1 x2 x3 x4:e81 jn m w81_3 [] (s81_3 x0 x1 x2 x3 x4)=i81_j0 m (i82 m) x0 x1 x2 x3 x4:=
 tre (g:=fun J=>(jj J 1 4 (Nat.succ m) (s81_3 x0 x1 x2 x3 x4) (l81 J m w81_0 [] (Nat.succ m)))) (fun J=>by kernel_rfl) (by simp only[jj_eq,i81_l1_eq m];rfl)
abbrev H81_5 (m M5:Nat) (rec5:List Dt→Int→Int→Int→Int→Option (Int×Int)):Prop:=∀x0 x1 x2 x3 x4,l81 jn m w81_4 [] M5 (s81_7 x0 x1 x2 x3 x4)=rec5 x0 x1 x2 x3 x4
theorem i81_j7_eq m M5 rec5 (h5:H81_5 m M5 rec5) x0 x1 x2 x3 x4:e81 jn m w81_5 [M5] (s81_7 x0 x1 x2 x3 x4)=i81_j7 m (i82 m) rec5 x0 x1 x2 x3 x4:=
 tre (g:=fun J=>(jj J 1 10 M5 (s81_7 x0 x1 (IntKind.wrap .i64 (x2+1)) x3 x4) (l81 J m w81_4 [] M5))) (fun J=>by kernel_rfl) (by simp only[jj_eq,h5];rfl)
theorem i81_j6_eq m M5 rec5 (h5:H81_5 m M5 rec5) x0 x1 x2 x3 x4:e81 jn m w81_6 [M5] (s81_7 x0 x1 x2 x3 x4)=i81_j6 m (i82 m) rec5 x0 x1 x2 x3 x4:=
 tre (g:=fun J=>((idx x0 x2).bind fun v2=>
  ((i82 m (Dt.fld v2 1) x3 x4).bind fun r3=>
  (bif (Bool.not r3.1) then
  some (r3.2.1,r3.2.2)
  else
  (jj J 0 13 0 (s81_7 x0 x1 x2 r3.2.1 r3.2.2) (e81 J m w81_5 [M5])))))) (fun J=>by kernel_rfl) (by simp only[jj_eq,i81_j7_eq m M5 rec5 h5];rfl)
theorem i81_l5_eq m:∀M5 x0 x1 x2 x3 x4,l81 jn m w81_4 [] M5 (s81_7 x0 x1 x2 x3 x4)=i81_l5 m (i82 m) M5 x0 x1 x2 x3 x4
 |0,_,_,_,_,_=>rfl
 | M5+1,x0,x1,x2,x3,x4=>
   trl (g:=fun J=>(bif (decide (x2<x1)) then
  (jj J 0 11 0 (s81_7 x0 x1 x2 x3 x4) (e81 J m w81_6 [M5]))
   else
  some (x3,x4))) (fun J=>by kernel_rfl) (by simp only[jj_eq,i81_j6_eq m M5 (i81_l5 m (i82 m) M5) (i81_l5_eq m M5)];rfl)
theorem i81_j4_eq m x0 x1 x2 x3 x4:e81 jn m w81_7 [] (s81_7 x0 x1 x2 x3 x4)=i81_j4 m (i82 m) x0 x1 x2 x3 x4:=
 tre (g:=fun J=>(jj J 1 10 (Nat.succ m) (s81_7 x0 x1 x2 x3 x4) (l81 J m w81_4 [] (Nat.succ m)))) (fun J=>by kernel_rfl) (by simp only[jj_eq,i81_l5_eq m];rfl)
theorem i81_eq m a0 a1 a2:e81 jn m [] [] ⟨[(.dat 25 a0),(.fn 96 [(.ptr 0 [] 0),(.ptr 1 [] 0)])],[(.box 3 (.dat 3 (.int a1))),(.box 3 (.dat 3 (.int a2)))],2⟩=i81 (m+1) a0 a1 a2:=
 tre (g:=fun J=>(bif ((Dt.I a0 0)==6) then
  (jj J 0 4 0 (s81_3 (Dt.L a0 3) (List.length (Dt.L a0 3):Int) 0 a1 a2) (e81 J m w81_3 []))
   else
  (bif ((Dt.I a0 0)==5) then
  (jj J 0 10 0 (s81_7 (Dt.L a0 4) (List.length (Dt.L a0 4):Int) 0 a1 a2) (e81 J m w81_7 []))
  else
  some (a1,a2)))) (fun J=>by kernel_rfl) (by simp only[jj_eq,i81_j0_eq m,i81_j4_eq m];rfl)
noncomputable def e82 (J:Nat→Nat→Nat→St→Option (Bool×Int×Int)→Option (Bool×Int×Int)) (m:Nat) (p ms:List Nat) (σ:St):=evAt Tryz.prog env (ct m) J (m+1) 96 15 Tryz.f96 d80 p ms σ
noncomputable def l82 (J:Nat→Nat→Nat→St→Option (Bool×Int×Int)→Option (Bool×Int×Int)) (m:Nat) (p ms:List Nat) (M:Nat) (σ:St):=loopAt Tryz.prog env (ct m) J (m+1) 96 15 Tryz.f96 d80 p ms M σ
theorem i82_eq m a0 a1 a2:e82 jn m [] [] ⟨[(.dat 25 a0),(.ptr 0 [] 0),(.ptr 1 [] 0)],[(.box 3 (.dat 3 (.int a1))),(.box 3 (.dat 3 (.int a2)))],2⟩=i82 (m+1) a0 a1 a2:=
 tre (g:=fun J=>((value_depth m a0 (IntKind.wrap .i64 (a2-1))).bind fun r0=>
  some ((decide ((bif (decide (a1<r0)) then r0 else a1)<(IntKind.wrap .i64 (a2-1)))),(bif (decide (a1<r0)) then r0 else a1),a2))) (fun J=>by kernel_rfl) (by rfl)
noncomputable def e65 (J:Nat→Nat→Nat→St→Option Int→Option Int) (m:Nat) (p ms:List Nat) (σ:St):=evAt Tryz.prog env (ct m) J (m+1) 34 5 Tryz.f34 d9 p ms σ
noncomputable def l65 (J:Nat→Nat→Nat→St→Option Int→Option Int) (m:Nat) (p ms:List Nat) (M:Nat) (σ:St):=loopAt Tryz.prog env (ct m) J (m+1) 34 5 Tryz.f34 d9 p ms M σ
theorem value_Depth_eq m a0:e65 jn m [] [] ⟨[(.dat 25 a0)],[],0⟩=value_Depth (m+1) a0:=
 tre (g:=fun J=>((value_depth m a0 17).bind fun r0=>
  some r0)) (fun J=>by kernel_rfl) (by rfl)
end Go.Proofs.YtfneddmmeadacaaGreatDoor
