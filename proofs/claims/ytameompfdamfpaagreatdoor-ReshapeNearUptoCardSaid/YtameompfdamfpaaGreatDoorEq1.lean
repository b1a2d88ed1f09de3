/- Generated: each function's run in the abstract machine is its shallow function. -/
import Derived.Test.YtameompfdamfpaaGreatDoorCt
import Derived.Test.YtameompfdamfpaaGreatDoorAmEnv
import Derived.KernelRfl
set_option linter.unusedVariables false
set_option linter.unusedSimpArgs false
namespace Go.Proofs.YtameompfdamfpaaGreatDoor
open Go.Am
set_option maxRecDepth 100000
def w70_7:List Nat:=[1,1,0,1,0,1]
def w70_0:List Nat:=w70_7++[0]
def w70_6:List Nat:=[1,1,1,0,1,0,1]
def w70_3:List Nat:=w70_6++[0]
def w70_2:List Nat:=w70_0++[0,1]
def w70_1:List Nat:=w70_2++[1]
def w70_5:List Nat:=w70_3++[0,1]
def w70_4:List Nat:=w70_5++[1]
noncomputable def e70 (J:Nat→Nat→Nat→St→Option (List Dt)→Option (List Dt)) (m:Nat) (p ms:List Nat) (σ:St):=evAt Tryz.prog env (ct m) J (m+1) 160 44 Tryz.f160 d47 p ms σ
noncomputable def l70 (J:Nat→Nat→Nat→St→Option (List Dt)→Option (List Dt)) (m:Nat) (p ms:List Nat) (M:Nat) (σ:St):=loopAt Tryz.prog env (ct m) J (m+1) 160 44 Tryz.f160 d47 p ms M σ
noncomputable def s70_3 (x0:Int) (x1:Dt) (x2:List Dt):St:=⟨tsOf [(1,(.ptr 0 [] 0)),(3,(.row 1)),(4,(.dat 3 (.int x0)))],[(.box 33 (.dat 33 x1)),(.row 23 x2)],0⟩
noncomputable def s70_8 (x0:Int) (x1:Dt) (x2:List Dt):St:=⟨tsOf [(1,(.ptr 0 [] 0)),(3,(.row 1)),(5,(.dat 3 (.int x0)))],[(.box 33 (.dat 33 x1)),(.row 23 x2)],0⟩
noncomputable def s70_9 (x0:List Dt):St:=⟨tsOf [(3,(.row 0))],[(.row 23 x0)],0⟩
noncomputable def s70_4 (x0:Dt) (x1:List Dt):St:=⟨tsOf [(1,(.ptr 0 [] 0)),(3,(.row 1))],[(.box 33 (.dat 33 x0)),(.row 23 x1)],0⟩
abbrev H70_1 (m M1:Nat) (rec1:Int→Dt→List Dt→Option (List Dt)):Prop:=∀x0 x1 x2,l70 jn m w70_0 [] M1 (s70_3 x0 x1 x2)=rec1 x0 x1 x2
theorem ref01_Parts_j3_eq m M1 rec1 (h1:H70_1 m M1 rec1) x0 x1 x2:e70 jn m w70_1 [M1] (s70_3 x0 x1 x2)=ref01_Parts_j3 m rec1 x0 x1 x2:=
 tre (g:=fun J=>(jj J 1 4 M1 (s70_3 (IntKind.wrap .i64 (x0+1)) x1 x2) (l70 J m w70_0 [] M1))) (fun J=>by kernel_rfl) (by simp only[jj_eq,h1];rfl)
theorem ref01_Parts_j2_eq m M1 rec1 (h1:H70_1 m M1 rec1) x0 x1 x2:e70 jn m w70_2 [M1] (s70_3 x0 x1 x2)=ref01_Parts_j2 m rec1 x0 x1 x2:=
 tre (g:=fun J=>((idx (Dt.L x1 3) x0).bind fun v0=>
  ((app x2 [v0]).bind fun v1=>
  (jj J 0 5 0 (s70_3 x0 x1 v1) (e70 J m w70_1 [M1]))))) (fun J=>by kernel_rfl) (by simp only[jj_eq,ref01_Parts_j3_eq m M1 rec1 h1];rfl)
abbrev H70_6 (m M6:Nat) (rec6:Int→Dt→List Dt→Option (List Dt)):Prop:=∀x0 x1 x2,l70 jn m w70_3 [] M6 (s70_8 x0 x1 x2)=rec6 x0 x1 x2
theorem ref01_Parts_j8_eq m M6 rec6 (h6:H70_6 m M6 rec6) x0 x1 x2:e70 jn m w70_4 [M6] (s70_8 x0 x1 x2)=ref01_Parts_j8 m rec6 x0 x1 x2:=
 tre (g:=fun J=>(jj J 1 9 M6 (s70_8 (IntKind.wrap .i64 (x0+1)) x1 x2) (l70 J m w70_3 [] M6))) (fun J=>by kernel_rfl) (by simp only[jj_eq,h6];rfl)
theorem ref01_Parts_j7_eq m M6 rec6 (h6:H70_6 m M6 rec6) x0 x1 x2:e70 jn m w70_5 [M6] (s70_8 x0 x1 x2)=ref01_Parts_j7 m rec6 x0 x1 x2:=
 tre (g:=fun J=>((idx (Dt.L x1 4) x0).bind fun v2=>
  ((app x2 [(Dt.fld v2 1)]).bind fun v3=>
  (jj J 0 10 0 (s70_8 x0 x1 v3) (e70 J m w70_4 [M6]))))) (fun J=>by kernel_rfl) (by simp only[jj_eq,ref01_Parts_j8_eq m M6 rec6 h6];rfl)
theorem ref01_Parts_j9_eq m x0:e70 jn m [1,1,1,1] [] (s70_9 x0)=ref01_Parts_j9 m x0:=
 tre (g:=fun J=>some x0) (fun J=>by kernel_rfl) (by rfl)
theorem ref01_Parts_l6_eq m:∀M6 x0 x1 x2,l70 jn m w70_3 [] M6 (s70_8 x0 x1 x2)=ref01_Parts_l6 m M6 x0 x1 x2
 |0,_,_,_=>rfl
 | M6+1,x0,x1,x2=>
   trl (g:=fun J=>(bif (decide (x0<(List.length (Dt.L x1 4):Int))) then
  (jj J 0 11 0 (s70_8 x0 x1 x2) (e70 J m w70_5 [M6]))
   else
  (jj J 0 12 0 (s70_9 x2) (e70 J m [1,1,1,1] [])))) (fun J=>by kernel_rfl) (by simp only[jj_eq,ref01_Parts_j7_eq m M6 (ref01_Parts_l6 m M6) (ref01_Parts_l6_eq m M6),ref01_Parts_j9_eq m];rfl)
theorem ref01_Parts_j5_eq m x0 x1 x2:e70 jn m w70_6 [] (s70_8 x0 x1 x2)=ref01_Parts_j5 m x0 x1 x2:=
 tre (g:=fun J=>(jj J 1 9 (Nat.succ m) (s70_8 x0 x1 x2) (l70 J m w70_3 [] (Nat.succ m)))) (fun J=>by kernel_rfl) (by simp only[jj_eq,ref01_Parts_l6_eq m];rfl)
theorem ref01_Parts_j4_eq m x0 x1:e70 jn m [1,1,1] [] (s70_4 x0 x1)=ref01_Parts_j4 m x0 x1:=
 tre (g:=fun J=>(bif ((Dt.I x0 0)==5) then
  (jj J 0 9 0 (s70_8 0 x0 x1) (e70 J m w70_6 []))
   else
  (jj J 0 12 0 (s70_9 x1) (e70 J m [1,1,1,1] [])))) (fun J=>by kernel_rfl) (by simp only[jj_eq,ref01_Parts_j5_eq m,ref01_Parts_j9_eq m];rfl)
theorem ref01_Parts_l1_eq m:∀M1 x0 x1 x2,l70 jn m w70_0 [] M1 (s70_3 x0 x1 x2)=ref01_Parts_l1 m M1 x0 x1 x2
 |0,_,_,_=>rfl
 | M1+1,x0,x1,x2=>
   trl (g:=fun J=>(bif (decide (x0<(List.length (Dt.L x1 3):Int))) then
  (jj J 0 6 0 (s70_3 x0 x1 x2) (e70 J m w70_2 [M1]))
   else
  (jj J 0 7 0 (s70_4 x1 x2) (e70 J m [1,1,1] [])))) (fun J=>by kernel_rfl) (by simp only[jj_eq,ref01_Parts_j2_eq m M1 (ref01_Parts_l1 m M1) (ref01_Parts_l1_eq m M1),ref01_Parts_j4_eq m];rfl)
theorem ref01_Parts_j0_eq m x0 x1 x2:e70 jn m w70_7 [] (s70_3 x0 x1 x2)=ref01_Parts_j0 m x0 x1 x2:=
 tre (g:=fun J=>(jj J 1 4 (Nat.succ m) (s70_3 x0 x1 x2) (l70 J m w70_0 [] (Nat.succ m)))) (fun J=>by kernel_rfl) (by simp only[jj_eq,ref01_Parts_l1_eq m];rfl)
theorem ref01_Parts_eq m a0:e70 jn m [] [] ⟨[(.dat 33 a0)],[],0⟩=ref01_Parts (m+1) a0:=
 tre (g:=fun J=>(bif ((Dt.I a0 0)==6) then
  (jj J 0 4 0 (s70_3 0 a0 []) (e70 J m w70_7 []))
   else
  (jj J 0 7 0 (s70_4 a0 []) (e70 J m [1,1,1] [])))) (fun J=>by kernel_rfl) (by simp only[jj_eq,ref01_Parts_j0_eq m,ref01_Parts_j4_eq m];rfl)
def w60_3:List Nat:=[1,1,1,1,1]
def w60_4:List Nat:=[1,1,1,1,0,1]
def w60_0:List Nat:=w60_4++[0]
def w60_2:List Nat:=w60_0++[0,1]
def w60_1:List Nat:=w60_2++[1]
noncomputable def e60 (J:Nat→Nat→Nat→St→Option Int→Option Int) (m:Nat) (p ms:List Nat) (σ:St):=evAt Tryz.prog env (ct m) J (m+1) 112 34 Tryz.f112 d15 p ms σ
noncomputable def l60 (J:Nat→Nat→Nat→St→Option Int→Option Int) (m:Nat) (p ms:List Nat) (M:Nat) (σ:St):=loopAt Tryz.prog env (ct m) J (m+1) 112 34 Tryz.f112 d15 p ms M σ
noncomputable def s60_5 (x0:Int) (x1:List Dt) (x2 x3:Int):St:=⟨tsOf [(1,(.dat 3 (.int x0))),(5,(.dat 23 (.lst x1))),(6,(.dat 3 (.int x2))),(7,(.dat 3 (.int x3)))],[],0⟩
noncomputable def s60_6 (x0:Int):St:=⟨tsOf [(6,(.dat 3 (.int x0)))],[],0⟩
noncomputable def s60_1 (x0:Int) (x1:List Dt):St:=⟨tsOf [(1,(.dat 3 (.int x0))),(5,(.dat 23 (.lst x1)))],[],0⟩
noncomputable def s60_0 (x0:Int) (x1:List Dt) (x2:Bool):St:=⟨tsOf [(1,(.dat 3 (.int x0))),(5,(.dat 23 (.lst x1))),(16,(.dat 4 (.bool x2)))],[],0⟩
abbrev H60_3 (m M3:Nat) (rec3:Int→List Dt→Int→Int→Option Int):Prop:=∀x0 x1 x2 x3,l60 jn m w60_0 [] M3 (s60_5 x0 x1 x2 x3)=rec3 x0 x1 x2 x3
theorem ref01_levels_j5_eq m M3 rec3 (h3:H60_3 m M3 rec3) x0 x1 x2 x3:e60 jn m w60_1 [M3] (s60_5 x0 x1 x2 x3)=ref01_levels_j5 m (ref01_levels m) rec3 x0 x1 x2 x3:=
 tre (g:=fun J=>(jj J 1 6 M3 (s60_5 x0 x1 x2 (IntKind.wrap .i64 (x3+1))) (l60 J m w60_0 [] M3))) (fun J=>by kernel_rfl) (by simp only[jj_eq,h3];rfl)
theorem ref01_levels_j4_eq m M3 rec3 (h3:H60_3 m M3 rec3) x0 x1 x2 x3:e60 jn m w60_2 [M3] (s60_5 x0 x1 x2 x3)=ref01_levels_j4 m (ref01_levels m) rec3 x0 x1 x2 x3:=
 tre (g:=fun J=>((idx x1 x3).bind fun v1=>
  ((ref01_levels m v1 (IntKind.wrap .i64 (x0-1))).bind fun r2=>
  (jj J 0 7 0 (s60_5 x0 x1 (bif (decide (x2<r2)) then r2 else x2) x3) (e60 J m w60_1 [M3]))))) (fun J=>by kernel_rfl) (by simp only[jj_eq,ref01_levels_j5_eq m M3 rec3 h3];rfl)
theorem ref01_levels_j6_eq m x0:e60 jn m w60_3 [] (s60_6 x0)=ref01_levels_j6 m (ref01_levels m) x0:=
 tre (g:=fun J=>some (IntKind.wrap .i64 (x0+1))) (fun J=>by kernel_rfl) (by rfl)
theorem ref01_levels_l3_eq m:∀M3 x0 x1 x2 x3,l60 jn m w60_0 [] M3 (s60_5 x0 x1 x2 x3)=ref01_levels_l3 m (ref01_levels m) M3 x0 x1 x2 x3
 |0,_,_,_,_=>rfl
 | M3+1,x0,x1,x2,x3=>
   trl (g:=fun J=>(bif (decide (x3<(List.length x1:Int))) then
  (jj J 0 8 0 (s60_5 x0 x1 x2 x3) (e60 J m w60_2 [M3]))
   else
  (jj J 0 9 0 (s60_6 x2) (e60 J m w60_3 [])))) (fun J=>by kernel_rfl) (by simp only[jj_eq,ref01_levels_j4_eq m M3 (ref01_levels_l3 m (ref01_levels m) M3) (ref01_levels_l3_eq m M3),ref01_levels_j6_eq m];rfl)
theorem ref01_levels_j2_eq m x0 x1 x2 x3:e60 jn m w60_4 [] (s60_5 x0 x1 x2 x3)=ref01_levels_j2 m (ref01_levels m) x0 x1 x2 x3:=
 tre (g:=fun J=>(jj J 1 6 (Nat.succ m) (s60_5 x0 x1 x2 x3) (l60 J m w60_0 [] (Nat.succ m)))) (fun J=>by kernel_rfl) (by simp only[jj_eq,ref01_levels_l3_eq m];rfl)
theorem ref01_levels_j1_eq m x0 x1:e60 jn m [1,1,1] [] (s60_1 x0 x1)=ref01_levels_j1 m (ref01_levels m) x0 x1:=
 tre (g:=fun J=>(jj J 0 6 0 (s60_5 x0 x1 0 0) (e60 J m w60_4 []))) (fun J=>by kernel_rfl) (by simp only[jj_eq,ref01_levels_j2_eq m];rfl)
theorem ref01_levels_j0_eq m x0 x1 x2:e60 jn m [1,1,0,1] [] (s60_0 x0 x1 x2)=ref01_levels_j0 m (ref01_levels m) x0 x1 x2:=
 tre (g:=fun J=>(bif x2 then
  some 1
   else
  (jj J 0 4 0 (s60_1 x0 x1) (e60 J m [1,1,1] [])))) (fun J=>by kernel_rfl) (by simp only[jj_eq,ref01_levels_j1_eq m];rfl)
theorem ref01_levels_eq m a0 a1:e60 jn m [] [] ⟨[(.dat 33 a0),(.dat 3 (.int a1))],[],0⟩=ref01_levels (m+1) a0 a1:=
 tre (g:=fun J=>((ref01_Parts m a0).bind fun r0=>
  (bif (decide (a1<2)) then
  (jj J 0 3 0 (s60_0 a1 r0 true) (e60 J m [1,1,0,1] []))
  else
  (jj J 0 3 0 (s60_0 a1 r0 ((List.length r0:Int)==0)) (e60 J m [1,1,0,1] []))))) (fun J=>by kernel_rfl) (by simp only[jj_eq,ref01_levels_j0_eq m];rfl)
noncomputable def e44 (J:Nat→Nat→Nat→St→Option Int→Option Int) (m:Nat) (p ms:List Nat) (σ:St):=evAt Tryz.prog env (ct m) J (m+1) 68 5 Tryz.f68 d15 p ms σ
noncomputable def l44 (J:Nat→Nat→Nat→St→Option Int→Option Int) (m:Nat) (p ms:List Nat) (M:Nat) (σ:St):=loopAt Tryz.prog env (ct m) J (m+1) 68 5 Tryz.f68 d15 p ms M σ
theorem ref01_Depth_eq m a0:e44 jn m [] [] ⟨[(.dat 33 a0)],[],0⟩=ref01_Depth (m+1) a0:=
 tre (g:=fun J=>((ref01_levels m a0 17).bind fun r0=>
  some r0)) (fun J=>by kernel_rfl) (by rfl)
def w61_3:List Nat:=[1,1,1,0,1]
def w61_0:List Nat:=[1,1,1,0,1,0]
def w61_2:List Nat:=w61_0++[0,1]
def w61_1:List Nat:=w61_2++[1]
noncomputable def e61 (J:Nat→Nat→Nat→St→Option Int→Option Int) (m:Nat) (p ms:List Nat) (σ:St):=evAt Tryz.prog env (ct m) J (m+1) 113 32 Tryz.f113 d15 p ms σ
noncomputable def l61 (J:Nat→Nat→Nat→St→Option Int→Option Int) (m:Nat) (p ms:List Nat) (M:Nat) (σ:St):=loopAt Tryz.prog env (ct m) J (m+1) 113 32 Tryz.f113 d15 p ms M σ
noncomputable def s61_3 (x0 x1:Int) (x2:List Dt) (x3:Int):St:=⟨tsOf [(1,(.dat 3 (.int x0))),(5,(.dat 3 (.int x1))),(6,(.dat 23 (.lst x2))),(7,(.dat 3 (.int x3)))],[],0⟩
noncomputable def s61_4 (x0:Int):St:=⟨tsOf [(5,(.dat 3 (.int x0)))],[],0⟩
abbrev H61_1 (m M1:Nat) (rec1:Int→Int→List Dt→Int→Option Int):Prop:=∀x0 x1 x2 x3,l61 jn m w61_0 [] M1 (s61_3 x0 x1 x2 x3)=rec1 x0 x1 x2 x3
theorem ref01_count_j3_eq m M1 rec1 (h1:H61_1 m M1 rec1) x0 x1 x2 x3:e61 jn m w61_1 [M1] (s61_3 x0 x1 x2 x3)=ref01_count_j3 m (ref01_count m) rec1 x0 x1 x2 x3:=
 tre (g:=fun J=>(jj J 1 4 M1 (s61_3 x0 x1 x2 (IntKind.wrap .i64 (x3+1))) (l61 J m w61_0 [] M1))) (fun J=>by kernel_rfl) (by simp only[jj_eq,h1];rfl)
theorem ref01_count_j2_eq m M1 rec1 (h1:H61_1 m M1 rec1) x0 x1 x2 x3:e61 jn m w61_2 [M1] (s61_3 x0 x1 x2 x3)=ref01_count_j2 m (ref01_count m) rec1 x0 x1 x2 x3:=
 tre (g:=fun J=>((idx x2 x3).bind fun v1=>
  ((ref01_count m v1 (IntKind.wrap .i64 (x0-x1))).bind fun r2=>
  (jj J 0 5 0 (s61_3 x0 (IntKind.wrap .i64 (x1+r2)) x2 x3) (e61 J m w61_1 [M1]))))) (fun J=>by kernel_rfl) (by simp only[jj_eq,ref01_count_j3_eq m M1 rec1 h1];rfl)
theorem ref01_count_j4_eq m x0:e61 jn m [1,1,1,1] [] (s61_4 x0)=ref01_count_j4 m (ref01_count m) x0:=
 tre (g:=fun J=>some x0) (fun J=>by kernel_rfl) (by rfl)
theorem ref01_count_l1_eq m:∀M1 x0 x1 x2 x3,l61 jn m w61_0 [] M1 (s61_3 x0 x1 x2 x3)=ref01_count_l1 m (ref01_count m) M1 x0 x1 x2 x3
 |0,_,_,_,_=>rfl
 | M1+1,x0,x1,x2,x3=>
   trl (g:=fun J=>(bif (decide (x3<(List.length x2:Int))) then
  (bif (decide (x1<x0)) then
  (jj J 0 6 0 (s61_3 x0 x1 x2 x3) (e61 J m w61_2 [M1]))
  else
  (jj J 0 7 0 (s61_4 x1) (e61 J m [1,1,1,1] [])))
   else
  (jj J 0 7 0 (s61_4 x1) (e61 J m [1,1,1,1] [])))) (fun J=>by kernel_rfl) (by simp only[jj_eq,ref01_count_j2_eq m M1 (ref01_count_l1 m (ref01_count m) M1) (ref01_count_l1_eq m M1),ref01_count_j4_eq m];rfl)
theorem ref01_count_j0_eq m x0 x1 x2 x3:e61 jn m w61_3 [] (s61_3 x0 x1 x2 x3)=ref01_count_j0 m (ref01_count m) x0 x1 x2 x3:=
 tre (g:=fun J=>(jj J 1 4 (Nat.succ m) (s61_3 x0 x1 x2 x3) (l61 J m w61_0 [] (Nat.succ m)))) (fun J=>by kernel_rfl) (by simp only[jj_eq,ref01_count_l1_eq m];rfl)
theorem ref01_count_eq m a0 a1:e61 jn m [] [] ⟨[(.dat 33 a0),(.dat 3 (.int a1))],[],0⟩=ref01_count (m+1) a0 a1:=
 tre (g:=fun J=>((ref01_Parts m a0).bind fun r0=>
  (jj J 0 4 0 (s61_3 a1 1 r0 0) (e61 J m w61_3 [])))) (fun J=>by kernel_rfl) (by simp only[jj_eq,ref01_count_j0_eq m];rfl)
noncomputable def e45 (J:Nat→Nat→Nat→St→Option Int→Option Int) (m:Nat) (p ms:List Nat) (σ:St):=evAt Tryz.prog env (ct m) J (m+1) 69 5 Tryz.f69 d15 p ms σ
noncomputable def l45 (J:Nat→Nat→Nat→St→Option Int→Option Int) (m:Nat) (p ms:List Nat) (M:Nat) (σ:St):=loopAt Tryz.prog env (ct m) J (m+1) 69 5 Tryz.f69 d15 p ms M σ
theorem ref01_Nodes_eq m a0:e45 jn m [] [] ⟨[(.dat 33 a0)],[],0⟩=ref01_Nodes (m+1) a0:=
 tre (g:=fun J=>((ref01_count m a0 1025).bind fun r0=>
  some r0)) (fun J=>by kernel_rfl) (by rfl)
def w71_0:List Nat:=[1,1,0,1,0]
def w71_3:List Nat:=[1,1,0,1,0,0,1]
def w71_1:List Nat:=w71_3++[1]
def w71_2:List Nat:=w71_3++[0,0,1]
noncomputable def e71 (J:Nat→Nat→Nat→St→Option Bool→Option Bool) (m:Nat) (p ms:List Nat) (σ:St):=evAt Tryz.prog env (ct m) J (m+1) 161 33 Tryz.f161 d5 p ms σ
noncomputable def l71 (J:Nat→Nat→Nat→St→Option Bool→Option Bool) (m:Nat) (p ms:List Nat) (M:Nat) (σ:St):=loopAt Tryz.prog env (ct m) J (m+1) 161 33 Tryz.f161 d5 p ms M σ
noncomputable def s71_5 (x0:ByteArray) (x1 x2 x3:Int):St:=⟨tsOf [(0,(.dat 9 (.str x0))),(1,(.dat 3 (.int x1))),(2,(.dat 3 (.int x2))),(7,(.dat 3 (.int x3)))],[],0⟩
noncomputable def s71_4 (x0:ByteArray) (x1 x2 x3:Int) (x4:Bool):St:=⟨tsOf [(0,(.dat 9 (.str x0))),(1,(.dat 3 (.int x1))),(2,(.dat 3 (.int x2))),(7,(.dat 3 (.int x3))),(32,(.dat 4 (.bool x4)))],[],0⟩
noncomputable def s71_6:St:=⟨tsOf [],[],0⟩
noncomputable def s71_0 (x0:ByteArray) (x1 x2:Int):St:=⟨tsOf [(0,(.dat 9 (.str x0))),(1,(.dat 3 (.int x1))),(2,(.dat 3 (.int x2)))],[],0⟩
abbrev H71_2 (m M2:Nat) (rec2:ByteArray→Int→Int→Int→Option Bool):Prop:=∀x0 x1 x2 x3,l71 jn m w71_0 [] M2 (s71_5 x0 x1 x2 x3)=rec2 x0 x1 x2 x3
theorem ref01_tail_j5_eq m M2 rec2 (h2:H71_2 m M2 rec2) x0 x1 x2 x3:e71 jn m w71_1 [M2] (s71_5 x0 x1 x2 x3)=ref01_tail_j5 m rec2 x0 x1 x2 x3:=
 tre (g:=fun J=>(jj J 1 4 M2 (s71_5 x0 x1 x2 (IntKind.wrap .i64 (x3+1))) (l71 J m w71_0 [] M2))) (fun J=>by kernel_rfl) (by simp only[jj_eq,h2];rfl)
theorem ref01_tail_j4_eq m M2 rec2 (h2:H71_2 m M2 rec2) x0 x1 x2 x3 x4:e71 jn m w71_2 [M2] (s71_4 x0 x1 x2 x3 x4)=ref01_tail_j4 m rec2 x0 x1 x2 x3 x4:=
 tre (g:=fun J=>(bif x4 then
  some false
   else
  (jj J 0 5 0 (s71_5 x0 x1 x2 x3) (e71 J m w71_1 [M2])))) (fun J=>by kernel_rfl) (by simp only[jj_eq,ref01_tail_j5_eq m M2 rec2 h2];rfl)
theorem ref01_tail_j3_eq m M2 rec2 (h2:H71_2 m M2 rec2) x0 x1 x2 x3:e71 jn m w71_3 [M2] (s71_5 x0 x1 x2 x3)=ref01_tail_j3 m rec2 x0 x1 x2 x3:=
 tre (g:=fun J=>((idxS x0 (IntKind.wrap .i64 (x1+x3))).bind fun v0=>
  (bif (decide (v0<128)) then
  (jj J 0 7 0 (s71_4 x0 x1 x2 x3 true) (e71 J m w71_2 [M2]))
  else
  ((idxS x0 (IntKind.wrap .i64 (x1+x3))).bind fun v1=>
  (jj J 0 7 0 (s71_4 x0 x1 x2 x3 (decide (191<v1))) (e71 J m w71_2 [M2])))))) (fun J=>by kernel_rfl) (by simp only[jj_eq,ref01_tail_j4_eq m M2 rec2 h2];rfl)
theorem ref01_tail_j6_eq m:e71 jn m [1,1,1] [] s71_6=ref01_tail_j6 m:=
 tre (g:=fun J=>some true) (fun J=>by kernel_rfl) (by rfl)
theorem ref01_tail_l2_eq m:∀M2 x0 x1 x2 x3,l71 jn m w71_0 [] M2 (s71_5 x0 x1 x2 x3)=ref01_tail_l2 m M2 x0 x1 x2 x3
 |0,_,_,_,_=>rfl
 | M2+1,x0,x1,x2,x3=>
   trl (g:=fun J=>(bif (decide (x3<x2)) then
  (jj J 0 6 0 (s71_5 x0 x1 x2 x3) (e71 J m w71_3 [M2]))
   else
  (jj J 0 8 0 s71_6 (e71 J m [1,1,1] [])))) (fun J=>by kernel_rfl) (by simp only[jj_eq,ref01_tail_j3_eq m M2 (ref01_tail_l2 m M2) (ref01_tail_l2_eq m M2),ref01_tail_j6_eq m];rfl)
theorem ref01_tail_j1_eq m x0 x1 x2 x3:e71 jn m [1,1,0,1] [] (s71_5 x0 x1 x2 x3)=ref01_tail_j1 m x0 x1 x2 x3:=
 tre (g:=fun J=>(jj J 1 4 (Nat.succ m) (s71_5 x0 x1 x2 x3) (l71 J m w71_0 [] (Nat.succ m)))) (fun J=>by kernel_rfl) (by simp only[jj_eq,ref01_tail_l2_eq m];rfl)
theorem ref01_tail_j0_eq m x0 x1 x2:e71 jn m [1,1] [] (s71_0 x0 x1 x2)=ref01_tail_j0 m x0 x1 x2:=
 tre (g:=fun J=>(jj J 0 4 0 (s71_5 x0 x1 x2 0) (e71 J m [1,1,0,1] []))) (fun J=>by kernel_rfl) (by simp only[jj_eq,ref01_tail_j1_eq m];rfl)
theorem ref01_tail_eq m a0 a1 a2:e71 jn m [] [] ⟨[(.dat 9 (.str a0)),(.dat 3 (.int a1)),(.dat 3 (.int a2))],[],0⟩=ref01_tail (m+1) a0 a1 a2:=
 tre (g:=fun J=>(bif (decide ((ByteArray.size a0:Int)<(IntKind.wrap .i64 (a1+a2)))) then
  some false
   else
  (jj J 0 3 0 (s71_0 a0 a1 a2) (e71 J m [1,1] [])))) (fun J=>by kernel_rfl) (by simp only[jj_eq,ref01_tail_j0_eq m];rfl)
def w62_7:List Nat:=[1,0,1,0,0,1]
def w62_3:List Nat:=w62_7++[0,1,1,1]
def w62_2:List Nat:=w62_3++[1]
def w62_0:List Nat:=w62_2++[1]
def w62_1:List Nat:=w62_2++[0,1]
def w62_6:List Nat:=w62_7++[0,1,1,0,0,1,1,1]
def w62_5:List Nat:=w62_6++[1,1]
def w62_4:List Nat:=w62_5++[1,1]
noncomputable def e62 (J:Nat→Nat→Nat→St→Option Bool→Option Bool) (m:Nat) (p ms:List Nat) (σ:St):=evAt Tryz.prog env (ct m) J (m+1) 114 89 Tryz.f114 d5 p ms σ
noncomputable def l62 (J:Nat→Nat→Nat→St→Option Bool→Option Bool) (m:Nat) (p ms:List Nat) (M:Nat) (σ:St):=loopAt Tryz.prog env (ct m) J (m+1) 114 89 Tryz.f114 d5 p ms M σ
noncomputable def s62_6 (x0:ByteArray) (x1 x2:Int):St:=⟨tsOf [(0,(.dat 9 (.str x0))),(3,(.dat 3 (.int x1))),(5,(.dat 3 (.int x2)))],[],0⟩
noncomputable def s62_5 (x0:ByteArray) (x1 x2:Int) (x3:Bool):St:=⟨tsOf [(0,(.dat 9 (.str x0))),(3,(.dat 3 (.int x1))),(5,(.dat 3 (.int x2))),(84,(.dat 4 (.bool x3)))],[],0⟩
noncomputable def s62_4 (x0:ByteArray) (x1 x2 x3:Int):St:=⟨tsOf [(0,(.dat 9 (.str x0))),(3,(.dat 3 (.int x1))),(4,(.dat 5 (.int x2))),(5,(.dat 3 (.int x3)))],[],0⟩
noncomputable def s62_9 (x0:ByteArray) (x1 x2:Int) (x3:Bool):St:=⟨tsOf [(0,(.dat 9 (.str x0))),(3,(.dat 3 (.int x1))),(4,(.dat 5 (.int x2))),(30,(.dat 4 (.bool x3)))],[],0⟩
noncomputable def s62_8 (x0:ByteArray) (x1 x2:Int) (x3:Bool):St:=⟨tsOf [(0,(.dat 9 (.str x0))),(3,(.dat 3 (.int x1))),(4,(.dat 5 (.int x2))),(23,(.dat 4 (.bool x3)))],[],0⟩
noncomputable def s62_7 (x0:ByteArray) (x1 x2:Int) (x3:Bool):St:=⟨tsOf [(0,(.dat 9 (.str x0))),(3,(.dat 3 (.int x1))),(4,(.dat 5 (.int x2))),(16,(.dat 4 (.bool x3)))],[],0⟩
noncomputable def s62_2 (x0:ByteArray) (x1:Int):St:=⟨tsOf [(0,(.dat 9 (.str x0))),(3,(.dat 3 (.int x1)))],[],0⟩
noncomputable def s62_10:St:=⟨tsOf [],[],0⟩
abbrev H62_1 (m M1:Nat) (rec1:ByteArray→Int→Option Bool):Prop:=∀x0 x1,l62 jn m [1,0,1,0] [] M1 (s62_2 x0 x1)=rec1 x0 x1
theorem ref01_UTF8_j6_eq m M1 rec1 (h1:H62_1 m M1 rec1) x0 x1 x2:e62 jn m w62_0 [M1] (s62_6 x0 x1 x2)=ref01_UTF8_j6 m rec1 x0 x1 x2:=
 tre (g:=fun J=>(jj J 1 2 M1 (s62_2 x0 (IntKind.wrap .i64 ((IntKind.wrap .i64 (x1+x2))+1))) (l62 J m [1,0,1,0] [] M1))) (fun J=>by kernel_rfl) (by simp only[jj_eq,h1];rfl)
theorem ref01_UTF8_j5_eq m M1 rec1 (h1:H62_1 m M1 rec1) x0 x1 x2 x3:e62 jn m w62_1 [M1] (s62_5 x0 x1 x2 x3)=ref01_UTF8_j5 m rec1 x0 x1 x2 x3:=
 tre (g:=fun J=>(bif x3 then
  some false
   else
  (jj J 0 17 0 (s62_6 x0 x1 x2) (e62 J m w62_0 [M1])))) (fun J=>by kernel_rfl) (by simp only[jj_eq,ref01_UTF8_j6_eq m M1 rec1 h1];rfl)
theorem ref01_UTF8_j4_eq m M1 rec1 (h1:H62_1 m M1 rec1) x0 x1 x2 x3:e62 jn m w62_2 [M1] (s62_4 x0 x1 x2 x3)=ref01_UTF8_j4 m rec1 x0 x1 x2 x3:=
 tre (g:=fun J=>(bif (x2==224) then
  ((idxS x0 (IntKind.wrap .i64 (x1+1))).bind fun v2=>
  (bif (decide (v2<160)) then
  (jj J 0 16 0 (s62_5 x0 x1 x3 true) (e62 J m w62_1 [M1]))
  else
  (bif (x2==237) then
  ((idxS x0 (IntKind.wrap .i64 (x1+1))).bind fun v3=>
  (bif (decide (159<v3)) then
  (jj J 0 16 0 (s62_5 x0 x1 x3 true) (e62 J m w62_1 [M1]))
  else
  (bif (x2==240) then
  ((idxS x0 (IntKind.wrap .i64 (x1+1))).bind fun v4=>
  (bif (decide (v4<144)) then
  (jj J 0 16 0 (s62_5 x0 x1 x3 true) (e62 J m w62_1 [M1]))
  else
  (bif (x2==244) then
  ((idxS x0 (IntKind.wrap .i64 (x1+1))).bind fun v5=>
  (jj J 0 16 0 (s62_5 x0 x1 x3 (decide (143<v5))) (e62 J m w62_1 [M1])))
  else
  (jj J 0 16 0 (s62_5 x0 x1 x3 false) (e62 J m w62_1 [M1])))))
  else
  (bif (x2==244) then
  ((idxS x0 (IntKind.wrap .i64 (x1+1))).bind fun v6=>
  (jj J 0 16 0 (s62_5 x0 x1 x3 (decide (143<v6))) (e62 J m w62_1 [M1])))
  else
  (jj J 0 16 0 (s62_5 x0 x1 x3 false) (e62 J m w62_1 [M1]))))))
  else
  (bif (x2==240) then
  ((idxS x0 (IntKind.wrap .i64 (x1+1))).bind fun v7=>
  (bif (decide (v7<144)) then
  (jj J 0 16 0 (s62_5 x0 x1 x3 true) (e62 J m w62_1 [M1]))
  else
  (bif (x2==244) then
  ((idxS x0 (IntKind.wrap .i64 (x1+1))).bind fun v8=>
  (jj J 0 16 0 (s62_5 x0 x1 x3 (decide (143<v8))) (e62 J m w62_1 [M1])))
  else
  (jj J 0 16 0 (s62_5 x0 x1 x3 false) (e62 J m w62_1 [M1])))))
  else
  (bif (x2==244) then
  ((idxS x0 (IntKind.wrap .i64 (x1+1))).bind fun v9=>
  (jj J 0 16 0 (s62_5 x0 x1 x3 (decide (143<v9))) (e62 J m w62_1 [M1])))
  else
  (jj J 0 16 0 (s62_5 x0 x1 x3 false) (e62 J m w62_1 [M1])))))))
   else
  (bif (x2==237) then
  ((idxS x0 (IntKind.wrap .i64 (x1+1))).bind fun v10=>
  (bif (decide (159<v10)) then
  (jj J 0 16 0 (s62_5 x0 x1 x3 true) (e62 J m w62_1 [M1]))
  else
  (bif (x2==240) then
  ((idxS x0 (IntKind.wrap .i64 (x1+1))).bind fun v11=>
  (bif (decide (v11<144)) then
  (jj J 0 16 0 (s62_5 x0 x1 x3 true) (e62 J m w62_1 [M1]))
  else
  (bif (x2==244) then
  ((idxS x0 (IntKind.wrap .i64 (x1+1))).bind fun v12=>
  (jj J 0 16 0 (s62_5 x0 x1 x3 (decide (143<v12))) (e62 J m w62_1 [M1])))
  else
  (jj J 0 16 0 (s62_5 x0 x1 x3 false) (e62 J m w62_1 [M1])))))
  else
  (bif (x2==244) then
  ((idxS x0 (IntKind.wrap .i64 (x1+1))).bind fun v13=>
  (jj J 0 16 0 (s62_5 x0 x1 x3 (decide (143<v13))) (e62 J m w62_1 [M1])))
  else
  (jj J 0 16 0 (s62_5 x0 x1 x3 false) (e62 J m w62_1 [M1]))))))
  else
  (bif (x2==240) then
  ((idxS x0 (IntKind.wrap .i64 (x1+1))).bind fun v14=>
  (bif (decide (v14<144)) then
  (jj J 0 16 0 (s62_5 x0 x1 x3 true) (e62 J m w62_1 [M1]))
  else
  (bif (x2==244) then
  ((idxS x0 (IntKind.wrap .i64 (x1+1))).bind fun v15=>
  (jj J 0 16 0 (s62_5 x0 x1 x3 (decide (143<v15))) (e62 J m w62_1 [M1])))
  else
  (jj J 0 16 0 (s62_5 x0 x1 x3 false) (e62 J m w62_1 [M1])))))
  else
  (bif (x2==244) then
  ((idxS x0 (IntKind.wrap .i64 (x1+1))).bind fun v16=>
  (jj J 0 16 0 (s62_5 x0 x1 x3 (decide (143<v16))) (e62 J m w62_1 [M1])))
  else
  (jj J 0 16 0 (s62_5 x0 x1 x3 false) (e62 J m w62_1 [M1]))))))) (fun J=>by kernel_rfl) (by simp only[jj_eq,ref01_UTF8_j5_eq m M1 rec1 h1];rfl)
theorem ref01_UTF8_j3_eq m M1 rec1 (h1:H62_1 m M1 rec1) x0 x1 x2 x3:e62 jn m w62_3 [M1] (s62_4 x0 x1 x2 x3)=ref01_UTF8_j3 m rec1 x0 x1 x2 x3:=
 tre (g:=fun J=>((ref01_tail m x0 (IntKind.wrap .i64 (x1+1)) x3).bind fun r1=>
  (bif (Bool.not r1) then
  some false
  else
  (jj J 0 15 0 (s62_4 x0 x1 x2 x3) (e62 J m w62_2 [M1]))))) (fun J=>by kernel_rfl) (by simp only[jj_eq,ref01_UTF8_j4_eq m M1 rec1 h1];rfl)
theorem ref01_UTF8_j9_eq m M1 rec1 (h1:H62_1 m M1 rec1) x0 x1 x2 x3:e62 jn m w62_4 [M1] (s62_9 x0 x1 x2 x3)=ref01_UTF8_j9 m rec1 x0 x1 x2 x3:=
 tre (g:=fun J=>(bif x3 then
  (jj J 0 13 0 (s62_4 x0 x1 x2 3) (e62 J m w62_3 [M1]))
   else
  some false)) (fun J=>by kernel_rfl) (by simp only[jj_eq,ref01_UTF8_j3_eq m M1 rec1 h1];rfl)
theorem ref01_UTF8_j8_eq m M1 rec1 (h1:H62_1 m M1 rec1) x0 x1 x2 x3:e62 jn m w62_5 [M1] (s62_8 x0 x1 x2 x3)=ref01_UTF8_j8 m rec1 x0 x1 x2 x3:=
 tre (g:=fun J=>(bif x3 then
  (jj J 0 13 0 (s62_4 x0 x1 x2 2) (e62 J m w62_3 [M1]))
   else
  (bif (decide (240≤x2)) then
  (jj J 0 12 0 (s62_9 x0 x1 x2 (decide (x2≤244))) (e62 J m w62_4 [M1]))
  else
  (jj J 0 12 0 (s62_9 x0 x1 x2 false) (e62 J m w62_4 [M1]))))) (fun J=>by kernel_rfl) (by simp only[jj_eq,ref01_UTF8_j3_eq m M1 rec1 h1,ref01_UTF8_j9_eq m M1 rec1 h1];rfl)
theorem ref01_UTF8_j7_eq m M1 rec1 (h1:H62_1 m M1 rec1) x0 x1 x2 x3:e62 jn m w62_6 [M1] (s62_7 x0 x1 x2 x3)=ref01_UTF8_j7 m rec1 x0 x1 x2 x3:=
 tre (g:=fun J=>(bif x3 then
  (jj J 0 13 0 (s62_4 x0 x1 x2 1) (e62 J m w62_3 [M1]))
   else
  (bif (decide (224≤x2)) then
  (jj J 0 10 0 (s62_8 x0 x1 x2 (decide (x2≤239))) (e62 J m w62_5 [M1]))
  else
  (jj J 0 10 0 (s62_8 x0 x1 x2 false) (e62 J m w62_5 [M1]))))) (fun J=>by kernel_rfl) (by simp only[jj_eq,ref01_UTF8_j3_eq m M1 rec1 h1,ref01_UTF8_j8_eq m M1 rec1 h1];rfl)
theorem ref01_UTF8_j2_eq m M1 rec1 (h1:H62_1 m M1 rec1) x0 x1:e62 jn m w62_7 [M1] (s62_2 x0 x1)=ref01_UTF8_j2 m rec1 x0 x1:=
 tre (g:=fun J=>((idxS x0 x1).bind fun v0=>
  (bif (decide (v0<128)) then
  (jj J 0 13 0 (s62_4 x0 x1 v0 0) (e62 J m w62_3 [M1]))
  else
  (bif (decide (194≤v0)) then
  (jj J 0 8 0 (s62_7 x0 x1 v0 (decide (v0≤223))) (e62 J m w62_6 [M1]))
  else
  (jj J 0 8 0 (s62_7 x0 x1 v0 false) (e62 J m w62_6 [M1])))))) (fun J=>by kernel_rfl) (by simp only[jj_eq,ref01_UTF8_j3_eq m M1 rec1 h1,ref01_UTF8_j7_eq m M1 rec1 h1];rfl)
theorem ref01_UTF8_j10_eq m:e62 jn m [1,1] [] s62_10=ref01_UTF8_j10 m:=
 tre (g:=fun J=>some true) (fun J=>by kernel_rfl) (by rfl)
theorem ref01_UTF8_l1_eq m:∀M1 x0 x1,l62 jn m [1,0,1,0] [] M1 (s62_2 x0 x1)=ref01_UTF8_l1 m M1 x0 x1
 |0,_,_=>rfl
 | M1+1,x0,x1=>
   trl (g:=fun J=>(bif (decide (x1<(ByteArray.size x0:Int))) then
  (jj J 0 3 0 (s62_2 x0 x1) (e62 J m w62_7 [M1]))
   else
  (jj J 0 18 0 s62_10 (e62 J m [1,1] [])))) (fun J=>by kernel_rfl) (by simp only[jj_eq,ref01_UTF8_j2_eq m M1 (ref01_UTF8_l1 m M1) (ref01_UTF8_l1_eq m M1),ref01_UTF8_j10_eq m];rfl)
theorem ref01_UTF8_j0_eq m x0 x1:e62 jn m [1,0,1] [] (s62_2 x0 x1)=ref01_UTF8_j0 m x0 x1:=
 tre (g:=fun J=>(jj J 1 2 (Nat.succ m) (s62_2 x0 x1) (l62 J m [1,0,1,0] [] (Nat.succ m)))) (fun J=>by kernel_rfl) (by simp only[jj_eq,ref01_UTF8_l1_eq m];rfl)
theorem ref01_UTF8_eq m a0:e62 jn m [] [] ⟨[(.dat 9 (.str a0))],[],0⟩=ref01_UTF8 (m+1) a0:=
 tre (g:=fun J=>(jj J 0 2 0 (s62_2 a0 0) (e62 J m [1,0,1] []))) (fun J=>by kernel_rfl) (by simp only[jj_eq,ref01_UTF8_j0_eq m];rfl)
def w72_0:List Nat:=[1,1,0,1,0]
def w72_3:List Nat:=[1,1,0,1,0,0,1]
def w72_1:List Nat:=w72_3++[1]
def w72_2:List Nat:=w72_3++[0,0,1]
noncomputable def e72 (J:Nat→Nat→Nat→St→Option Bool→Option Bool) (m:Nat) (p ms:List Nat) (σ:St):=evAt Tryz.prog env (ct m) J (m+1) 162 28 Tryz.f162 d5 p ms σ
noncomputable def l72 (J:Nat→Nat→Nat→St→Option Bool→Option Bool) (m:Nat) (p ms:List Nat) (M:Nat) (σ:St):=loopAt Tryz.prog env (ct m) J (m+1) 162 28 Tryz.f162 d5 p ms M σ
noncomputable def s72_6 (x0:ByteArray) (x1:Int):St:=⟨tsOf [(0,(.dat 9 (.str x0))),(3,(.dat 3 (.int x1)))],[],0⟩
noncomputable def s72_5 (x0:ByteArray) (x1:Int) (x2:Bool):St:=⟨tsOf [(0,(.dat 9 (.str x0))),(3,(.dat 3 (.int x1))),(27,(.dat 4 (.bool x2)))],[],0⟩
noncomputable def s72_7:St:=⟨tsOf [],[],0⟩
noncomputable def s72_1 (x0:ByteArray):St:=⟨tsOf [(0,(.dat 9 (.str x0)))],[],0⟩
noncomputable def s72_0 (x0:ByteArray) (x1:Bool):St:=⟨tsOf [(0,(.dat 9 (.str x0))),(11,(.dat 4 (.bool x1)))],[],0⟩
abbrev H72_3 (m M3:Nat) (rec3:ByteArray→Int→Option Bool):Prop:=∀x0 x1,l72 jn m w72_0 [] M3 (s72_6 x0 x1)=rec3 x0 x1
theorem ref01_wide_j6_eq m M3 rec3 (h3:H72_3 m M3 rec3) x0 x1:e72 jn m w72_1 [M3] (s72_6 x0 x1)=ref01_wide_j6 m rec3 x0 x1:=
 tre (g:=fun J=>(jj J 1 4 M3 (s72_6 x0 (IntKind.wrap .i64 (x1+1))) (l72 J m w72_0 [] M3))) (fun J=>by kernel_rfl) (by simp only[jj_eq,h3];rfl)
theorem ref01_wide_j5_eq m M3 rec3 (h3:H72_3 m M3 rec3) x0 x1 x2:e72 jn m w72_2 [M3] (s72_5 x0 x1 x2)=ref01_wide_j5 m rec3 x0 x1 x2:=
 tre (g:=fun J=>(bif x2 then
  some false
   else
  (jj J 0 5 0 (s72_6 x0 x1) (e72 J m w72_1 [M3])))) (fun J=>by kernel_rfl) (by simp only[jj_eq,ref01_wide_j6_eq m M3 rec3 h3];rfl)
theorem ref01_wide_j4_eq m M3 rec3 (h3:H72_3 m M3 rec3) x0 x1:e72 jn m w72_3 [M3] (s72_6 x0 x1)=ref01_wide_j4 m rec3 x0 x1:=
 tre (g:=fun J=>((idxS x0 x1).bind fun v0=>
  (bif (decide (v0<32)) then
  (jj J 0 7 0 (s72_5 x0 x1 true) (e72 J m w72_2 [M3]))
  else
  ((idxS x0 x1).bind fun v1=>
  (jj J 0 7 0 (s72_5 x0 x1 (decide (126<v1))) (e72 J m w72_2 [M3])))))) (fun J=>by kernel_rfl) (by simp only[jj_eq,ref01_wide_j5_eq m M3 rec3 h3];rfl)
theorem ref01_wide_j7_eq m:e72 jn m [1,1,1] [] s72_7=ref01_wide_j7 m:=
 tre (g:=fun J=>some true) (fun J=>by kernel_rfl) (by rfl)
theorem ref01_wide_l3_eq m:∀M3 x0 x1,l72 jn m w72_0 [] M3 (s72_6 x0 x1)=ref01_wide_l3 m M3 x0 x1
 |0,_,_=>rfl
 | M3+1,x0,x1=>
   trl (g:=fun J=>(bif (decide (x1<(ByteArray.size x0:Int))) then
  (jj J 0 6 0 (s72_6 x0 x1) (e72 J m w72_3 [M3]))
   else
  (jj J 0 8 0 s72_7 (e72 J m [1,1,1] [])))) (fun J=>by kernel_rfl) (by simp only[jj_eq,ref01_wide_j4_eq m M3 (ref01_wide_l3 m M3) (ref01_wide_l3_eq m M3),ref01_wide_j7_eq m];rfl)
theorem ref01_wide_j2_eq m x0 x1:e72 jn m [1,1,0,1] [] (s72_6 x0 x1)=ref01_wide_j2 m x0 x1:=
 tre (g:=fun J=>(jj J 1 4 (Nat.succ m) (s72_6 x0 x1) (l72 J m w72_0 [] (Nat.succ m)))) (fun J=>by kernel_rfl) (by simp only[jj_eq,ref01_wide_l3_eq m];rfl)
theorem ref01_wide_j1_eq m x0:e72 jn m [1,1] [] (s72_1 x0)=ref01_wide_j1 m x0:=
 tre (g:=fun J=>(jj J 0 4 0 (s72_6 x0 0) (e72 J m [1,1,0,1] []))) (fun J=>by kernel_rfl) (by simp only[jj_eq,ref01_wide_j2_eq m];rfl)
theorem ref01_wide_j0_eq m x0 x1:e72 jn m [1,0,1] [] (s72_0 x0 x1)=ref01_wide_j0 m x0 x1:=
 tre (g:=fun J=>(bif x1 then
  some false
   else
  (jj J 0 3 0 (s72_1 x0) (e72 J m [1,1] [])))) (fun J=>by kernel_rfl) (by simp only[jj_eq,ref01_wide_j1_eq m];rfl)
theorem ref01_wide_eq m a0:e72 jn m [] [] ⟨[(.dat 9 (.str a0))],[],0⟩=ref01_wide (m+1) a0:=
 tre (g:=fun J=>(bif (decide ((ByteArray.size a0:Int)<1)) then
  (jj J 0 2 0 (s72_0 a0 true) (e72 J m [1,0,1] []))
   else
  (jj J 0 2 0 (s72_0 a0 (decide (128<(ByteArray.size a0:Int)))) (e72 J m [1,0,1] [])))) (fun J=>by kernel_rfl) (by simp only[jj_eq,ref01_wide_j0_eq m];rfl)
def w46_6:List Nat:=[1,1,1,1,1]
def w46_5:List Nat:=[1,1,1,1,1,1]
def w46_7:List Nat:=[1,1,1,1,0,1]
def w46_3:List Nat:=w46_5++[1]
def w46_4:List Nat:=w46_5++[0,1]
def w46_0:List Nat:=w46_4++[0]
def w46_2:List Nat:=w46_0++[0,1]
def w46_1:List Nat:=w46_2++[1]
noncomputable def e46 (J:Nat→Nat→Nat→St→Option Bool→Option Bool) (m:Nat) (p ms:List Nat) (σ:St):=evAt Tryz.prog env (ct m) J (m+1) 70 138 Tryz.f70 d5 p ms σ
noncomputable def l46 (J:Nat→Nat→Nat→St→Option Bool→Option Bool) (m:Nat) (p ms:List Nat) (M:Nat) (σ:St):=loopAt Tryz.prog env (ct m) J (m+1) 70 138 Tryz.f70 d5 p ms M σ
noncomputable def s46_10 (x0:Bool) (x1:Int) (x2:Dt):St:=⟨tsOf [(1,(.dat 4 (.bool x0))),(2,(.ptr 0 [] 0)),(7,(.dat 3 (.int x1)))],[(.box 33 (.dat 33 x2))],0⟩
noncomputable def s46_11 (x0:Bool) (x1:Dt):St:=⟨tsOf [(1,(.dat 4 (.bool x0))),(2,(.ptr 0 [] 0))],[(.box 33 (.dat 33 x1))],0⟩
noncomputable def s46_4 (x0 x1:Bool) (x2:Dt):St:=⟨tsOf [(1,(.dat 4 (.bool x0))),(2,(.ptr 0 [] 0)),(79,(.dat 4 (.bool x1)))],[(.box 33 (.dat 33 x2))],0⟩
noncomputable def s46_3 (x0 x1 x2:Bool) (x3:Dt):St:=⟨tsOf [(1,(.dat 4 (.bool x0))),(2,(.ptr 0 [] 0)),(5,(.dat 4 (.bool x1))),(6,(.dat 4 (.bool x2)))],[(.box 33 (.dat 33 x3))],0⟩
noncomputable def s46_2 (x0 x1:Bool) (x2:Dt):St:=⟨tsOf [(1,(.dat 4 (.bool x0))),(2,(.ptr 0 [] 0)),(5,(.dat 4 (.bool x1)))],[(.box 33 (.dat 33 x2))],0⟩
noncomputable def s46_0 (x0 x1:Bool) (x2:Dt):St:=⟨tsOf [(1,(.dat 4 (.bool x0))),(2,(.ptr 0 [] 0)),(27,(.dat 4 (.bool x1)))],[(.box 33 (.dat 33 x2))],0⟩
abbrev H46_8 (m M8:Nat) (rec8:Bool→Int→Dt→Option Bool):Prop:=∀x0 x1 x2,l46 jn m w46_0 [] M8 (s46_10 x0 x1 x2)=rec8 x0 x1 x2
theorem ref01_formed_j10_eq m M8 rec8 (h8:H46_8 m M8 rec8) x0 x1 x2:e46 jn m w46_1 [M8] (s46_10 x0 x1 x2)=ref01_formed_j10 m (ref01_formed m) (ref01_fields m) rec8 x0 x1 x2:=
 tre (g:=fun J=>(jj J 1 19 M8 (s46_10 x0 (IntKind.wrap .i64 (x1+1)) x2) (l46 J m w46_0 [] M8))) (fun J=>by kernel_rfl) (by simp only[jj_eq,h8];rfl)
theorem ref01_formed_j9_eq m M8 rec8 (h8:H46_8 m M8 rec8) x0 x1 x2:e46 jn m w46_2 [M8] (s46_10 x0 x1 x2)=ref01_formed_j9 m (ref01_formed m) (ref01_fields m) rec8 x0 x1 x2:=
 tre (g:=fun J=>((idx (Dt.L x2 3) x1).bind fun v1=>
  ((ref01_formed m v1 x0).bind fun r2=>
  (bif (Bool.not r2) then
  some false
  else
  (jj J 0 20 0 (s46_10 x0 x1 x2) (e46 J m w46_1 [M8])))))) (fun J=>by kernel_rfl) (by simp only[jj_eq,ref01_formed_j10_eq m M8 rec8 h8];rfl)
theorem ref01_formed_j11_eq m x0 x1:e46 jn m w46_3 [] (s46_11 x0 x1)=ref01_formed_j11 m (ref01_formed m) (ref01_fields m) x0 x1:=
 tre (g:=fun J=>((ref01_fields m x1 x0).bind fun r3=>
  some r3)) (fun J=>by kernel_rfl) (by rfl)
theorem ref01_formed_l8_eq m:∀M8 x0 x1 x2,l46 jn m w46_0 [] M8 (s46_10 x0 x1 x2)=ref01_formed_l8 m (ref01_formed m) (ref01_fields m) M8 x0 x1 x2
 |0,_,_,_=>rfl
 | M8+1,x0,x1,x2=>
   trl (g:=fun J=>(bif (decide (x1<(List.length (Dt.L x2 3):Int))) then
  (jj J 0 21 0 (s46_10 x0 x1 x2) (e46 J m w46_2 [M8]))
   else
  (jj J 0 23 0 (s46_11 x0 x2) (e46 J m w46_3 [])))) (fun J=>by kernel_rfl) (by simp only[jj_eq,ref01_formed_j9_eq m M8 (ref01_formed_l8 m (ref01_formed m) (ref01_fields m) M8) (ref01_formed_l8_eq m M8),ref01_formed_j11_eq m];rfl)
theorem ref01_formed_j7_eq m x0 x1 x2:e46 jn m w46_4 [] (s46_10 x0 x1 x2)=ref01_formed_j7 m (ref01_formed m) (ref01_fields m) x0 x1 x2:=
 tre (g:=fun J=>(jj J 1 19 (Nat.succ m) (s46_10 x0 x1 x2) (l46 J m w46_0 [] (Nat.succ m)))) (fun J=>by kernel_rfl) (by simp only[jj_eq,ref01_formed_l8_eq m];rfl)
theorem ref01_formed_j6_eq m x0 x1:e46 jn m w46_5 [] (s46_11 x0 x1)=ref01_formed_j6 m (ref01_formed m) (ref01_fields m) x0 x1:=
 tre (g:=fun J=>(jj J 0 19 0 (s46_10 x0 0 x1) (e46 J m w46_4 []))) (fun J=>by kernel_rfl) (by simp only[jj_eq,ref01_formed_j7_eq m];rfl)
theorem ref01_formed_j5_eq m x0 x1:e46 jn m w46_6 [] (s46_11 x0 x1)=ref01_formed_j5 m (ref01_formed m) (ref01_fields m) x0 x1:=
 tre (g:=fun J=>(bif ((Dt.I x1 0)==9) then
  (bif ((Dt.I x1 1)==0) then
  some true
  else
  some ((Dt.I x1 1)==1))
   else
  (bif ((Dt.I x1 0)==10) then
  some (decide (0≤(Dt.I x1 1)))
  else
  (bif ((Dt.I x1 0)==4) then
  (bif (decide ((ByteArray.size (Dt.S x1 2):Int)≤4096)) then
  ((ref01_UTF8 m (Dt.S x1 2)).bind fun r0=>
  some r0)
  else
  some false)
  else
  (bif ((Dt.I x1 0)==7) then
  some (decide ((ByteArray.size (Dt.S x1 2):Int)≤4096))
  else
  (bif ((Dt.I x1 0)==8) then
  some ((ByteArray.size (Dt.S x1 2):Int)==12)
  else
  (jj J 0 18 0 (s46_11 x0 x1) (e46 J m w46_5 [])))))))) (fun J=>by kernel_rfl) (by simp only[jj_eq,ref01_formed_j6_eq m];rfl)
theorem ref01_formed_j4_eq m x0 x1 x2:e46 jn m w46_7 [] (s46_4 x0 x1 x2)=ref01_formed_j4 m (ref01_formed m) (ref01_fields m) x0 x1 x2:=
 tre (g:=fun J=>(bif x1 then
  some false
   else
  (jj J 0 7 0 (s46_11 x0 x2) (e46 J m w46_6 [])))) (fun J=>by kernel_rfl) (by simp only[jj_eq,ref01_formed_j5_eq m];rfl)
theorem ref01_formed_j3_eq m x0 x1 x2 x3:e46 jn m [1,1,1,1] [] (s46_3 x0 x1 x2 x3)=ref01_formed_j3 m (ref01_formed m) (ref01_fields m) x0 x1 x2 x3:=
 tre (g:=fun J=>(bif (Bool.not x1) then
  (bif (Bool.not ((ByteArray.toList (Dt.S x3 2))==[])) then
  (jj J 0 6 0 (s46_4 x0 true x3) (e46 J m w46_7 []))
  else
  (bif (Bool.not x2) then
  (bif ((Dt.I x3 1) !=0) then
  (jj J 0 6 0 (s46_4 x0 true x3) (e46 J m w46_7 []))
  else
  (bif (decide ((Dt.I x3 0)<1)) then
  (jj J 0 6 0 (s46_4 x0 true x3) (e46 J m w46_7 []))
  else
  (jj J 0 6 0 (s46_4 x0 (decide (11<(Dt.I x3 0))) x3) (e46 J m w46_7 []))))
  else
  (bif (decide ((Dt.I x3 0)<1)) then
  (jj J 0 6 0 (s46_4 x0 true x3) (e46 J m w46_7 []))
  else
  (jj J 0 6 0 (s46_4 x0 (decide (11<(Dt.I x3 0))) x3) (e46 J m w46_7 [])))))
   else
  (bif (Bool.not x2) then
  (bif ((Dt.I x3 1) !=0) then
  (jj J 0 6 0 (s46_4 x0 true x3) (e46 J m w46_7 []))
  else
  (bif (decide ((Dt.I x3 0)<1)) then
  (jj J 0 6 0 (s46_4 x0 true x3) (e46 J m w46_7 []))
  else
  (jj J 0 6 0 (s46_4 x0 (decide (11<(Dt.I x3 0))) x3) (e46 J m w46_7 []))))
  else
  (bif (decide ((Dt.I x3 0)<1)) then
  (jj J 0 6 0 (s46_4 x0 true x3) (e46 J m w46_7 []))
  else
  (jj J 0 6 0 (s46_4 x0 (decide (11<(Dt.I x3 0))) x3) (e46 J m w46_7 [])))))) (fun J=>by kernel_rfl) (by simp only[jj_eq,ref01_formed_j4_eq m];rfl)
theorem ref01_formed_j2_eq m x0 x1 x2:e46 jn m [1,1,1] [] (s46_2 x0 x1 x2)=ref01_formed_j2 m (ref01_formed m) (ref01_fields m) x0 x1 x2:=
 tre (g:=fun J=>(bif ((Dt.I x2 0)==3) then
  (jj J 0 5 0 (s46_3 x0 x1 true x2) (e46 J m [1,1,1,1] []))
   else
  (bif ((Dt.I x2 0)==9) then
  (jj J 0 5 0 (s46_3 x0 x1 true x2) (e46 J m [1,1,1,1] []))
  else
  (jj J 0 5 0 (s46_3 x0 x1 ((Dt.I x2 0)==10) x2) (e46 J m [1,1,1,1] []))))) (fun J=>by kernel_rfl) (by simp only[jj_eq,ref01_formed_j3_eq m];rfl)
theorem ref01_formed_j1_eq m x0 x1:e46 jn m [1,1] [] (s46_11 x0 x1)=ref01_formed_j1 m (ref01_formed m) (ref01_fields m) x0 x1:=
 tre (g:=fun J=>(bif ((Dt.I x1 0)==4) then
  (jj J 0 4 0 (s46_2 x0 true x1) (e46 J m [1,1,1] []))
   else
  (bif ((Dt.I x1 0)==7) then
  (jj J 0 4 0 (s46_2 x0 true x1) (e46 J m [1,1,1] []))
  else
  (jj J 0 4 0 (s46_2 x0 ((Dt.I x1 0)==8) x1) (e46 J m [1,1,1] []))))) (fun J=>by kernel_rfl) (by simp only[jj_eq,ref01_formed_j2_eq m];rfl)
theorem ref01_formed_j0_eq m x0 x1 x2:e46 jn m [1,0,1] [] (s46_0 x0 x1 x2)=ref01_formed_j0 m (ref01_formed m) (ref01_fields m) x0 x1 x2:=
 tre (g:=fun J=>(bif x1 then
  some false
   else
  (jj J 0 3 0 (s46_11 x0 x2) (e46 J m [1,1] [])))) (fun J=>by kernel_rfl) (by simp only[jj_eq,ref01_formed_j1_eq m];rfl)
theorem ref01_formed_eq m a0 a1:e46 jn m [] [] ⟨[(.dat 33 a0),(.dat 4 (.bool a1))],[],0⟩=ref01_formed (m+1) a0 a1:=
 tre (g:=fun J=>(bif ((Dt.I a0 0) !=6) then
  (bif (decide (0<(List.length (Dt.L a0 3):Int))) then
  (jj J 0 2 0 (s46_0 a1 true a0) (e46 J m [1,0,1] []))
  else
  (bif ((Dt.I a0 0) !=5) then
  (jj J 0 2 0 (s46_0 a1 (decide (0<(List.length (Dt.L a0 4):Int))) a0) (e46 J m [1,0,1] []))
  else
  (jj J 0 2 0 (s46_0 a1 false a0) (e46 J m [1,0,1] []))))
   else
  (bif ((Dt.I a0 0) !=5) then
  (jj J 0 2 0 (s46_0 a1 (decide (0<(List.length (Dt.L a0 4):Int))) a0) (e46 J m [1,0,1] []))
  else
  (jj J 0 2 0 (s46_0 a1 false a0) (e46 J m [1,0,1] []))))) (fun J=>by kernel_rfl) (by simp only[jj_eq,ref01_formed_j0_eq m];rfl)
def w63_7:List Nat:=[1,0,1,0,0,1]
def w63_3:List Nat:=w63_7++[1]
def w63_5:List Nat:=w63_7++[0,0,1,1]
def w63_4:List Nat:=w63_5++[1]
def w63_6:List Nat:=w63_7++[0,0,1,0,1]
def w63_0:List Nat:=w63_4++[0]
def w63_2:List Nat:=w63_0++[0,1]
def w63_1:List Nat:=w63_2++[1]
noncomputable def e63 (J:Nat→Nat→Nat→St→Option Bool→Option Bool) (m:Nat) (p ms:List Nat) (σ:St):=evAt Tryz.prog env (ct m) J (m+1) 115 58 Tryz.f115 d5 p ms σ
noncomputable def l63 (J:Nat→Nat→Nat→St→Option Bool→Option Bool) (m:Nat) (p ms:List Nat) (M:Nat) (σ:St):=loopAt Tryz.prog env (ct m) J (m+1) 115 58 Tryz.f115 d5 p ms M σ
noncomputable def s63_8 (x0:Bool) (x1 x2:Int) (x3 x4:Dt):St:=⟨tsOf [(1,(.dat 4 (.bool x0))),(2,(.ptr 0 [] 0)),(5,(.dat 3 (.int x1))),(6,(.ptr 1 [] 0)),(7,(.dat 3 (.int x2)))],[(.box 33 (.dat 33 x3)),(.box 57 (.dat 57 x4))],0⟩
noncomputable def s63_9 (x0:Bool) (x1:Int) (x2:Dt):St:=⟨tsOf [(1,(.dat 4 (.bool x0))),(2,(.ptr 0 [] 0)),(5,(.dat 3 (.int x1)))],[(.box 33 (.dat 33 x2))],0⟩
noncomputable def s63_4 (x0:Bool) (x1:Int) (x2 x3:Dt):St:=⟨tsOf [(1,(.dat 4 (.bool x0))),(2,(.ptr 0 [] 0)),(5,(.dat 3 (.int x1))),(6,(.ptr 1 [] 0))],[(.box 33 (.dat 33 x2)),(.box 57 (.dat 57 x3))],0⟩
noncomputable def s63_3 (x0:Bool) (x1:Int) (x2:Bool) (x3 x4:Dt):St:=⟨tsOf [(1,(.dat 4 (.bool x0))),(2,(.ptr 0 [] 0)),(5,(.dat 3 (.int x1))),(6,(.ptr 1 [] 0)),(43,(.dat 4 (.bool x2)))],[(.box 33 (.dat 33 x3)),(.box 57 (.dat 57 x4))],0⟩
noncomputable def s63_10:St:=⟨tsOf [],[],0⟩
abbrev H63_1 (m M1:Nat) (rec1:Bool→Int→Dt→Option Bool):Prop:=∀x0 x1 x2,l63 jn m [1,0,1,0] [] M1 (s63_9 x0 x1 x2)=rec1 x0 x1 x2
abbrev H63_6 (m M1 M6:Nat) (rec6:Bool→Int→Int→Dt→Dt→Option Bool):Prop:=∀x0 x1 x2 x3 x4,l63 jn m w63_0 [M1] M6 (s63_8 x0 x1 x2 x3 x4)=rec6 x0 x1 x2 x3 x4
theorem ref01_fields_j8_eq m M1 rec1 (h1:H63_1 m M1 rec1) M6 rec6 (h6:H63_6 m M1 M6 rec6) x0 x1 x2 x3 x4:e63 jn m w63_1 [M1,M6] (s63_8 x0 x1 x2 x3 x4)=ref01_fields_j8 m (ref01_formed m) rec1 rec6 x0 x1 x2 x3 x4:=
 tre (g:=fun J=>(jj J 1 8 M6 (s63_8 x0 x1 (IntKind.wrap .i64 (x2+1)) x3 x4) (l63 J m w63_0 [M1] M6))) (fun J=>by kernel_rfl) (by simp only[jj_eq,h6];rfl)
theorem ref01_fields_j7_eq m M1 rec1 (h1:H63_1 m M1 rec1) M6 rec6 (h6:H63_6 m M1 M6 rec6) x0 x1 x2 x3 x4:e63 jn m w63_2 [M1,M6] (s63_8 x0 x1 x2 x3 x4)=ref01_fields_j7 m (ref01_formed m) rec1 rec6 x0 x1 x2 x3 x4:=
 tre (g:=fun J=>((idx (Dt.L x3 4) x2).bind fun v2=>
  (bif ((ByteArray.toList (Dt.S v2 0))==(ByteArray.toList (Dt.S x4 0))) then
  some false
  else
  (jj J 0 9 0 (s63_8 x0 x1 x2 x3 x4) (e63 J m w63_1 [M1,M6]))))) (fun J=>by kernel_rfl) (by simp only[jj_eq,ref01_fields_j8_eq m M1 rec1 h1 M6 rec6 h6];rfl)
theorem ref01_fields_j9_eq m M1 rec1 (h1:H63_1 m M1 rec1) x0 x1 x2:e63 jn m w63_3 [M1] (s63_9 x0 x1 x2)=ref01_fields_j9 m (ref01_formed m) rec1 x0 x1 x2:=
 tre (g:=fun J=>(jj J 1 2 M1 (s63_9 x0 (IntKind.wrap .i64 (x1+1)) x2) (l63 J m [1,0,1,0] [] M1))) (fun J=>by kernel_rfl) (by simp only[jj_eq,h1];rfl)
theorem ref01_fields_l6_eq m M1 rec1 (h1:H63_1 m M1 rec1):∀M6 x0 x1 x2 x3 x4,l63 jn m w63_0 [M1] M6 (s63_8 x0 x1 x2 x3 x4)=ref01_fields_l6 m (ref01_formed m) rec1 M6 x0 x1 x2 x3 x4
 |0,_,_,_,_,_=>rfl
 | M6+1,x0,x1,x2,x3,x4=>
   trl (g:=fun J=>(bif (decide (x2<x1)) then
  (jj J 0 10 0 (s63_8 x0 x1 x2 x3 x4) (e63 J m w63_2 [M1,M6]))
   else
  (jj J 0 3 0 (s63_9 x0 x1 x3) (e63 J m w63_3 [M1])))) (fun J=>by kernel_rfl) (by simp only[jj_eq,ref01_fields_j7_eq m M1 rec1 h1 M6 (ref01_fields_l6 m (ref01_formed m) rec1 M6) (ref01_fields_l6_eq m M1 rec1 h1 M6),ref01_fields_j9_eq m M1 rec1 h1];rfl)
theorem ref01_fields_j5_eq m M1 rec1 (h1:H63_1 m M1 rec1) x0 x1 x2 x3 x4:e63 jn m w63_4 [M1] (s63_8 x0 x1 x2 x3 x4)=ref01_fields_j5 m (ref01_formed m) rec1 x0 x1 x2 x3 x4:=
 tre (g:=fun J=>(jj J 1 8 (Nat.succ m) (s63_8 x0 x1 x2 x3 x4) (l63 J m w63_0 [M1] (Nat.succ m)))) (fun J=>by kernel_rfl) (by simp only[jj_eq,ref01_fields_l6_eq m M1 rec1 h1];rfl)
theorem ref01_fields_j4_eq m M1 rec1 (h1:H63_1 m M1 rec1) x0 x1 x2 x3:e63 jn m w63_5 [M1] (s63_4 x0 x1 x2 x3)=ref01_fields_j4 m (ref01_formed m) rec1 x0 x1 x2 x3:=
 tre (g:=fun J=>(jj J 0 8 0 (s63_8 x0 x1 0 x2 x3) (e63 J m w63_4 [M1]))) (fun J=>by kernel_rfl) (by simp only[jj_eq,ref01_fields_j5_eq m M1 rec1 h1];rfl)
theorem ref01_fields_j3_eq m M1 rec1 (h1:H63_1 m M1 rec1) x0 x1 x2 x3 x4:e63 jn m w63_6 [M1] (s63_3 x0 x1 x2 x3 x4)=ref01_fields_j3 m (ref01_formed m) rec1 x0 x1 x2 x3 x4:=
 tre (g:=fun J=>(bif x2 then
  some false
   else
  (jj J 0 7 0 (s63_4 x0 x1 x3 x4) (e63 J m w63_5 [M1])))) (fun J=>by kernel_rfl) (by simp only[jj_eq,ref01_fields_j4_eq m M1 rec1 h1];rfl)
theorem ref01_fields_j2_eq m M1 rec1 (h1:H63_1 m M1 rec1) x0 x1 x2:e63 jn m w63_7 [M1] (s63_9 x0 x1 x2)=ref01_fields_j2 m (ref01_formed m) rec1 x0 x1 x2:=
 tre (g:=fun J=>((idx (Dt.L x2 4) x1).bind fun v0=>
  (bif x0 then
  ((ref01_Name m (Dt.S v0 0)).bind fun r1=>
  (bif (Bool.not r1) then
  (jj J 0 6 0 (s63_3 x0 x1 true x2 v0) (e63 J m w63_6 [M1]))
  else
  (bif (Bool.not x0) then
  ((ref01_wide m (Dt.S v0 0)).bind fun r3=>
  (bif (Bool.not r3) then
  (jj J 0 6 0 (s63_3 x0 x1 true x2 v0) (e63 J m w63_6 [M1]))
  else
  ((ref01_formed m (Dt.fld v0 1) x0).bind fun r4=>
  (jj J 0 6 0 (s63_3 x0 x1 (Bool.not r4) x2 v0) (e63 J m w63_6 [M1])))))
  else
  ((ref01_formed m (Dt.fld v0 1) x0).bind fun r5=>
  (jj J 0 6 0 (s63_3 x0 x1 (Bool.not r5) x2 v0) (e63 J m w63_6 [M1]))))))
  else
  (bif (Bool.not x0) then
  ((ref01_wide m (Dt.S v0 0)).bind fun r6=>
  (bif (Bool.not r6) then
  (jj J 0 6 0 (s63_3 x0 x1 true x2 v0) (e63 J m w63_6 [M1]))
  else
  ((ref01_formed m (Dt.fld v0 1) x0).bind fun r7=>
  (jj J 0 6 0 (s63_3 x0 x1 (Bool.not r7) x2 v0) (e63 J m w63_6 [M1])))))
  else
  ((ref01_formed m (Dt.fld v0 1) x0).bind fun r8=>
  (jj J 0 6 0 (s63_3 x0 x1 (Bool.not r8) x2 v0) (e63 J m w63_6 [M1]))))))) (fun J=>by kernel_rfl) (by simp only[jj_eq,ref01_fields_j3_eq m M1 rec1 h1];rfl)
theorem ref01_fields_j10_eq m:e63 jn m [1,1] [] s63_10=ref01_fields_j10 m (ref01_formed m):=
 tre (g:=fun J=>some true) (fun J=>by kernel_rfl) (by rfl)
theorem ref01_fields_l1_eq m:∀M1 x0 x1 x2,l63 jn m [1,0,1,0] [] M1 (s63_9 x0 x1 x2)=ref01_fields_l1 m (ref01_formed m) M1 x0 x1 x2
 |0,_,_,_=>rfl
 | M1+1,x0,x1,x2=>
   trl (g:=fun J=>(bif (decide (x1<(List.length (Dt.L x2 4):Int))) then
  (jj J 0 4 0 (s63_9 x0 x1 x2) (e63 J m w63_7 [M1]))
   else
  (jj J 0 12 0 s63_10 (e63 J m [1,1] [])))) (fun J=>by kernel_rfl) (by simp only[jj_eq,ref01_fields_j2_eq m M1 (ref01_fields_l1 m (ref01_formed m) M1) (ref01_fields_l1_eq m M1),ref01_fields_j10_eq m];rfl)
theorem ref01_fields_j0_eq m x0 x1 x2:e63 jn m [1,0,1] [] (s63_9 x0 x1 x2)=ref01_fields_j0 m (ref01_formed m) x0 x1 x2:=
 tre (g:=fun J=>(jj J 1 2 (Nat.succ m) (s63_9 x0 x1 x2) (l63 J m [1,0,1,0] [] (Nat.succ m)))) (fun J=>by kernel_rfl) (by simp only[jj_eq,ref01_fields_l1_eq m];rfl)
theorem ref01_fields_eq m a0 a1:e63 jn m [] [] ⟨[(.dat 33 a0),(.dat 4 (.bool a1))],[],0⟩=ref01_fields (m+1) a0 a1:=
 tre (g:=fun J=>(jj J 0 2 0 (s63_9 a1 0 a0) (e63 J m [1,0,1] []))) (fun J=>by kernel_rfl) (by simp only[jj_eq,ref01_fields_j0_eq m];rfl)
noncomputable def e29 (J:Nat→Nat→Nat→St→Option Bool→Option Bool) (m:Nat) (p ms:List Nat) (σ:St):=evAt Tryz.prog env (ct m) J (m+1) 24 15 Tryz.f24 d5 p ms σ
noncomputable def l29 (J:Nat→Nat→Nat→St→Option Bool→Option Bool) (m:Nat) (p ms:List Nat) (M:Nat) (σ:St):=loopAt Tryz.prog env (ct m) J (m+1) 24 15 Tryz.f24 d5 p ms M σ
theorem ref01_Valid_eq m a0:e29 jn m [] [] ⟨[(.dat 33 a0)],[],0⟩=ref01_Valid (m+1) a0:=
 tre (g:=fun J=>((ref01_Depth m a0).bind fun r0=>
  (bif (decide (r0≤16)) then
  ((ref01_Nodes m a0).bind fun r1=>
  (bif (decide (r1≤1024)) then
  ((ref01_formed m a0 true).bind fun r2=>
  some r2)
  else
  some false))
  else
  some false))) (fun J=>by kernel_rfl) (by rfl)
noncomputable def e10 (J:Nat→Nat→Nat→St→Option Bool→Option Bool) (m:Nat) (p ms:List Nat) (σ:St):=evAt Tryz.prog env (ct m) J (m+1) 41 11 Tryz.f41 d5 p ms σ
noncomputable def l10 (J:Nat→Nat→Nat→St→Option Bool→Option Bool) (m:Nat) (p ms:List Nat) (M:Nat) (σ:St):=loopAt Tryz.prog env (ct m) J (m+1) 41 11 Tryz.f41 d5 p ms M σ
theorem law36_valid_1_eq m a0:e10 jn m [] [] ⟨[(.dat 33 a0)],[],0⟩=law36_valid_1 (m+1) a0:=
 tre (g:=fun J=>(bif ((Dt.I a0 0) !=5) then
  some true
   else
  ((ref01_Valid m a0).bind fun r0=>
  some (Bool.not r0)))) (fun J=>by kernel_rfl) (by rfl)
def w9_1:List Nat:=[1,0,1,0,0,1,1]
def w9_0:List Nat:=w9_1++[1]
noncomputable def e9 (J:Nat→Nat→Nat→St→Option Int→Option Int) (m:Nat) (p ms:List Nat) (σ:St):=evAt Tryz.prog env (ct m) J (m+1) 67 19 Tryz.f67 d15 p ms σ
noncomputable def l9 (J:Nat→Nat→Nat→St→Option Int→Option Int) (m:Nat) (p ms:List Nat) (M:Nat) (σ:St):=loopAt Tryz.prog env (ct m) J (m+1) 67 19 Tryz.f67 d15 p ms M σ
noncomputable def s9_3 (x0:List Dt) (x1 x2:Int):St:=⟨tsOf [(0,(.dat 23 (.lst x0))),(1,(.fn 41 [])),(7,(.dat 3 (.int x1))),(8,(.dat 3 (.int x2)))],[],0⟩
noncomputable def s9_4:St:=⟨tsOf [],[],0⟩
abbrev H9_1 (m M1:Nat) (rec1:List Dt→Int→Int→Option Int):Prop:=∀x0 x1 x2,l9 jn m [1,0,1,0] [] M1 (s9_3 x0 x1 x2)=rec1 x0 x1 x2
theorem i9_j3_eq m M1 rec1 (h1:H9_1 m M1 rec1) x0 x1 x2:e9 jn m w9_0 [M1] (s9_3 x0 x1 x2)=i9_j3 m rec1 x0 x1 x2:=
 tre (g:=fun J=>(jj J 1 2 M1 (s9_3 x0 x1 (IntKind.wrap .i64 (x2+1))) (l9 J m [1,0,1,0] [] M1))) (fun J=>by kernel_rfl) (by simp only[jj_eq,h1];rfl)
theorem i9_j2_eq m M1 rec1 (h1:H9_1 m M1 rec1) x0 x1 x2:e9 jn m w9_1 [M1] (s9_3 x0 x1 x2)=i9_j2 m rec1 x0 x1 x2:=
 tre (g:=fun J=>((idx x0 x2).bind fun v0=>
  ((law36_valid_1 m v0).bind fun r1=>
  (bif r1 then
  some x2
  else
  (jj J 0 6 0 (s9_3 x0 x1 x2) (e9 J m w9_0 [M1])))))) (fun J=>by kernel_rfl) (by simp only[jj_eq,i9_j3_eq m M1 rec1 h1];rfl)
theorem i9_j4_eq m:e9 jn m [1,1] [] s9_4=i9_j4 m:=
 tre (g:=fun J=>some (-1)) (fun J=>by kernel_rfl) (by rfl)
theorem i9_l1_eq m:∀M1 x0 x1 x2,l9 jn m [1,0,1,0] [] M1 (s9_3 x0 x1 x2)=i9_l1 m M1 x0 x1 x2
 |0,_,_,_=>rfl
 | M1+1,x0,x1,x2=>
   trl (g:=fun J=>(bif (decide (x2<x1)) then
  (jj J 0 3 0 (s9_3 x0 x1 x2) (e9 J m w9_1 [M1]))
   else
  (jj J 0 7 0 s9_4 (e9 J m [1,1] [])))) (fun J=>by kernel_rfl) (by simp only[jj_eq,i9_j2_eq m M1 (i9_l1 m M1) (i9_l1_eq m M1),i9_j4_eq m];rfl)
theorem i9_j0_eq m x0 x1 x2:e9 jn m [1,0,1] [] (s9_3 x0 x1 x2)=i9_j0 m x0 x1 x2:=
 tre (g:=fun J=>(jj J 1 2 (Nat.succ m) (s9_3 x0 x1 x2) (l9 J m [1,0,1,0] [] (Nat.succ m)))) (fun J=>by kernel_rfl) (by simp only[jj_eq,i9_l1_eq m];rfl)
theorem i9_eq m a0:e9 jn m [] [] ⟨[(.dat 23 (.lst a0)),(.fn 41 [])],[],0⟩=i9 (m+1) a0:=
 tre (g:=fun J=>(jj J 0 2 0 (s9_3 a0 (List.length a0:Int) 0) (e9 J m [1,0,1] []))) (fun J=>by kernel_rfl) (by simp only[jj_eq,i9_j0_eq m];rfl)
noncomputable def e8 (J:Nat→Nat→Nat→St→Option Bool→Option Bool) (m:Nat) (p ms:List Nat) (σ:St):=evAt Tryz.prog env (ct m) J (m+1) 22 9 Tryz.f22 d5 p ms σ
noncomputable def l8 (J:Nat→Nat→Nat→St→Option Bool→Option Bool) (m:Nat) (p ms:List Nat) (M:Nat) (σ:St):=loopAt Tryz.prog env (ct m) J (m+1) 22 9 Tryz.f22 d5 p ms M σ
theorem i8_eq m a0:e8 jn m [] [] ⟨[(.dat 23 (.lst a0)),(.fn 41 [])],[],0⟩=i8 (m+1) a0:=
 tre (g:=fun J=>((i9 m a0).bind fun r0=>
  some (decide (0≤r0)))) (fun J=>by kernel_rfl) (by rfl)
noncomputable def e1 (J:Nat→Nat→Nat→St→Option Bool→Option Bool) (m:Nat) (p ms:List Nat) (σ:St):=evAt Tryz.prog env (ct m) J (m+1) 10 11 Tryz.f10 d5 p ms σ
noncomputable def l1 (J:Nat→Nat→Nat→St→Option Bool→Option Bool) (m:Nat) (p ms:List Nat) (M:Nat) (σ:St):=loopAt Tryz.prog env (ct m) J (m+1) 10 11 Tryz.f10 d5 p ms M σ
theorem law36_valid_eq m a0:e1 jn m [] [] ⟨[(.dat 23 (.lst a0))],[],0⟩=law36_valid (m+1) a0:=
 tre (g:=fun J=>(bif (decide ((List.length a0:Int)≤30)) then
  ((i8 m a0).bind fun r0=>
  some (Bool.not r0))
   else
  some false)) (fun J=>by kernel_rfl) (by rfl)
def w73_5:List Nat:=[1,1,1,0,1]
def w73_0:List Nat:=[1,1,1,0,1,0]
def w73_4:List Nat:=w73_0++[0,1]
def w73_1:List Nat:=w73_4++[1]
def w73_2:List Nat:=w73_4++[0,0,1]
def w73_3:List Nat:=w73_4++[0,0,0,1]
noncomputable def e73 (J:Nat→Nat→Nat→St→Option (Int×Bool)→Option (Int×Bool)) (m:Nat) (p ms:List Nat) (σ:St):=evAt Tryz.prog env (ct m) J (m+1) 97 49 Tryz.f97 d66 p ms σ
noncomputable def l73 (J:Nat→Nat→Nat→St→Option (Int×Bool)→Option (Int×Bool)) (m:Nat) (p ms:List Nat) (M:Nat) (σ:St):=loopAt Tryz.prog env (ct m) J (m+1) 97 49 Tryz.f97 d66 p ms M σ
noncomputable def s73_7 (x0:ByteArray) (x1 x2:Int):St:=⟨tsOf [(0,(.dat 9 (.str x0))),(4,(.dat 3 (.int x1))),(5,(.dat 3 (.int x2)))],[],0⟩
noncomputable def s73_5 (x0:ByteArray) (x1 x2:Int) (x3:Bool):St:=⟨tsOf [(0,(.dat 9 (.str x0))),(4,(.dat 3 (.int x1))),(5,(.dat 3 (.int x2))),(39,(.dat 4 (.bool x3)))],[],0⟩
noncomputable def s73_8 (x0:Int):St:=⟨tsOf [(4,(.dat 3 (.int x0)))],[],0⟩
noncomputable def s73_1 (x0:ByteArray):St:=⟨tsOf [(0,(.dat 9 (.str x0)))],[],0⟩
noncomputable def s73_0 (x0:ByteArray) (x1:Bool):St:=⟨tsOf [(0,(.dat 9 (.str x0))),(23,(.dat 4 (.bool x1)))],[],0⟩
abbrev H73_3 (m M3:Nat) (rec3:ByteArray→Int→Int→Option (Int×Bool)):Prop:=∀x0 x1 x2,l73 jn m w73_0 [] M3 (s73_7 x0 x1 x2)=rec3 x0 x1 x2
theorem ref04_Number_j7_eq m M3 rec3 (h3:H73_3 m M3 rec3) x0 x1 x2:e73 jn m w73_1 [M3] (s73_7 x0 x1 x2)=ref04_Number_j7 m rec3 x0 x1 x2:=
 tre (g:=fun J=>(jj J 1 5 M3 (s73_7 x0 x1 (IntKind.wrap .i64 (x2+1))) (l73 J m w73_0 [] M3))) (fun J=>by kernel_rfl) (by simp only[jj_eq,h3];rfl)
theorem ref04_Number_j6_eq m M3 rec3 (h3:H73_3 m M3 rec3) x0 x1 x2:e73 jn m w73_2 [M3] (s73_7 x0 x1 x2)=ref04_Number_j6 m rec3 x0 x1 x2:=
 tre (g:=fun J=>((idxS x0 x2).bind fun v1=>
  (jj J 0 6 0 (s73_7 x0 (IntKind.wrap .i64 ((IntKind.wrap .i64 (x1*10))+(IntKind.wrap .i64 (IntKind.wrap IntKind.u8 (v1-48))))) x2) (e73 J m w73_1 [M3])))) (fun J=>by kernel_rfl) (by simp only[jj_eq,ref04_Number_j7_eq m M3 rec3 h3];rfl)
theorem ref04_Number_j5_eq m M3 rec3 (h3:H73_3 m M3 rec3) x0 x1 x2 x3:e73 jn m w73_3 [M3] (s73_5 x0 x1 x2 x3)=ref04_Number_j5 m rec3 x0 x1 x2 x3:=
 tre (g:=fun J=>(bif x3 then
  some (0,false)
   else
  (jj J 0 9 0 (s73_7 x0 x1 x2) (e73 J m w73_2 [M3])))) (fun J=>by kernel_rfl) (by simp only[jj_eq,ref04_Number_j6_eq m M3 rec3 h3];rfl)
theorem ref04_Number_j4_eq m M3 rec3 (h3:H73_3 m M3 rec3) x0 x1 x2:e73 jn m w73_4 [M3] (s73_7 x0 x1 x2)=ref04_Number_j4 m rec3 x0 x1 x2:=
 tre (g:=fun J=>((idxS x0 x2).bind fun v0=>
  (bif (decide (v0<48)) then
  (jj J 0 8 0 (s73_5 x0 x1 x2 true) (e73 J m w73_3 [M3]))
  else
  ((idxS x0 x2).bind fun v2=>
  (jj J 0 8 0 (s73_5 x0 x1 x2 (decide (57<v2))) (e73 J m w73_3 [M3])))))) (fun J=>by kernel_rfl) (by simp only[jj_eq,ref04_Number_j5_eq m M3 rec3 h3];rfl)
theorem ref04_Number_j8_eq m x0:e73 jn m [1,1,1,1] [] (s73_8 x0)=ref04_Number_j8 m x0:=
 tre (g:=fun J=>some (x0,true)) (fun J=>by kernel_rfl) (by rfl)
theorem ref04_Number_l3_eq m:∀M3 x0 x1 x2,l73 jn m w73_0 [] M3 (s73_7 x0 x1 x2)=ref04_Number_l3 m M3 x0 x1 x2
 |0,_,_,_=>rfl
 | M3+1,x0,x1,x2=>
   trl (g:=fun J=>(bif (decide (x2<(ByteArray.size x0:Int))) then
  (jj J 0 7 0 (s73_7 x0 x1 x2) (e73 J m w73_4 [M3]))
   else
  (jj J 0 10 0 (s73_8 x1) (e73 J m [1,1,1,1] [])))) (fun J=>by kernel_rfl) (by simp only[jj_eq,ref04_Number_j4_eq m M3 (ref04_Number_l3 m M3) (ref04_Number_l3_eq m M3),ref04_Number_j8_eq m];rfl)
theorem ref04_Number_j2_eq m x0 x1 x2:e73 jn m w73_5 [] (s73_7 x0 x1 x2)=ref04_Number_j2 m x0 x1 x2:=
 tre (g:=fun J=>(jj J 1 5 (Nat.succ m) (s73_7 x0 x1 x2) (l73 J m w73_0 [] (Nat.succ m)))) (fun J=>by kernel_rfl) (by simp only[jj_eq,ref04_Number_l3_eq m];rfl)
theorem ref04_Number_j1_eq m x0:e73 jn m [1,1] [] (s73_1 x0)=ref04_Number_j1 m x0:=
 tre (g:=fun J=>(jj J 0 5 0 (s73_7 x0 0 0) (e73 J m w73_5 []))) (fun J=>by kernel_rfl) (by simp only[jj_eq,ref04_Number_j2_eq m];rfl)
theorem ref04_Number_j0_eq m x0 x1:e73 jn m [1,0,1] [] (s73_0 x0 x1)=ref04_Number_j0 m x0 x1:=
 tre (g:=fun J=>(bif x1 then
  some (0,false)
   else
  (jj J 0 3 0 (s73_1 x0) (e73 J m [1,1] [])))) (fun J=>by kernel_rfl) (by simp only[jj_eq,ref04_Number_j1_eq m];rfl)
theorem ref04_Number_eq m a0:e73 jn m [] [] ⟨[(.dat 9 (.str a0))],[],0⟩=ref04_Number (m+1) a0:=
 tre (g:=fun J=>(bif (decide ((ByteArray.size a0:Int)<1)) then
  (jj J 0 2 0 (s73_0 a0 true) (e73 J m [1,0,1] []))
   else
  (bif (decide (4<(ByteArray.size a0:Int))) then
  (jj J 0 2 0 (s73_0 a0 true) (e73 J m [1,0,1] []))
  else
  ((idxS a0 0).bind fun v3=>
  (bif (v3==48) then
  (jj J 0 2 0 (s73_0 a0 (decide (1<(ByteArray.size a0:Int)))) (e73 J m [1,0,1] []))
  else
  (jj J 0 2 0 (s73_0 a0 false) (e73 J m [1,0,1] []))))))) (fun J=>by kernel_rfl) (by simp only[jj_eq,ref04_Number_j0_eq m];rfl)
def w68_6:List Nat:=[1,1,1,1,1,1]
def w68_0:List Nat:=[1,1,0,1,0,1,1]
def w68_7:List Nat:=[1,1,1,1,1,0,1]
def w68_1:List Nat:=w68_7++[0]
def w68_4:List Nat:=w68_6++[1,1]
def w68_5:List Nat:=w68_6++[1,0,1]
def w68_3:List Nat:=w68_1++[0,1]
def w68_2:List Nat:=w68_3++[1]
noncomputable def e68 (J:Nat→Nat→Nat→St→Option (List Dt)→Option (List Dt)) (m:Nat) (p ms:List Nat) (σ:St):=evAt Tryz.prog env (ct m) J (m+1) 221 84 Tryz.f221 d47 p ms σ
noncomputable def l68 (J:Nat→Nat→Nat→St→Option (List Dt)→Option (List Dt)) (m:Nat) (p ms:List Nat) (M:Nat) (σ:St):=loopAt Tryz.prog env (ct m) J (m+1) 221 84 Tryz.f221 d47 p ms M σ
noncomputable def s68_1:St:=⟨tsOf [],[],0⟩
noncomputable def s68_7 (x0:List Dt) (x1:Int) (x2:Dt) (x3:List Dt):St:=⟨tsOf [(1,(.dat 22 (.lst x0))),(2,(.ptr 0 [] 0)),(7,(.row 1)),(8,(.dat 3 (.int x1)))],[(.box 33 (.dat 33 x2)),(.row 23 x3)],0⟩
noncomputable def s68_10 (x0:List Dt):St:=⟨tsOf [(7,(.row 0))],[(.row 23 x0)],0⟩
noncomputable def s68_9 (x0:List Dt) (x1:Int) (x2:Bool) (x3:Dt) (x4:List Dt):St:=⟨tsOf [(1,(.dat 22 (.lst x0))),(2,(.ptr 0 [] 0)),(7,(.row 1)),(9,(.dat 3 (.int x1))),(72,(.dat 4 (.bool x2)))],[(.box 33 (.dat 33 x3)),(.row 23 x4)],0⟩
noncomputable def s68_8 (x0:List Dt) (x1:Dt) (x2:List Dt):St:=⟨tsOf [(1,(.dat 22 (.lst x0))),(2,(.ptr 0 [] 0)),(7,(.row 1))],[(.box 33 (.dat 33 x1)),(.row 23 x2)],0⟩
noncomputable def s68_3 (x0:List Dt) (x1:Dt):St:=⟨tsOf [(1,(.dat 22 (.lst x0))),(2,(.ptr 0 [] 0))],[(.box 33 (.dat 33 x1))],0⟩
theorem ref04_Pass_j1_eq m:e68 jn m w68_0 [] s68_1=ref04_Pass_j1 m (ref04_Pass m):=
 tre (g:=fun J=>some []) (fun J=>by kernel_rfl) (by rfl)
abbrev H68_5 (m M5:Nat) (rec5:List Dt→Int→Dt→List Dt→Option (List Dt)):Prop:=∀x0 x1 x2 x3,l68 jn m w68_1 [] M5 (s68_7 x0 x1 x2 x3)=rec5 x0 x1 x2 x3
theorem ref04_Pass_j7_eq m M5 rec5 (h5:H68_5 m M5 rec5) x0 x1 x2 x3:e68 jn m w68_2 [M5] (s68_7 x0 x1 x2 x3)=ref04_Pass_j7 m (ref04_Pass m) rec5 x0 x1 x2 x3:=
 tre (g:=fun J=>(jj J 1 12 M5 (s68_7 x0 (IntKind.wrap .i64 (x1+1)) x2 x3) (l68 J m w68_1 [] M5))) (fun J=>by kernel_rfl) (by simp only[jj_eq,h5];rfl)
theorem ref04_Pass_j6_eq m M5 rec5 (h5:H68_5 m M5 rec5) x0 x1 x2 x3:e68 jn m w68_3 [M5] (s68_7 x0 x1 x2 x3)=ref04_Pass_j6 m (ref04_Pass m) rec5 x0 x1 x2 x3:=
 tre (g:=fun J=>((idx (Dt.L x2 3) x1).bind fun v4=>
  (bif ((Dt.I v4 0)==5) then
  ((idx (Dt.L x2 3) x1).bind fun v5=>
  ((ref04_Pass m v5 x0).bind fun r6=>
  ((app x3 r6).bind fun v7=>
  (jj J 0 13 0 (s68_7 x0 x1 x2 v7) (e68 J m w68_2 [M5])))))
  else
  (jj J 0 13 0 (s68_7 x0 x1 x2 x3) (e68 J m w68_2 [M5]))))) (fun J=>by kernel_rfl) (by simp only[jj_eq,ref04_Pass_j7_eq m M5 rec5 h5];rfl)
theorem ref04_Pass_j10_eq m x0:e68 jn m w68_4 [] (s68_10 x0)=ref04_Pass_j10 m (ref04_Pass m) x0:=
 tre (g:=fun J=>some x0) (fun J=>by kernel_rfl) (by rfl)
theorem ref04_Pass_j9_eq m x0 x1 x2 x3 x4:e68 jn m w68_5 [] (s68_9 x0 x1 x2 x3 x4)=ref04_Pass_j9 m (ref04_Pass m) x0 x1 x2 x3 x4:=
 tre (g:=fun J=>(bif x2 then
  ((idx (Dt.L x3 3) x1).bind fun v10=>
  ((cutL x0 1 (List.length x0:Int)).bind fun v11=>
  ((ref04_Pass m v10 v11).bind fun r12=>
  ((app x4 r12).bind fun v13=>
  (jj J 0 19 0 (s68_10 v13) (e68 J m w68_4 []))))))
   else
  (jj J 0 19 0 (s68_10 x4) (e68 J m w68_4 [])))) (fun J=>by kernel_rfl) (by simp only[jj_eq,ref04_Pass_j10_eq m];rfl)
theorem ref04_Pass_j8_eq m x0 x1 x2:e68 jn m w68_6 [] (s68_8 x0 x1 x2)=ref04_Pass_j8 m (ref04_Pass m) x0 x1 x2:=
 tre (g:=fun J=>((idx x0 0).bind fun v8=>
  ((ref04_Number m (Dt.toStr v8)).bind fun r9=>
  (bif r9.2 then
  (jj J 0 18 0 (s68_9 x0 r9.1 (decide (r9.1<(List.length (Dt.L x1 3):Int))) x1 x2) (e68 J m w68_5 []))
  else
  (jj J 0 18 0 (s68_9 x0 r9.1 false x1 x2) (e68 J m w68_5 [])))))) (fun J=>by kernel_rfl) (by simp only[jj_eq,ref04_Pass_j9_eq m];rfl)
theorem ref04_Pass_l5_eq m:∀M5 x0 x1 x2 x3,l68 jn m w68_1 [] M5 (s68_7 x0 x1 x2 x3)=ref04_Pass_l5 m (ref04_Pass m) M5 x0 x1 x2 x3
 |0,_,_,_,_=>rfl
 | M5+1,x0,x1,x2,x3=>
   trl (g:=fun J=>(bif (decide (x1<(List.length (Dt.L x2 3):Int))) then
  (jj J 0 14 0 (s68_7 x0 x1 x2 x3) (e68 J m w68_3 [M5]))
   else
  (jj J 0 16 0 (s68_8 x0 x2 x3) (e68 J m w68_6 [])))) (fun J=>by kernel_rfl) (by simp only[jj_eq,ref04_Pass_j6_eq m M5 (ref04_Pass_l5 m (ref04_Pass m) M5) (ref04_Pass_l5_eq m M5),ref04_Pass_j8_eq m];rfl)
theorem ref04_Pass_j4_eq m x0 x1 x2 x3:e68 jn m w68_7 [] (s68_7 x0 x1 x2 x3)=ref04_Pass_j4 m (ref04_Pass m) x0 x1 x2 x3:=
 tre (g:=fun J=>(jj J 1 12 (Nat.succ m) (s68_7 x0 x1 x2 x3) (l68 J m w68_1 [] (Nat.succ m)))) (fun J=>by kernel_rfl) (by simp only[jj_eq,ref04_Pass_l5_eq m];rfl)
theorem ref04_Pass_j3_eq m x0 x1:e68 jn m [1,1,1,1] [] (s68_3 x0 x1)=ref04_Pass_j3 m (ref04_Pass m) x0 x1:=
 tre (g:=fun J=>(jj J 0 12 0 (s68_7 x0 0 x1 []) (e68 J m w68_7 []))) (fun J=>by kernel_rfl) (by simp only[jj_eq,ref04_Pass_j4_eq m];rfl)
theorem ref04_Pass_j2_eq m x0 x1:e68 jn m [1,1,1] [] (s68_3 x0 x1)=ref04_Pass_j2 m (ref04_Pass m) x0 x1:=
 tre (g:=fun J=>(bif ((Dt.I x1 0) !=6) then
  some []
   else
  (jj J 0 10 0 (s68_3 x0 x1) (e68 J m [1,1,1,1] [])))) (fun J=>by kernel_rfl) (by simp only[jj_eq,ref04_Pass_j3_eq m];rfl)
theorem ref04_Pass_j0_eq m x0 x1:e68 jn m [1,1] [] (s68_3 x0 x1)=ref04_Pass_j0 m (ref04_Pass m) x0 x1:=
 tre (g:=fun J=>(bif ((Dt.I x1 0)==5) then
  ((idx x0 0).bind fun v0=>
  ((ref01_Get m x1 (Dt.toStr v0)).bind fun r1=>
  (bif r1.2 then
  ((cutL x0 1 (List.length x0:Int)).bind fun v2=>
  ((ref04_Pass m r1.1 v2).bind fun r3=>
  some r3))
  else
  (jj J 0 7 0 s68_1 (e68 J m w68_0 [])))))
   else
  (jj J 0 8 0 (s68_3 x0 x1) (e68 J m [1,1,1] [])))) (fun J=>by kernel_rfl) (by simp only[jj_eq,ref04_Pass_j1_eq m,ref04_Pass_j2_eq m];rfl)
theorem ref04_Pass_eq m a0 a1:e68 jn m [] [] ⟨[(.dat 33 a0),(.dat 22 (.lst a1))],[],0⟩=ref04_Pass (m+1) a0 a1:=
 tre (g:=fun J=>(bif ((List.length a1:Int)==0) then
  some [a0]
   else
  (jj J 0 3 0 (s68_3 a1 a0) (e68 J m [1,1] [])))) (fun J=>by kernel_rfl) (by simp only[jj_eq,ref04_Pass_j0_eq m];rfl)
noncomputable def e55 (J:Nat→Nat→Nat→St→Option (List Dt)→Option (List Dt)) (m:Nat) (p ms:List Nat) (σ:St):=evAt Tryz.prog env (ct m) J (m+1) 172 15 Tryz.f172 d47 p ms σ
noncomputable def l55 (J:Nat→Nat→Nat→St→Option (List Dt)→Option (List Dt)) (m:Nat) (p ms:List Nat) (M:Nat) (σ:St):=loopAt Tryz.prog env (ct m) J (m+1) 172 15 Tryz.f172 d47 p ms M σ
noncomputable def s55_0 (x0:List Dt):St:=⟨tsOf [(5,(.dat 23 (.lst x0)))],[],0⟩
theorem ref04_Reach_j0_eq m x0:e55 jn m [1,1,1] [] (s55_0 x0)=ref04_Reach_j0 m x0:=
 tre (g:=fun J=>some x0) (fun J=>by kernel_rfl) (by rfl)
theorem ref04_Reach_eq m a0 a1:e55 jn m [] [] ⟨[(.dat 33 a0),(.dat 22 (.lst a1))],[],0⟩=ref04_Reach (m+1) a0 a1:=
 tre (g:=fun J=>((ref04_Pass m a0 a1).bind fun r0=>
  (bif ((List.length r0:Int)==0) then
  some [kza2373]
  else
  (jj J 0 4 0 (s55_0 r0) (e55 J m [1,1,1] []))))) (fun J=>by kernel_rfl) (by simp only[jj_eq,ref04_Reach_j0_eq m];rfl)
def w37_3:List Nat:=[1,1,1,0,1]
def w37_0:List Nat:=[1,1,1,0,1,0]
def w37_2:List Nat:=w37_0++[0,1]
def w37_1:List Nat:=w37_2++[1]
noncomputable def e37 (J:Nat→Nat→Nat→St→Option (List Dt)→Option (List Dt)) (m:Nat) (p ms:List Nat) (σ:St):=evAt Tryz.prog env (ct m) J (m+1) 126 38 Tryz.f126 d47 p ms σ
noncomputable def l37 (J:Nat→Nat→Nat→St→Option (List Dt)→Option (List Dt)) (m:Nat) (p ms:List Nat) (M:Nat) (σ:St):=loopAt Tryz.prog env (ct m) J (m+1) 126 38 Tryz.f126 d47 p ms M σ
noncomputable def s37_3 (x0:List Dt) (x1:Int) (x2:List Dt):St:=⟨tsOf [(5,(.dat 23 (.lst x0))),(6,(.row 0)),(7,(.dat 3 (.int x1)))],[(.row 23 x2)],0⟩
noncomputable def s37_4 (x0:List Dt):St:=⟨tsOf [(6,(.row 0))],[(.row 23 x0)],0⟩
abbrev H37_1 (m M1:Nat) (rec1:List Dt→Int→List Dt→Option (List Dt)):Prop:=∀x0 x1 x2,l37 jn m w37_0 [] M1 (s37_3 x0 x1 x2)=rec1 x0 x1 x2
theorem ref04_Leaves_j3_eq m M1 rec1 (h1:H37_1 m M1 rec1) x0 x1 x2:e37 jn m w37_1 [M1] (s37_3 x0 x1 x2)=ref04_Leaves_j3 m rec1 x0 x1 x2:=
 tre (g:=fun J=>(jj J 1 4 M1 (s37_3 x0 (IntKind.wrap .i64 (x1+1)) x2) (l37 J m w37_0 [] M1))) (fun J=>by kernel_rfl) (by simp only[jj_eq,h1];rfl)
theorem ref04_Leaves_j2_eq m M1 rec1 (h1:H37_1 m M1 rec1) x0 x1 x2:e37 jn m w37_2 [M1] (s37_3 x0 x1 x2)=ref04_Leaves_j2 m rec1 x0 x1 x2:=
 tre (g:=fun J=>((idx x0 x1).bind fun v1=>
  ((app x2 [v1]).bind fun v2=>
  ((idx x0 x1).bind fun v3=>
  (bif ((Dt.I v3 0)==6) then
  ((idx x0 x1).bind fun v4=>
  ((app v2 (Dt.L v4 3)).bind fun v5=>
  (jj J 0 5 0 (s37_3 x0 x1 v5) (e37 J m w37_1 [M1]))))
  else
  (jj J 0 5 0 (s37_3 x0 x1 v2) (e37 J m w37_1 [M1]))))))) (fun J=>by kernel_rfl) (by simp only[jj_eq,ref04_Leaves_j3_eq m M1 rec1 h1];rfl)
theorem ref04_Leaves_j4_eq m x0:e37 jn m [1,1,1,1] [] (s37_4 x0)=ref04_Leaves_j4 m x0:=
 tre (g:=fun J=>some x0) (fun J=>by kernel_rfl) (by rfl)
theorem ref04_Leaves_l1_eq m:∀M1 x0 x1 x2,l37 jn m w37_0 [] M1 (s37_3 x0 x1 x2)=ref04_Leaves_l1 m M1 x0 x1 x2
 |0,_,_,_=>rfl
 | M1+1,x0,x1,x2=>
   trl (g:=fun J=>(bif (decide (x1<(List.length x0:Int))) then
  (jj J 0 6 0 (s37_3 x0 x1 x2) (e37 J m w37_2 [M1]))
   else
  (jj J 0 9 0 (s37_4 x2) (e37 J m [1,1,1,1] [])))) (fun J=>by kernel_rfl) (by simp only[jj_eq,ref04_Leaves_j2_eq m M1 (ref04_Leaves_l1 m M1) (ref04_Leaves_l1_eq m M1),ref04_Leaves_j4_eq m];rfl)
theorem ref04_Leaves_j0_eq m x0 x1 x2:e37 jn m w37_3 [] (s37_3 x0 x1 x2)=ref04_Leaves_j0 m x0 x1 x2:=
 tre (g:=fun J=>(jj J 1 4 (Nat.succ m) (s37_3 x0 x1 x2) (l37 J m w37_0 [] (Nat.succ m)))) (fun J=>by kernel_rfl) (by simp only[jj_eq,ref04_Leaves_l1_eq m];rfl)
theorem ref04_Leaves_eq m a0 a1:e37 jn m [] [] ⟨[(.dat 33 a0),(.dat 22 (.lst a1))],[],0⟩=ref04_Leaves (m+1) a0 a1:=
 tre (g:=fun J=>((ref04_Reach m a0 a1).bind fun r0=>
  (jj J 0 4 0 (s37_3 r0 0 []) (e37 J m w37_3 [])))) (fun J=>by kernel_rfl) (by simp only[jj_eq,ref04_Leaves_j0_eq m];rfl)
def w23_5:List Nat:=[1,1,1,0,1]
def w23_0:List Nat:=[1,1,1,0,1,0]
def w23_4:List Nat:=w23_0++[0,1]
def w23_1:List Nat:=w23_4++[1]
def w23_3:List Nat:=w23_4++[0,0,1,1]
def w23_2:List Nat:=w23_3++[1,1]
noncomputable def e23 (J:Nat→Nat→Nat→St→Option (Int×Bool)→Option (Int×Bool)) (m:Nat) (p ms:List Nat) (σ:St):=evAt Tryz.prog env (ct m) J (m+1) 79 56 Tryz.f79 d66 p ms σ
noncomputable def l23 (J:Nat→Nat→Nat→St→Option (Int×Bool)→Option (Int×Bool)) (m:Nat) (p ms:List Nat) (M:Nat) (σ:St):=loopAt Tryz.prog env (ct m) J (m+1) 79 56 Tryz.f79 d66 p ms M σ
noncomputable def s23_3 (x0:Int) (x1:Bool) (x2:List Dt) (x3:Int) (x4:Dt):St:=⟨tsOf [(3,(.ptr 0 [] 0)),(8,(.dat 3 (.int x0))),(9,(.dat 4 (.bool x1))),(10,(.dat 23 (.lst x2))),(11,(.dat 3 (.int x3)))],[(.box 49 (.dat 49 x4))],0⟩
noncomputable def s23_5 (x0:Int) (x1:Bool) (x2:List Dt) (x3 x4:Int) (x5:Bool) (x6:Dt):St:=⟨tsOf [(3,(.ptr 0 [] 0)),(8,(.dat 3 (.int x0))),(9,(.dat 4 (.bool x1))),(10,(.dat 23 (.lst x2))),(11,(.dat 3 (.int x3))),(14,(.dat 3 (.int x4))),(52,(.dat 4 (.bool x5)))],[(.box 49 (.dat 49 x6))],0⟩
noncomputable def s23_4 (x0:Int) (x1:Bool) (x2:List Dt) (x3:Int) (x4 x5:Dt):St:=⟨tsOf [(3,(.ptr 0 [] 0)),(8,(.dat 3 (.int x0))),(9,(.dat 4 (.bool x1))),(10,(.dat 23 (.lst x2))),(11,(.dat 3 (.int x3))),(12,(.ptr 1 [] 0))],[(.box 49 (.dat 49 x4)),(.box 90 (.dat 90 x5))],0⟩
noncomputable def s23_6 (x0:Int) (x1:Bool):St:=⟨tsOf [(8,(.dat 3 (.int x0))),(9,(.dat 4 (.bool x1)))],[],0⟩
abbrev H23_1 (m M1:Nat) (rec1:Int→Bool→List Dt→Int→Dt→Option (Int×Bool)):Prop:=∀x0 x1 x2 x3 x4,l23 jn m w23_0 [] M1 (s23_3 x0 x1 x2 x3 x4)=rec1 x0 x1 x2 x3 x4
theorem ref36_Distance_j3_eq m M1 rec1 (h1:H23_1 m M1 rec1) x0 x1 x2 x3 x4:e23 jn m w23_1 [M1] (s23_3 x0 x1 x2 x3 x4)=ref36_Distance_j3 m rec1 x0 x1 x2 x3 x4:=
 tre (g:=fun J=>(jj J 1 4 M1 (s23_3 x0 x1 x2 (IntKind.wrap .i64 (x3+1)) x4) (l23 J m w23_0 [] M1))) (fun J=>by kernel_rfl) (by simp only[jj_eq,h1];rfl)
theorem ref36_Distance_j5_eq m M1 rec1 (h1:H23_1 m M1 rec1) x0 x1 x2 x3 x4 x5 x6:e23 jn m w23_2 [M1] (s23_5 x0 x1 x2 x3 x4 x5 x6)=ref36_Distance_j5 m rec1 x0 x1 x2 x3 x4 x5 x6:=
 tre (g:=fun J=>(bif x5 then
  (jj J 0 5 0 (s23_3 x4 true x2 x3 x6) (e23 J m w23_1 [M1]))
   else
  (jj J 0 5 0 (s23_3 x0 x1 x2 x3 x6) (e23 J m w23_1 [M1])))) (fun J=>by kernel_rfl) (by simp only[jj_eq,ref36_Distance_j3_eq m M1 rec1 h1];rfl)
theorem ref36_Distance_j4_eq m M1 rec1 (h1:H23_1 m M1 rec1) x0 x1 x2 x3 x4 x5:e23 jn m w23_3 [M1] (s23_4 x0 x1 x2 x3 x4 x5)=ref36_Distance_j4 m rec1 x0 x1 x2 x3 x4 x5:=
 tre (g:=fun J=>((idx (Dt.L x4 1) 0).bind fun v4=>
  ((ref10_Distance m v4 x5).bind fun r5=>
  (bif (Bool.not x1) then
  (jj J 0 10 0 (s23_5 x0 x1 x2 x3 r5 true x4) (e23 J m w23_2 [M1]))
  else
  (jj J 0 10 0 (s23_5 x0 x1 x2 x3 r5 (decide (r5<x0)) x4) (e23 J m w23_2 [M1])))))) (fun J=>by kernel_rfl) (by simp only[jj_eq,ref36_Distance_j5_eq m M1 rec1 h1];rfl)
theorem ref36_Distance_j2_eq m M1 rec1 (h1:H23_1 m M1 rec1) x0 x1 x2 x3 x4:e23 jn m w23_4 [M1] (s23_3 x0 x1 x2 x3 x4)=ref36_Distance_j2 m rec1 x0 x1 x2 x3 x4:=
 tre (g:=fun J=>((idx x2 x3).bind fun v1=>
  ((ref10_Point m v1).bind fun r2=>
  (bif (r2.2 !=0) then
  (jj J 0 5 0 (s23_3 x0 x1 x2 x3 x4) (e23 J m w23_1 [M1]))
  else
  ((ref10_Inside m x4 r2.1).bind fun r3=>
  (bif (Bool.not r3) then
  (jj J 0 5 0 (s23_3 x0 x1 x2 x3 x4) (e23 J m w23_1 [M1]))
  else
  (jj J 0 8 0 (s23_4 x0 x1 x2 x3 x4 r2.1) (e23 J m w23_3 [M1])))))))) (fun J=>by kernel_rfl) (by simp only[jj_eq,ref36_Distance_j3_eq m M1 rec1 h1,ref36_Distance_j4_eq m M1 rec1 h1];rfl)
theorem ref36_Distance_j6_eq m x0 x1:e23 jn m [1,1,1,1] [] (s23_6 x0 x1)=ref36_Distance_j6 m x0 x1:=
 tre (g:=fun J=>some (x0,x1)) (fun J=>by kernel_rfl) (by rfl)
theorem ref36_Distance_l1_eq m:∀M1 x0 x1 x2 x3 x4,l23 jn m w23_0 [] M1 (s23_3 x0 x1 x2 x3 x4)=ref36_Distance_l1 m M1 x0 x1 x2 x3 x4
 |0,_,_,_,_,_=>rfl
 | M1+1,x0,x1,x2,x3,x4=>
   trl (g:=fun J=>(bif (decide (x3<(List.length x2:Int))) then
  (jj J 0 6 0 (s23_3 x0 x1 x2 x3 x4) (e23 J m w23_4 [M1]))
   else
  (jj J 0 11 0 (s23_6 x0 x1) (e23 J m [1,1,1,1] [])))) (fun J=>by kernel_rfl) (by simp only[jj_eq,ref36_Distance_j2_eq m M1 (ref36_Distance_l1 m M1) (ref36_Distance_l1_eq m M1),ref36_Distance_j6_eq m];rfl)
theorem ref36_Distance_j0_eq m x0 x1 x2 x3 x4:e23 jn m w23_5 [] (s23_3 x0 x1 x2 x3 x4)=ref36_Distance_j0 m x0 x1 x2 x3 x4:=
 tre (g:=fun J=>(jj J 1 4 (Nat.succ m) (s23_3 x0 x1 x2 x3 x4) (l23 J m w23_0 [] (Nat.succ m)))) (fun J=>by kernel_rfl) (by simp only[jj_eq,ref36_Distance_l1_eq m];rfl)
theorem ref36_Distance_eq m a0 a1 a2:e23 jn m [] [] ⟨[(.dat 49 a0),(.dat 22 (.lst a1)),(.dat 33 a2)],[],0⟩=ref36_Distance (m+1) a0 a1 a2:=
 tre (g:=fun J=>((ref04_Leaves m a2 a1).bind fun r0=>
  (jj J 0 4 0 (s23_3 0 false r0 0 a0) (e23 J m w23_5 [])))) (fun J=>by kernel_rfl) (by simp only[jj_eq,ref36_Distance_j0_eq m];rfl)
def w4_8:List Nat:=[1,1,1,1,1]
def w4_9:List Nat:=[1,1,1,1,0,1]
def w4_0:List Nat:=w4_9++[0]
def w4_7:List Nat:=w4_0++[0,1]
def w4_1:List Nat:=w4_7++[1]
def w4_6:List Nat:=w4_7++[0,0,1,1]
def w4_5:List Nat:=w4_6++[1]
def w4_4:List Nat:=w4_5++[1]
def w4_2:List Nat:=w4_5++[0,0]
def w4_3:List Nat:=w4_2++[0,1]
noncomputable def e4 (J:Nat→Nat→Nat→St→Option (List Dt)→Option (List Dt)) (m:Nat) (p ms:List Nat) (σ:St):=evAt Tryz.prog env (ct m) J (m+1) 28 96 Tryz.f28 d47 p ms σ
noncomputable def l4 (J:Nat→Nat→Nat→St→Option (List Dt)→Option (List Dt)) (m:Nat) (p ms:List Nat) (M:Nat) (σ:St):=loopAt Tryz.prog env (ct m) J (m+1) 28 96 Tryz.f28 d47 p ms M σ
noncomputable def s4_5 (x0:List Dt) (x1:ByteArray) (x2 x3 x4:List Dt) (x5:Int) (x6:Dt):St:=⟨tsOf [(1,(.dat 22 (.lst x0))),(2,(.dat 9 (.str x1))),(3,(.dat 23 (.lst x2))),(4,(.ptr 0 [] 0)),(9,(.dat 23 (.lst x3))),(10,(.dat 81 (.lst x4))),(11,(.dat 3 (.int x5)))],[(.box 49 (.dat 49 x6))],0⟩
noncomputable def s4_9 (x0:List Dt) (x1:ByteArray) (x2 x3 x4:List Dt) (x5 x6 x7:Int) (x8:Dt):St:=⟨tsOf [(1,(.dat 22 (.lst x0))),(2,(.dat 9 (.str x1))),(3,(.dat 23 (.lst x2))),(4,(.ptr 0 [] 0)),(9,(.dat 23 (.lst x3))),(10,(.dat 81 (.lst x4))),(11,(.dat 3 (.int x5))),(12,(.dat 3 (.int x6))),(14,(.dat 3 (.int x7)))],[(.box 49 (.dat 49 x8))],0⟩
noncomputable def s4_6 (x0:List Dt) (x1:ByteArray) (x2 x3 x4:List Dt) (x5 x6:Int) (x7:Dt):St:=⟨tsOf [(1,(.dat 22 (.lst x0))),(2,(.dat 9 (.str x1))),(3,(.dat 23 (.lst x2))),(4,(.ptr 0 [] 0)),(9,(.dat 23 (.lst x3))),(10,(.dat 81 (.lst x4))),(11,(.dat 3 (.int x5))),(12,(.dat 3 (.int x6)))],[(.box 49 (.dat 49 x7))],0⟩
noncomputable def s4_11 (x0:List Dt):St:=⟨tsOf [(9,(.dat 23 (.lst x0)))],[],0⟩
noncomputable def s4_1 (x0:List Dt) (x1:ByteArray) (x2:List Dt) (x3:Dt):St:=⟨tsOf [(1,(.dat 22 (.lst x0))),(2,(.dat 9 (.str x1))),(3,(.dat 23 (.lst x2))),(4,(.ptr 0 [] 0))],[(.box 49 (.dat 49 x3))],0⟩
noncomputable def s4_0 (x0:List Dt) (x1:ByteArray) (x2:List Dt) (x3:Bool) (x4:Dt):St:=⟨tsOf [(1,(.dat 22 (.lst x0))),(2,(.dat 9 (.str x1))),(3,(.dat 23 (.lst x2))),(4,(.ptr 0 [] 0)),(24,(.dat 4 (.bool x3)))],[(.box 49 (.dat 49 x4))],0⟩
abbrev H4_3 (m M3:Nat) (rec3:List Dt→ByteArray→List Dt→List Dt→List Dt→Int→Dt→Option (List Dt)):Prop:=∀x0 x1 x2 x3 x4 x5 x6,l4 jn m w4_0 [] M3 (s4_5 x0 x1 x2 x3 x4 x5 x6)=rec3 x0 x1 x2 x3 x4 x5 x6
theorem ref36_Near_j5_eq m M3 rec3 (h3:H4_3 m M3 rec3) x0 x1 x2 x3 x4 x5 x6:e4 jn m w4_1 [M3] (s4_5 x0 x1 x2 x3 x4 x5 x6)=ref36_Near_j5 m rec3 x0 x1 x2 x3 x4 x5 x6:=
 tre (g:=fun J=>(jj J 1 6 M3 (s4_5 x0 x1 x2 x3 x4 (IntKind.wrap .i64 (x5+1)) x6) (l4 J m w4_0 [] M3))) (fun J=>by kernel_rfl) (by simp only[jj_eq,h3];rfl)
abbrev H4_8 (m M3 M8:Nat) (rec8:List Dt→ByteArray→List Dt→List Dt→List Dt→Int→Int→Int→Dt→Option (List Dt)):Prop:=∀x0 x1 x2 x3 x4 x5 x6 x7 x8,l4 jn m w4_2 [M3] M8 (s4_9 x0 x1 x2 x3 x4 x5 x6 x7 x8)=rec8 x0 x1 x2 x3 x4 x5 x6 x7 x8
theorem ref36_Near_j9_eq m M3 rec3 (h3:H4_3 m M3 rec3) M8 rec8 (h8:H4_8 m M3 M8 rec8) x0 x1 x2 x3 x4 x5 x6 x7 x8:e4 jn m w4_3 [M3,M8] (s4_9 x0 x1 x2 x3 x4 x5 x6 x7 x8)=ref36_Near_j9 m rec3 rec8 x0 x1 x2 x3 x4 x5 x6 x7 x8:=
 tre (g:=fun J=>(jj J 1 11 M8 (s4_9 x0 x1 x2 x3 x4 x5 x6 (IntKind.wrap .i64 (x7-1)) x8) (l4 J m w4_2 [M3] M8))) (fun J=>by kernel_rfl) (by simp only[jj_eq,h8];rfl)
theorem ref36_Near_j10_eq m M3 rec3 (h3:H4_3 m M3 rec3) x0 x1 x2 x3 x4 x5 x6 x7 x8:e4 jn m w4_4 [M3] (s4_9 x0 x1 x2 x3 x4 x5 x6 x7 x8)=ref36_Near_j10 m rec3 x0 x1 x2 x3 x4 x5 x6 x7 x8:=
 tre (g:=fun J=>((cutL x3 0 x7).bind fun v3=>
  ((app [] v3).bind fun v4=>
  ((idx x2 x5).bind fun v5=>
  ((ref36_integer m x6).bind fun r6=>
  ((ref36_with m v5 x1 r6).bind fun r7=>
  ((app v4 [r7]).bind fun v8=>
  ((cutL x3 x7 (List.length x3:Int)).bind fun v9=>
  ((app v8 v9).bind fun v10=>
  ((cutL x4 0 x7).bind fun v11=>
  ((app [] v11).bind fun v12=>
  ((app v12 [(Dt.int x6)]).bind fun v13=>
  ((cutL x4 x7 (List.length x4:Int)).bind fun v14=>
  ((app v13 v14).bind fun v15=>
  (jj J 0 7 0 (s4_5 x0 x1 x2 v10 v15 x5 x8) (e4 J m w4_1 [M3])))))))))))))))) (fun J=>by kernel_rfl) (by simp only[jj_eq,ref36_Near_j5_eq m M3 rec3 h3];rfl)
theorem ref36_Near_l8_eq m M3 rec3 (h3:H4_3 m M3 rec3):∀M8 x0 x1 x2 x3 x4 x5 x6 x7 x8,l4 jn m w4_2 [M3] M8 (s4_9 x0 x1 x2 x3 x4 x5 x6 x7 x8)=ref36_Near_l8 m rec3 M8 x0 x1 x2 x3 x4 x5 x6 x7 x8
 |0,_,_,_,_,_,_,_,_,_=>rfl
 | M8+1,x0,x1,x2,x3,x4,x5,x6,x7,x8=>
   trl (g:=fun J=>(bif (decide (0<x7)) then
  ((idx x4 (IntKind.wrap .i64 (x7-1))).bind fun v2=>
  (bif (decide (x6<(Dt.toInt v2))) then
  (jj J 0 12 0 (s4_9 x0 x1 x2 x3 x4 x5 x6 x7 x8) (e4 J m w4_3 [M3,M8]))
  else
  (jj J 0 13 0 (s4_9 x0 x1 x2 x3 x4 x5 x6 x7 x8) (e4 J m w4_4 [M3]))))
   else
  (jj J 0 13 0 (s4_9 x0 x1 x2 x3 x4 x5 x6 x7 x8) (e4 J m w4_4 [M3])))) (fun J=>by kernel_rfl) (by simp only[jj_eq,ref36_Near_j9_eq m M3 rec3 h3 M8 (ref36_Near_l8 m rec3 M8) (ref36_Near_l8_eq m M3 rec3 h3 M8),ref36_Near_j10_eq m M3 rec3 h3];rfl)
theorem ref36_Near_j7_eq m M3 rec3 (h3:H4_3 m M3 rec3) x0 x1 x2 x3 x4 x5 x6 x7 x8:e4 jn m w4_5 [M3] (s4_9 x0 x1 x2 x3 x4 x5 x6 x7 x8)=ref36_Near_j7 m rec3 x0 x1 x2 x3 x4 x5 x6 x7 x8:=
 tre (g:=fun J=>(jj J 1 11 (Nat.succ m) (s4_9 x0 x1 x2 x3 x4 x5 x6 x7 x8) (l4 J m w4_2 [M3] (Nat.succ m)))) (fun J=>by kernel_rfl) (by simp only[jj_eq,ref36_Near_l8_eq m M3 rec3 h3];rfl)
theorem ref36_Near_j6_eq m M3 rec3 (h3:H4_3 m M3 rec3) x0 x1 x2 x3 x4 x5 x6 x7:e4 jn m w4_6 [M3] (s4_6 x0 x1 x2 x3 x4 x5 x6 x7)=ref36_Near_j6 m rec3 x0 x1 x2 x3 x4 x5 x6 x7:=
 tre (g:=fun J=>(jj J 0 11 0 (s4_9 x0 x1 x2 x3 x4 x5 x6 (List.length x3:Int) x7) (e4 J m w4_5 [M3]))) (fun J=>by kernel_rfl) (by simp only[jj_eq,ref36_Near_j7_eq m M3 rec3 h3];rfl)
theorem ref36_Near_j4_eq m M3 rec3 (h3:H4_3 m M3 rec3) x0 x1 x2 x3 x4 x5 x6:e4 jn m w4_7 [M3] (s4_5 x0 x1 x2 x3 x4 x5 x6)=ref36_Near_j4 m rec3 x0 x1 x2 x3 x4 x5 x6:=
 tre (g:=fun J=>((idx x2 x5).bind fun v0=>
  ((ref36_Distance m x6 x0 v0).bind fun r1=>
  (bif (Bool.not r1.2) then
  (jj J 0 7 0 (s4_5 x0 x1 x2 x3 x4 x5 x6) (e4 J m w4_1 [M3]))
  else
  (jj J 0 10 0 (s4_6 x0 x1 x2 x3 x4 x5 r1.1 x6) (e4 J m w4_6 [M3])))))) (fun J=>by kernel_rfl) (by simp only[jj_eq,ref36_Near_j5_eq m M3 rec3 h3,ref36_Near_j6_eq m M3 rec3 h3];rfl)
theorem ref36_Near_j11_eq m x0:e4 jn m w4_8 [] (s4_11 x0)=ref36_Near_j11 m x0:=
 tre (g:=fun J=>some x0) (fun J=>by kernel_rfl) (by rfl)
theorem ref36_Near_l3_eq m:∀M3 x0 x1 x2 x3 x4 x5 x6,l4 jn m w4_0 [] M3 (s4_5 x0 x1 x2 x3 x4 x5 x6)=ref36_Near_l3 m M3 x0 x1 x2 x3 x4 x5 x6
 |0,_,_,_,_,_,_,_=>rfl
 | M3+1,x0,x1,x2,x3,x4,x5,x6=>
   trl (g:=fun J=>(bif (decide (x5<(List.length x2:Int))) then
  (jj J 0 8 0 (s4_5 x0 x1 x2 x3 x4 x5 x6) (e4 J m w4_7 [M3]))
   else
  (jj J 0 23 0 (s4_11 x3) (e4 J m w4_8 [])))) (fun J=>by kernel_rfl) (by simp only[jj_eq,ref36_Near_j4_eq m M3 (ref36_Near_l3 m M3) (ref36_Near_l3_eq m M3),ref36_Near_j11_eq m];rfl)
theorem ref36_Near_j2_eq m x0 x1 x2 x3 x4 x5 x6:e4 jn m w4_9 [] (s4_5 x0 x1 x2 x3 x4 x5 x6)=ref36_Near_j2 m x0 x1 x2 x3 x4 x5 x6:=
 tre (g:=fun J=>(jj J 1 6 (Nat.succ m) (s4_5 x0 x1 x2 x3 x4 x5 x6) (l4 J m w4_0 [] (Nat.succ m)))) (fun J=>by kernel_rfl) (by simp only[jj_eq,ref36_Near_l3_eq m];rfl)
theorem ref36_Near_j1_eq m x0 x1 x2 x3:e4 jn m [1,1] [] (s4_1 x0 x1 x2 x3)=ref36_Near_j1 m x0 x1 x2 x3:=
 tre (g:=fun J=>(jj J 0 6 0 (s4_5 x0 x1 x2 [] [] 0 x3) (e4 J m w4_9 []))) (fun J=>by kernel_rfl) (by simp only[jj_eq,ref36_Near_j2_eq m];rfl)
theorem ref36_Near_j0_eq m x0 x1 x2 x3 x4:e4 jn m [1,0,1] [] (s4_0 x0 x1 x2 x3 x4)=ref36_Near_j0 m x0 x1 x2 x3 x4:=
 tre (g:=fun J=>(bif x3 then
  some []
   else
  (jj J 0 3 0 (s4_1 x0 x1 x2 x4) (e4 J m [1,1] [])))) (fun J=>by kernel_rfl) (by simp only[jj_eq,ref36_Near_j1_eq m];rfl)
theorem ref36_Near_eq m a0 a1 a2 a3:e4 jn m [] [] ⟨[(.dat 49 a0),(.dat 22 (.lst a1)),(.dat 9 (.str a2)),(.dat 23 (.lst a3))],[],0⟩=ref36_Near (m+1) a0 a1 a2 a3:=
 tre (g:=fun J=>(bif ((Dt.I a0 0) !=2) then
  (jj J 0 2 0 (s4_0 a1 a2 a3 true a0) (e4 J m [1,0,1] []))
   else
  ((ref10_Valid m a0).bind fun r16=>
  (jj J 0 2 0 (s4_0 a1 a2 a3 (r16 !=0) a0) (e4 J m [1,0,1] []))))) (fun J=>by kernel_rfl) (by simp only[jj_eq,ref36_Near_j0_eq m];rfl)
noncomputable def e0 (J:Nat→Nat→Nat→St→Option Bool→Option Bool) (m:Nat) (p ms:List Nat) (σ:St):=evAt Tryz.prog env (ct m) J (m+1) 6 37 Tryz.f6 d5 p ms σ
noncomputable def l0 (J:Nat→Nat→Nat→St→Option Bool→Option Bool) (m:Nat) (p ms:List Nat) (M:Nat) (σ:St):=loopAt Tryz.prog env (ct m) J (m+1) 6 37 Tryz.f6 d5 p ms M σ
noncomputable def s0_1 (x0:List Dt) (x1:ByteArray) (x2:List Dt) (x3:Dt):St:=⟨tsOf [(1,(.dat 22 (.lst x0))),(2,(.dat 9 (.str x1))),(3,(.dat 23 (.lst x2))),(4,(.ptr 0 [] 0))],[(.box 49 (.dat 49 x3))],0⟩
noncomputable def s0_0 (x0:List Dt) (x1:ByteArray) (x2:List Dt) (x3:Bool) (x4:Dt):St:=⟨tsOf [(1,(.dat 22 (.lst x0))),(2,(.dat 9 (.str x1))),(3,(.dat 23 (.lst x2))),(4,(.ptr 0 [] 0)),(21,(.dat 4 (.bool x3)))],[(.box 49 (.dat 49 x4))],0⟩
theorem law36_ReshapeNear_j1_eq m x0 x1 x2 x3:e0 jn m [1,1] [] (s0_1 x0 x1 x2 x3)=law36_ReshapeNear_j1 m x0 x1 x2 x3:=
 tre (g:=fun J=>((reshape_Near m x3 x0 x1 x2).bind fun r2=>
  ((ref36_Near m x3 x0 x1 x2).bind fun r3=>
  ((law03_SameList m r2 r3).bind fun r4=>
  (bif r4 then
  ((awakeC).bind fun r5=>
  some r5)
  else
  some false))))) (fun J=>by kernel_rfl) (by rfl)
theorem law36_ReshapeNear_j0_eq m x0 x1 x2 x3 x4:e0 jn m [1,0,1] [] (s0_0 x0 x1 x2 x3 x4)=law36_ReshapeNear_j0 m x0 x1 x2 x3 x4:=
 tre (g:=fun J=>(bif x3 then
  ((awakeC).bind fun r1=>
  some r1)
   else
  (jj J 0 3 0 (s0_1 x0 x1 x2 x4) (e0 J m [1,1] [])))) (fun J=>by kernel_rfl) (by simp only[jj_eq,law36_ReshapeNear_j1_eq m];rfl)
theorem law36_ReshapeNear_eq m a0 a1 a2 a3:e0 jn m [] [] ⟨[(.dat 49 a0),(.dat 22 (.lst a1)),(.dat 9 (.str a2)),(.dat 23 (.lst a3))],[],0⟩=law36_ReshapeNear (m+1) a0 a1 a2 a3:=
 tre (g:=fun J=>((law36_valid m a3).bind fun r0=>
  (bif (Bool.not r0) then
  (jj J 0 2 0 (s0_0 a1 a2 a3 true a0) (e0 J m [1,0,1] []))
  else
  ((ref04_Valid m a1).bind fun r6=>
  (bif (Bool.not r6) then
  (jj J 0 2 0 (s0_0 a1 a2 a3 true a0) (e0 J m [1,0,1] []))
  else
  ((law36_named m a2).bind fun r7=>
  (jj J 0 2 0 (s0_0 a1 a2 a3 (Bool.not r7) a0) (e0 J m [1,0,1] [])))))))) (fun J=>by kernel_rfl) (by simp only[jj_eq,law36_ReshapeNear_j0_eq m];rfl)
end Go.Proofs.YtameompfdamfpaaGreatDoor
