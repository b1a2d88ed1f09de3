/- Generated: each function's run in the abstract machine is its shallow function. -/
import Derived.Test.YtameompfdamfpaaGreatDoorCt
import Derived.Test.YtameompfdamfpaaGreatDoorAmEnv
import Derived.KernelRfl
set_option linter.unusedVariables false
set_option linter.unusedSimpArgs false
namespace Go.Proofs.YtameompfdamfpaaGreatDoor
open Go.Am
set_option maxRecDepth 100000
def w5_0:List Nat:=[1,1,0,1,0]
def w5_2:List Nat:=[1,1,0,1,0,0,1,1]
def w5_1:List Nat:=w5_2++[1]
noncomputable def e5 (J:Nat→Nat→Nat→St→Option Bool→Option Bool) (m:Nat) (p ms:List Nat) (σ:St):=evAt Tryz.prog env (ct m) J (m+1) 14 27 Tryz.f14 d5 p ms σ
noncomputable def l5 (J:Nat→Nat→Nat→St→Option Bool→Option Bool) (m:Nat) (p ms:List Nat) (M:Nat) (σ:St):=loopAt Tryz.prog env (ct m) J (m+1) 14 27 Tryz.f14 d5 p ms M σ
noncomputable def s5_4 (x0 x1:List Dt) (x2 x3:Int):St:=⟨tsOf [(0,(.dat 23 (.lst x0))),(1,(.dat 23 (.lst x1))),(12,(.dat 3 (.int x2))),(13,(.dat 3 (.int x3)))],[],0⟩
noncomputable def s5_5:St:=⟨tsOf [],[],0⟩
noncomputable def s5_0 (x0 x1:List Dt):St:=⟨tsOf [(0,(.dat 23 (.lst x0))),(1,(.dat 23 (.lst x1)))],[],0⟩
abbrev H5_2 (m M2:Nat) (rec2:List Dt→List Dt→Int→Int→Option Bool):Prop:=∀x0 x1 x2 x3,l5 jn m w5_0 [] M2 (s5_4 x0 x1 x2 x3)=rec2 x0 x1 x2 x3
theorem law03_SameList_j4_eq m M2 rec2 (h2:H5_2 m M2 rec2) x0 x1 x2 x3:e5 jn m w5_1 [M2] (s5_4 x0 x1 x2 x3)=law03_SameList_j4 m (law03_Same m) rec2 x0 x1 x2 x3:=
 tre (g:=fun J=>(jj J 1 4 M2 (s5_4 x0 x1 x2 (IntKind.wrap .i64 (x3+1))) (l5 J m w5_0 [] M2))) (fun J=>by kernel_rfl) (by simp only[jj_eq,h2];rfl)
theorem law03_SameList_j3_eq m M2 rec2 (h2:H5_2 m M2 rec2) x0 x1 x2 x3:e5 jn m w5_2 [M2] (s5_4 x0 x1 x2 x3)=law03_SameList_j3 m (law03_Same m) rec2 x0 x1 x2 x3:=
 tre (g:=fun J=>((idx x0 x3).bind fun v0=>
  ((idx x1 x3).bind fun v1=>
  ((law03_Same m v0 v1).bind fun r2=>
  (bif (Bool.not r2) then
  some false
  else
  (jj J 0 8 0 (s5_4 x0 x1 x2 x3) (e5 J m w5_1 [M2]))))))) (fun J=>by kernel_rfl) (by simp only[jj_eq,law03_SameList_j4_eq m M2 rec2 h2];rfl)
theorem law03_SameList_j5_eq m:e5 jn m [1,1,1] [] s5_5=law03_SameList_j5 m (law03_Same m):=
 tre (g:=fun J=>some true) (fun J=>by kernel_rfl) (by rfl)
theorem law03_SameList_l2_eq m:∀M2 x0 x1 x2 x3,l5 jn m w5_0 [] M2 (s5_4 x0 x1 x2 x3)=law03_SameList_l2 m (law03_Same m) M2 x0 x1 x2 x3
 |0,_,_,_,_=>rfl
 | M2+1,x0,x1,x2,x3=>
   trl (g:=fun J=>(bif (decide (x3<x2)) then
  (jj J 0 5 0 (s5_4 x0 x1 x2 x3) (e5 J m w5_2 [M2]))
   else
  (jj J 0 9 0 s5_5 (e5 J m [1,1,1] [])))) (fun J=>by kernel_rfl) (by simp only[jj_eq,law03_SameList_j3_eq m M2 (law03_SameList_l2 m (law03_Same m) M2) (law03_SameList_l2_eq m M2),law03_SameList_j5_eq m];rfl)
theorem law03_SameList_j1_eq m x0 x1 x2 x3:e5 jn m [1,1,0,1] [] (s5_4 x0 x1 x2 x3)=law03_SameList_j1 m (law03_Same m) x0 x1 x2 x3:=
 tre (g:=fun J=>(jj J 1 4 (Nat.succ m) (s5_4 x0 x1 x2 x3) (l5 J m w5_0 [] (Nat.succ m)))) (fun J=>by kernel_rfl) (by simp only[jj_eq,law03_SameList_l2_eq m];rfl)
theorem law03_SameList_j0_eq m x0 x1:e5 jn m [1,1] [] (s5_0 x0 x1)=law03_SameList_j0 m (law03_Same m) x0 x1:=
 tre (g:=fun J=>(jj J 0 4 0 (s5_4 x0 x1 (List.length x0:Int) 0) (e5 J m [1,1,0,1] []))) (fun J=>by kernel_rfl) (by simp only[jj_eq,law03_SameList_j1_eq m];rfl)
theorem law03_SameList_eq m a0 a1:e5 jn m [] [] ⟨[(.dat 23 (.lst a0)),(.dat 23 (.lst a1))],[],0⟩=law03_SameList (m+1) a0 a1:=
 tre (g:=fun J=>(bif ((List.length a0:Int) !=(List.length a1:Int)) then
  some false
   else
  (jj J 0 3 0 (s5_0 a0 a1) (e5 J m [1,1] [])))) (fun J=>by kernel_rfl) (by simp only[jj_eq,law03_SameList_j0_eq m];rfl)
def w18_0:List Nat:=[1,1,0,1,0]
def w18_3:List Nat:=[1,1,0,1,0,0,1,1]
def w18_1:List Nat:=w18_3++[1]
def w18_2:List Nat:=w18_3++[0,0,1,1]
noncomputable def e18 (J:Nat→Nat→Nat→St→Option Bool→Option Bool) (m:Nat) (p ms:List Nat) (σ:St):=evAt Tryz.prog env (ct m) J (m+1) 46 75 Tryz.f46 d5 p ms σ
noncomputable def l18 (J:Nat→Nat→Nat→St→Option Bool→Option Bool) (m:Nat) (p ms:List Nat) (M:Nat) (σ:St):=loopAt Tryz.prog env (ct m) J (m+1) 46 75 Tryz.f46 d5 p ms M σ
noncomputable def s18_6 (x0 x1:Int) (x2 x3:Dt):St:=⟨tsOf [(2,(.ptr 0 [] 0)),(3,(.ptr 1 [] 0)),(36,(.dat 3 (.int x0))),(37,(.dat 3 (.int x1)))],[(.box 33 (.dat 33 x2)),(.box 33 (.dat 33 x3))],0⟩
noncomputable def s18_5 (x0 x1:Int) (x2:Bool) (x3 x4:Dt):St:=⟨tsOf [(2,(.ptr 0 [] 0)),(3,(.ptr 1 [] 0)),(36,(.dat 3 (.int x0))),(37,(.dat 3 (.int x1))),(68,(.dat 4 (.bool x2)))],[(.box 33 (.dat 33 x3)),(.box 33 (.dat 33 x4))],0⟩
noncomputable def s18_7 (x0 x1:Dt):St:=⟨tsOf [(2,(.ptr 0 [] 0)),(3,(.ptr 1 [] 0))],[(.box 33 (.dat 33 x0)),(.box 33 (.dat 33 x1))],0⟩
noncomputable def s18_0 (x0:Bool) (x1 x2:Dt):St:=⟨tsOf [(2,(.ptr 0 [] 0)),(3,(.ptr 1 [] 0)),(33,(.dat 4 (.bool x0)))],[(.box 33 (.dat 33 x1)),(.box 33 (.dat 33 x2))],0⟩
abbrev H18_3 (m M3:Nat) (rec3:Int→Int→Dt→Dt→Option Bool):Prop:=∀x0 x1 x2 x3,l18 jn m w18_0 [] M3 (s18_6 x0 x1 x2 x3)=rec3 x0 x1 x2 x3
theorem law03_Same_j6_eq m M3 rec3 (h3:H18_3 m M3 rec3) x0 x1 x2 x3:e18 jn m w18_1 [M3] (s18_6 x0 x1 x2 x3)=law03_Same_j6 m (law03_SameList m) (law03_Same m) rec3 x0 x1 x2 x3:=
 tre (g:=fun J=>(jj J 1 4 M3 (s18_6 x0 (IntKind.wrap .i64 (x1+1)) x2 x3) (l18 J m w18_0 [] M3))) (fun J=>by kernel_rfl) (by simp only[jj_eq,h3];rfl)
theorem law03_Same_j5_eq m M3 rec3 (h3:H18_3 m M3 rec3) x0 x1 x2 x3 x4:e18 jn m w18_2 [M3] (s18_5 x0 x1 x2 x3 x4)=law03_Same_j5 m (law03_SameList m) (law03_Same m) rec3 x0 x1 x2 x3 x4:=
 tre (g:=fun J=>(bif x2 then
  some false
   else
  (jj J 0 8 0 (s18_6 x0 x1 x3 x4) (e18 J m w18_1 [M3])))) (fun J=>by kernel_rfl) (by simp only[jj_eq,law03_Same_j6_eq m M3 rec3 h3];rfl)
theorem law03_Same_j4_eq m M3 rec3 (h3:H18_3 m M3 rec3) x0 x1 x2 x3:e18 jn m w18_3 [M3] (s18_6 x0 x1 x2 x3)=law03_Same_j4 m (law03_SameList m) (law03_Same m) rec3 x0 x1 x2 x3:=
 tre (g:=fun J=>((idx (Dt.L x2 4) x1).bind fun v0=>
  ((idx (Dt.L x3 4) x1).bind fun v1=>
  (bif (Bool.not ((ByteArray.toList (Dt.S v0 0))==(ByteArray.toList (Dt.S v1 0)))) then
  (jj J 0 7 0 (s18_5 x0 x1 true x2 x3) (e18 J m w18_2 [M3]))
  else
  ((idx (Dt.L x2 4) x1).bind fun v2=>
  ((idx (Dt.L x3 4) x1).bind fun v3=>
  ((law03_Same m (Dt.fld v2 1) (Dt.fld v3 1)).bind fun r4=>
  (jj J 0 7 0 (s18_5 x0 x1 (Bool.not r4) x2 x3) (e18 J m w18_2 [M3]))))))))) (fun J=>by kernel_rfl) (by simp only[jj_eq,law03_Same_j5_eq m M3 rec3 h3];rfl)
theorem law03_Same_j7_eq m x0 x1:e18 jn m [1,1,1] [] (s18_7 x0 x1)=law03_Same_j7 m (law03_SameList m) (law03_Same m) x0 x1:=
 tre (g:=fun J=>((law03_SameList m (Dt.L x0 3) (Dt.L x1 3)).bind fun r5=>
  some r5)) (fun J=>by kernel_rfl) (by rfl)
theorem law03_Same_l3_eq m:∀M3 x0 x1 x2 x3,l18 jn m w18_0 [] M3 (s18_6 x0 x1 x2 x3)=law03_Same_l3 m (law03_SameList m) (law03_Same m) M3 x0 x1 x2 x3
 |0,_,_,_,_=>rfl
 | M3+1,x0,x1,x2,x3=>
   trl (g:=fun J=>(bif (decide (x1<x0)) then
  (jj J 0 5 0 (s18_6 x0 x1 x2 x3) (e18 J m w18_3 [M3]))
   else
  (jj J 0 9 0 (s18_7 x2 x3) (e18 J m [1,1,1] [])))) (fun J=>by kernel_rfl) (by simp only[jj_eq,law03_Same_j4_eq m M3 (law03_Same_l3 m (law03_SameList m) (law03_Same m) M3) (law03_Same_l3_eq m M3),law03_Same_j7_eq m];rfl)
theorem law03_Same_j2_eq m x0 x1 x2 x3:e18 jn m [1,1,0,1] [] (s18_6 x0 x1 x2 x3)=law03_Same_j2 m (law03_SameList m) (law03_Same m) x0 x1 x2 x3:=
 tre (g:=fun J=>(jj J 1 4 (Nat.succ m) (s18_6 x0 x1 x2 x3) (l18 J m w18_0 [] (Nat.succ m)))) (fun J=>by kernel_rfl) (by simp only[jj_eq,law03_Same_l3_eq m];rfl)
theorem law03_Same_j1_eq m x0 x1:e18 jn m [1,1] [] (s18_7 x0 x1)=law03_Same_j1 m (law03_SameList m) (law03_Same m) x0 x1:=
 tre (g:=fun J=>(jj J 0 4 0 (s18_6 (List.length (Dt.L x0 4):Int) 0 x0 x1) (e18 J m [1,1,0,1] []))) (fun J=>by kernel_rfl) (by simp only[jj_eq,law03_Same_j2_eq m];rfl)
theorem law03_Same_j0_eq m x0 x1 x2:e18 jn m [1,0,1] [] (s18_0 x0 x1 x2)=law03_Same_j0 m (law03_SameList m) (law03_Same m) x0 x1 x2:=
 tre (g:=fun J=>(bif x0 then
  some false
   else
  (jj J 0 3 0 (s18_7 x1 x2) (e18 J m [1,1] [])))) (fun J=>by kernel_rfl) (by simp only[jj_eq,law03_Same_j1_eq m];rfl)
theorem law03_Same_eq m a0 a1:e18 jn m [] [] ⟨[(.dat 33 a0),(.dat 33 a1)],[],0⟩=law03_Same (m+1) a0 a1:=
 tre (g:=fun J=>(bif ((Dt.I a0 0) !=(Dt.I a1 0)) then
  (jj J 0 2 0 (s18_0 true a0 a1) (e18 J m [1,0,1] []))
   else
  (bif ((Dt.I a0 1) !=(Dt.I a1 1)) then
  (jj J 0 2 0 (s18_0 true a0 a1) (e18 J m [1,0,1] []))
  else
  (bif (Bool.not ((ByteArray.toList (Dt.S a0 2))==(ByteArray.toList (Dt.S a1 2)))) then
  (jj J 0 2 0 (s18_0 true a0 a1) (e18 J m [1,0,1] []))
  else
  (jj J 0 2 0 (s18_0 ((List.length (Dt.L a0 4):Int) !=(List.length (Dt.L a1 4):Int)) a0 a1) (e18 J m [1,0,1] [])))))) (fun J=>by kernel_rfl) (by simp only[jj_eq,law03_Same_j0_eq m];rfl)
noncomputable def e14 (J:Nat→Nat→Nat→St→Option Dt→Option Dt) (m:Nat) (p ms:List Nat) (σ:St):=evAt Tryz.prog env (ct m) J (m+1) 51 5 Tryz.f51 d14 p ms σ
noncomputable def l14 (J:Nat→Nat→Nat→St→Option Dt→Option Dt) (m:Nat) (p ms:List Nat) (M:Nat) (σ:St):=loopAt Tryz.prog env (ct m) J (m+1) 51 5 Tryz.f51 d14 p ms M σ
theorem ref36_integer_eq m a0:e14 jn m [] [] ⟨[(.dat 3 (.int a0))],[],0⟩=ref36_integer (m+1) a0:=
 tre (g:=fun J=>some (Dt.agg [(Dt.int 3),(Dt.int a0),(Dt.str (ByteArray.mk (List.toArray []))),(Dt.lst []),(Dt.lst [])])) (fun J=>by kernel_rfl) (by rfl)
noncomputable def e17 (J:Nat→Nat→Nat→St→Option Dt→Option Dt) (m:Nat) (p ms:List Nat) (σ:St):=evAt Tryz.prog env (ct m) J (m+1) 53 2 Tryz.f53 d14 p ms σ
noncomputable def l17 (J:Nat→Nat→Nat→St→Option Dt→Option Dt) (m:Nat) (p ms:List Nat) (M:Nat) (σ:St):=loopAt Tryz.prog env (ct m) J (m+1) 53 2 Tryz.f53 d14 p ms M σ
theorem ref36_null_eq m:e17 jn m [] [] ⟨[],[],0⟩=ref36_null (m+1):=
 tre (g:=fun J=>some kz3c25e) (fun J=>by kernel_rfl) (by rfl)
def w19_0:List Nat:=[1,1,0,1,0]
def w19_3:List Nat:=[1,1,0,1,0,0,1]
def w19_1:List Nat:=w19_3++[1]
def w19_2:List Nat:=w19_3++[0,0,1]
noncomputable def e19 (J:Nat→Nat→Nat→St→Option Bool→Option Bool) (m:Nat) (p ms:List Nat) (σ:St):=evAt Tryz.prog env (ct m) J (m+1) 42 39 Tryz.f42 d5 p ms σ
noncomputable def l19 (J:Nat→Nat→Nat→St→Option Bool→Option Bool) (m:Nat) (p ms:List Nat) (M:Nat) (σ:St):=loopAt Tryz.prog env (ct m) J (m+1) 42 39 Tryz.f42 d5 p ms M σ
noncomputable def s19_6 (x0:ByteArray) (x1:Int):St:=⟨tsOf [(0,(.dat 9 (.str x0))),(3,(.dat 3 (.int x1)))],[],0⟩
noncomputable def s19_5 (x0:ByteArray) (x1:Int) (x2:Bool):St:=⟨tsOf [(0,(.dat 9 (.str x0))),(3,(.dat 3 (.int x1))),(38,(.dat 4 (.bool x2)))],[],0⟩
noncomputable def s19_7:St:=⟨tsOf [],[],0⟩
noncomputable def s19_1 (x0:ByteArray):St:=⟨tsOf [(0,(.dat 9 (.str x0)))],[],0⟩
noncomputable def s19_0 (x0:ByteArray) (x1:Bool):St:=⟨tsOf [(0,(.dat 9 (.str x0))),(16,(.dat 4 (.bool x1)))],[],0⟩
abbrev H19_3 (m M3:Nat) (rec3:ByteArray→Int→Option Bool):Prop:=∀x0 x1,l19 jn m w19_0 [] M3 (s19_6 x0 x1)=rec3 x0 x1
theorem ref01_Name_j6_eq m M3 rec3 (h3:H19_3 m M3 rec3) x0 x1:e19 jn m w19_1 [M3] (s19_6 x0 x1)=ref01_Name_j6 m rec3 x0 x1:=
 tre (g:=fun J=>(jj J 1 4 M3 (s19_6 x0 (IntKind.wrap .i64 (x1+1))) (l19 J m w19_0 [] M3))) (fun J=>by kernel_rfl) (by simp only[jj_eq,h3];rfl)
theorem ref01_Name_j5_eq m M3 rec3 (h3:H19_3 m M3 rec3) x0 x1 x2:e19 jn m w19_2 [M3] (s19_5 x0 x1 x2)=ref01_Name_j5 m rec3 x0 x1 x2:=
 tre (g:=fun J=>(bif x2 then
  some false
   else
  (jj J 0 5 0 (s19_6 x0 x1) (e19 J m w19_1 [M3])))) (fun J=>by kernel_rfl) (by simp only[jj_eq,ref01_Name_j6_eq m M3 rec3 h3];rfl)
theorem ref01_Name_j4_eq m M3 rec3 (h3:H19_3 m M3 rec3) x0 x1:e19 jn m w19_3 [M3] (s19_6 x0 x1)=ref01_Name_j4 m rec3 x0 x1:=
 tre (g:=fun J=>((idxS x0 x1).bind fun v0=>
  (bif (decide (v0<33)) then
  (jj J 0 7 0 (s19_5 x0 x1 true) (e19 J m w19_2 [M3]))
  else
  ((idxS x0 x1).bind fun v1=>
  (bif (decide (126<v1)) then
  (jj J 0 7 0 (s19_5 x0 x1 true) (e19 J m w19_2 [M3]))
  else
  ((idxS x0 x1).bind fun v2=>
  (jj J 0 7 0 (s19_5 x0 x1 (v2==46)) (e19 J m w19_2 [M3])))))))) (fun J=>by kernel_rfl) (by simp only[jj_eq,ref01_Name_j5_eq m M3 rec3 h3];rfl)
theorem ref01_Name_j7_eq m:e19 jn m [1,1,1] [] s19_7=ref01_Name_j7 m:=
 tre (g:=fun J=>some true) (fun J=>by kernel_rfl) (by rfl)
theorem ref01_Name_l3_eq m:∀M3 x0 x1,l19 jn m w19_0 [] M3 (s19_6 x0 x1)=ref01_Name_l3 m M3 x0 x1
 |0,_,_=>rfl
 | M3+1,x0,x1=>
   trl (g:=fun J=>(bif (decide (x1<(ByteArray.size x0:Int))) then
  (jj J 0 6 0 (s19_6 x0 x1) (e19 J m w19_3 [M3]))
   else
  (jj J 0 8 0 s19_7 (e19 J m [1,1,1] [])))) (fun J=>by kernel_rfl) (by simp only[jj_eq,ref01_Name_j4_eq m M3 (ref01_Name_l3 m M3) (ref01_Name_l3_eq m M3),ref01_Name_j7_eq m];rfl)
theorem ref01_Name_j2_eq m x0 x1:e19 jn m [1,1,0,1] [] (s19_6 x0 x1)=ref01_Name_j2 m x0 x1:=
 tre (g:=fun J=>(jj J 1 4 (Nat.succ m) (s19_6 x0 x1) (l19 J m w19_0 [] (Nat.succ m)))) (fun J=>by kernel_rfl) (by simp only[jj_eq,ref01_Name_l3_eq m];rfl)
theorem ref01_Name_j1_eq m x0:e19 jn m [1,1] [] (s19_1 x0)=ref01_Name_j1 m x0:=
 tre (g:=fun J=>(jj J 0 4 0 (s19_6 x0 0) (e19 J m [1,1,0,1] []))) (fun J=>by kernel_rfl) (by simp only[jj_eq,ref01_Name_j2_eq m];rfl)
theorem ref01_Name_j0_eq m x0 x1:e19 jn m [1,0,1] [] (s19_0 x0 x1)=ref01_Name_j0 m x0 x1:=
 tre (g:=fun J=>(bif x1 then
  some false
   else
  (jj J 0 3 0 (s19_1 x0) (e19 J m [1,1] [])))) (fun J=>by kernel_rfl) (by simp only[jj_eq,ref01_Name_j1_eq m];rfl)
theorem ref01_Name_eq m a0:e19 jn m [] [] ⟨[(.dat 9 (.str a0))],[],0⟩=ref01_Name (m+1) a0:=
 tre (g:=fun J=>(bif (decide ((ByteArray.size a0:Int)<1)) then
  (jj J 0 2 0 (s19_0 a0 true) (e19 J m [1,0,1] []))
   else
  (bif (decide (32<(ByteArray.size a0:Int))) then
  (jj J 0 2 0 (s19_0 a0 true) (e19 J m [1,0,1] []))
  else
  ((idxS a0 0).bind fun v3=>
  (jj J 0 2 0 (s19_0 a0 (v3==36)) (e19 J m [1,0,1] [])))))) (fun J=>by kernel_rfl) (by simp only[jj_eq,ref01_Name_j0_eq m];rfl)
def w6_0:List Nat:=[1,1,0,1,0]
def w6_2:List Nat:=[1,1,0,1,0,0,1]
def w6_1:List Nat:=w6_2++[1]
noncomputable def e6 (J:Nat→Nat→Nat→St→Option Bool→Option Bool) (m:Nat) (p ms:List Nat) (σ:St):=evAt Tryz.prog env (ct m) J (m+1) 11 24 Tryz.f11 d5 p ms σ
noncomputable def l6 (J:Nat→Nat→Nat→St→Option Bool→Option Bool) (m:Nat) (p ms:List Nat) (M:Nat) (σ:St):=loopAt Tryz.prog env (ct m) J (m+1) 11 24 Tryz.f11 d5 p ms M σ
noncomputable def s6_5 (x0:List Dt) (x1:Int):St:=⟨tsOf [(0,(.dat 22 (.lst x0))),(3,(.dat 3 (.int x1)))],[],0⟩
noncomputable def s6_6:St:=⟨tsOf [],[],0⟩
noncomputable def s6_1 (x0:List Dt):St:=⟨tsOf [(0,(.dat 22 (.lst x0)))],[],0⟩
noncomputable def s6_0 (x0:List Dt) (x1:Bool):St:=⟨tsOf [(0,(.dat 22 (.lst x0))),(11,(.dat 4 (.bool x1)))],[],0⟩
abbrev H6_3 (m M3:Nat) (rec3:List Dt→Int→Option Bool):Prop:=∀x0 x1,l6 jn m w6_0 [] M3 (s6_5 x0 x1)=rec3 x0 x1
theorem ref04_Valid_j5_eq m M3 rec3 (h3:H6_3 m M3 rec3) x0 x1:e6 jn m w6_1 [M3] (s6_5 x0 x1)=ref04_Valid_j5 m rec3 x0 x1:=
 tre (g:=fun J=>(jj J 1 4 M3 (s6_5 x0 (IntKind.wrap .i64 (x1+1))) (l6 J m w6_0 [] M3))) (fun J=>by kernel_rfl) (by simp only[jj_eq,h3];rfl)
theorem ref04_Valid_j4_eq m M3 rec3 (h3:H6_3 m M3 rec3) x0 x1:e6 jn m w6_2 [M3] (s6_5 x0 x1)=ref04_Valid_j4 m rec3 x0 x1:=
 tre (g:=fun J=>((idx x0 x1).bind fun v0=>
  ((ref01_Name m (Dt.toStr v0)).bind fun r1=>
  (bif (Bool.not r1) then
  some false
  else
  (jj J 0 5 0 (s6_5 x0 x1) (e6 J m w6_1 [M3])))))) (fun J=>by kernel_rfl) (by simp only[jj_eq,ref04_Valid_j5_eq m M3 rec3 h3];rfl)
theorem ref04_Valid_j6_eq m:e6 jn m [1,1,1] [] s6_6=ref04_Valid_j6 m:=
 tre (g:=fun J=>some true) (fun J=>by kernel_rfl) (by rfl)
theorem ref04_Valid_l3_eq m:∀M3 x0 x1,l6 jn m w6_0 [] M3 (s6_5 x0 x1)=ref04_Valid_l3 m M3 x0 x1
 |0,_,_=>rfl
 | M3+1,x0,x1=>
   trl (g:=fun J=>(bif (decide (x1<(List.length x0:Int))) then
  (jj J 0 6 0 (s6_5 x0 x1) (e6 J m w6_2 [M3]))
   else
  (jj J 0 8 0 s6_6 (e6 J m [1,1,1] [])))) (fun J=>by kernel_rfl) (by simp only[jj_eq,ref04_Valid_j4_eq m M3 (ref04_Valid_l3 m M3) (ref04_Valid_l3_eq m M3),ref04_Valid_j6_eq m];rfl)
theorem ref04_Valid_j2_eq m x0 x1:e6 jn m [1,1,0,1] [] (s6_5 x0 x1)=ref04_Valid_j2 m x0 x1:=
 tre (g:=fun J=>(jj J 1 4 (Nat.succ m) (s6_5 x0 x1) (l6 J m w6_0 [] (Nat.succ m)))) (fun J=>by kernel_rfl) (by simp only[jj_eq,ref04_Valid_l3_eq m];rfl)
theorem ref04_Valid_j1_eq m x0:e6 jn m [1,1] [] (s6_1 x0)=ref04_Valid_j1 m x0:=
 tre (g:=fun J=>(jj J 0 4 0 (s6_5 x0 0) (e6 J m [1,1,0,1] []))) (fun J=>by kernel_rfl) (by simp only[jj_eq,ref04_Valid_j2_eq m];rfl)
theorem ref04_Valid_j0_eq m x0 x1:e6 jn m [1,0,1] [] (s6_0 x0 x1)=ref04_Valid_j0 m x0 x1:=
 tre (g:=fun J=>(bif x1 then
  some false
   else
  (jj J 0 3 0 (s6_1 x0) (e6 J m [1,1] [])))) (fun J=>by kernel_rfl) (by simp only[jj_eq,ref04_Valid_j1_eq m];rfl)
theorem ref04_Valid_eq m a0:e6 jn m [] [] ⟨[(.dat 22 (.lst a0))],[],0⟩=ref04_Valid (m+1) a0:=
 tre (g:=fun J=>(bif (decide ((List.length a0:Int)<1)) then
  (jj J 0 2 0 (s6_0 a0 true) (e6 J m [1,0,1] []))
   else
  (jj J 0 2 0 (s6_0 a0 (decide (16<(List.length a0:Int)))) (e6 J m [1,0,1] [])))) (fun J=>by kernel_rfl) (by simp only[jj_eq,ref04_Valid_j0_eq m];rfl)
noncomputable def e7 (J:Nat→Nat→Nat→St→Option Bool→Option Bool) (m:Nat) (p ms:List Nat) (σ:St):=evAt Tryz.prog env (ct m) J (m+1) 12 10 Tryz.f12 d5 p ms σ
noncomputable def l7 (J:Nat→Nat→Nat→St→Option Bool→Option Bool) (m:Nat) (p ms:List Nat) (M:Nat) (σ:St):=loopAt Tryz.prog env (ct m) J (m+1) 12 10 Tryz.f12 d5 p ms M σ
theorem law36_named_eq m a0:e7 jn m [] [] ⟨[(.dat 9 (.str a0))],[],0⟩=law36_named (m+1) a0:=
 tre (g:=fun J=>(bif ((ByteArray.toList a0)==[]) then
  some true
   else
  ((ref04_Valid m [(Dt.str a0)]).bind fun r0=>
  some r0))) (fun J=>by kernel_rfl) (by rfl)
noncomputable def e23 (J:Nat→Nat→Nat→St→Option Dt→Option Dt) (m:Nat) (p ms:List Nat) (σ:St):=evAt Tryz.prog env (ct m) J (m+1) 62 5 Tryz.f62 d14 p ms σ
noncomputable def l23 (J:Nat→Nat→Nat→St→Option Dt→Option Dt) (m:Nat) (p ms:List Nat) (M:Nat) (σ:St):=loopAt Tryz.prog env (ct m) J (m+1) 62 5 Tryz.f62 d14 p ms M σ
theorem reshape_integer_eq m a0:e23 jn m [] [] ⟨[(.dat 3 (.int a0))],[],0⟩=reshape_integer (m+1) a0:=
 tre (g:=fun J=>some (Dt.agg [(Dt.int 3),(Dt.int a0),(Dt.str (ByteArray.mk (List.toArray []))),(Dt.lst []),(Dt.lst [])])) (fun J=>by kernel_rfl) (by rfl)
def w25_6:List Nat:=[1,1,1,1,1]
def w25_8:List Nat:=[1,1,1,0,1]
def w25_0:List Nat:=[1,1,1,0,1,0]
def w25_7:List Nat:=[1,1,1,1,0,1]
def w25_3:List Nat:=w25_7++[0]
def w25_2:List Nat:=w25_0++[0,1,1]
def w25_1:List Nat:=w25_2++[1]
def w25_5:List Nat:=w25_3++[0,1,1]
def w25_4:List Nat:=w25_5++[1]
noncomputable def e25 (J:Nat→Nat→Nat→St→Option Dt→Option Dt) (m:Nat) (p ms:List Nat) (σ:St):=evAt Tryz.prog env (ct m) J (m+1) 72 46 Tryz.f72 d14 p ms σ
noncomputable def l25 (J:Nat→Nat→Nat→St→Option Dt→Option Dt) (m:Nat) (p ms:List Nat) (M:Nat) (σ:St):=loopAt Tryz.prog env (ct m) J (m+1) 72 46 Tryz.f72 d14 p ms M σ
noncomputable def s25_3 (x0:List Dt) (x1 x2:Int) (x3 x4:Dt) (x5 x6:Int) (x7:ByteArray) (x8 x9:List Dt):St:=⟨tsOf [(1,(.ptr 0 [] 0)),(2,(.ptr 1 [] 0)),(3,(.ptr 2 [] 0)),(12,(.dat 23 (.lst x0))),(13,(.dat 3 (.int x1))),(14,(.dat 3 (.int x2)))],[(.box 33 (.dat 33 x3)),(.box 33 (.dat 33 x4)),(.box 33 (.agg 33 [(.dat 3 (.int x5)),(.dat 3 (.int x6)),(.dat 9 (.str x7)),(.row 3),(.row 4)])),(.row 23 x8),(.row 31 x9)],0⟩
noncomputable def s25_8 (x0:List Dt) (x1 x2:Int) (x3:Dt) (x4 x5:Int) (x6:ByteArray) (x7 x8:List Dt):St:=⟨tsOf [(2,(.ptr 0 [] 0)),(3,(.ptr 1 [] 0)),(27,(.dat 31 (.lst x0))),(28,(.dat 3 (.int x1))),(29,(.dat 3 (.int x2)))],[(.box 33 (.dat 33 x3)),(.box 33 (.agg 33 [(.dat 3 (.int x4)),(.dat 3 (.int x5)),(.dat 9 (.str x6)),(.row 2),(.row 3)])),(.row 23 x7),(.row 31 x8)],0⟩
noncomputable def s25_9 (x0:Dt) (x1 x2:Int) (x3:ByteArray) (x4 x5:List Dt):St:=⟨tsOf [(2,(.ptr 0 [] 0)),(3,(.ptr 1 [] 0))],[(.box 33 (.dat 33 x0)),(.box 33 (.agg 33 [(.dat 3 (.int x1)),(.dat 3 (.int x2)),(.dat 9 (.str x3)),(.row 2),(.row 3)])),(.row 23 x4),(.row 31 x5)],0⟩
noncomputable def s25_4 (x0 x1:Dt) (x2 x3:Int) (x4:ByteArray) (x5 x6:List Dt):St:=⟨tsOf [(1,(.ptr 0 [] 0)),(2,(.ptr 1 [] 0)),(3,(.ptr 2 [] 0))],[(.box 33 (.dat 33 x0)),(.box 33 (.dat 33 x1)),(.box 33 (.agg 33 [(.dat 3 (.int x2)),(.dat 3 (.int x3)),(.dat 9 (.str x4)),(.row 3),(.row 4)])),(.row 23 x5),(.row 31 x6)],0⟩
abbrev H25_1 (m M1:Nat) (rec1:List Dt→Int→Int→Dt→Dt→Int→Int→ByteArray→List Dt→List Dt→Option Dt):Prop:=∀x0 x1 x2 x3 x4 x5 x6 x7 x8 x9,l25 jn m w25_0 [] M1 (s25_3 x0 x1 x2 x3 x4 x5 x6 x7 x8 x9)=rec1 x0 x1 x2 x3 x4 x5 x6 x7 x8 x9
theorem reshape_copyValue_j3_eq m M1 rec1 (h1:H25_1 m M1 rec1) x0 x1 x2 x3 x4 x5 x6 x7 x8 x9:e25 jn m w25_1 [M1] (s25_3 x0 x1 x2 x3 x4 x5 x6 x7 x8 x9)=reshape_copyValue_j3 m (reshape_copyValue m) rec1 x0 x1 x2 x3 x4 x5 x6 x7 x8 x9:=
 tre (g:=fun J=>(jj J 1 4 M1 (s25_3 x0 x1 (IntKind.wrap .i64 (x2+1)) x3 x4 x5 x6 x7 x8 x9) (l25 J m w25_0 [] M1))) (fun J=>by kernel_rfl) (by simp only[jj_eq,h1];rfl)
theorem reshape_copyValue_j2_eq m M1 rec1 (h1:H25_1 m M1 rec1) x0 x1 x2 x3 x4 x5 x6 x7 x8 x9:e25 jn m w25_2 [M1] (s25_3 x0 x1 x2 x3 x4 x5 x6 x7 x8 x9)=reshape_copyValue_j2 m (reshape_copyValue m) rec1 x0 x1 x2 x3 x4 x5 x6 x7 x8 x9:=
 tre (g:=fun J=>((idx x0 x2).bind fun v0=>
  ((reshape_copyValue m v0).bind fun r1=>
  ((app x8 [r1]).bind fun v2=>
  (jj J 0 7 0 (s25_3 x0 x1 x2 x3 x4 x5 x6 x7 v2 x9) (e25 J m w25_1 [M1])))))) (fun J=>by kernel_rfl) (by simp only[jj_eq,reshape_copyValue_j3_eq m M1 rec1 h1];rfl)
abbrev H25_6 (m M6:Nat) (rec6:List Dt→Int→Int→Dt→Int→Int→ByteArray→List Dt→List Dt→Option Dt):Prop:=∀x0 x1 x2 x3 x4 x5 x6 x7 x8,l25 jn m w25_3 [] M6 (s25_8 x0 x1 x2 x3 x4 x5 x6 x7 x8)=rec6 x0 x1 x2 x3 x4 x5 x6 x7 x8
theorem reshape_copyValue_j8_eq m M6 rec6 (h6:H25_6 m M6 rec6) x0 x1 x2 x3 x4 x5 x6 x7 x8:e25 jn m w25_4 [M6] (s25_8 x0 x1 x2 x3 x4 x5 x6 x7 x8)=reshape_copyValue_j8 m (reshape_copyValue m) rec6 x0 x1 x2 x3 x4 x5 x6 x7 x8:=
 tre (g:=fun J=>(jj J 1 9 M6 (s25_8 x0 x1 (IntKind.wrap .i64 (x2+1)) x3 x4 x5 x6 x7 x8) (l25 J m w25_3 [] M6))) (fun J=>by kernel_rfl) (by simp only[jj_eq,h6];rfl)
theorem reshape_copyValue_j7_eq m M6 rec6 (h6:H25_6 m M6 rec6) x0 x1 x2 x3 x4 x5 x6 x7 x8:e25 jn m w25_5 [M6] (s25_8 x0 x1 x2 x3 x4 x5 x6 x7 x8)=reshape_copyValue_j7 m (reshape_copyValue m) rec6 x0 x1 x2 x3 x4 x5 x6 x7 x8:=
 tre (g:=fun J=>((idx x0 x2).bind fun v3=>
  ((reshape_copyValue m (Dt.fld v3 1)).bind fun r4=>
  ((app x8 [(Dt.agg [(Dt.str (Dt.S v3 0)),r4])]).bind fun v5=>
  (jj J 0 12 0 (s25_8 x0 x1 x2 x3 x4 x5 x6 x7 v5) (e25 J m w25_4 [M6])))))) (fun J=>by kernel_rfl) (by simp only[jj_eq,reshape_copyValue_j8_eq m M6 rec6 h6];rfl)
theorem reshape_copyValue_j9_eq m x0 x1 x2 x3 x4 x5:e25 jn m w25_6 [] (s25_9 x0 x1 x2 x3 x4 x5)=reshape_copyValue_j9 m (reshape_copyValue m) x0 x1 x2 x3 x4 x5:=
 tre (g:=fun J=>some (Dt.agg [(Dt.int x1),(Dt.int x2),(Dt.str x3),(Dt.lst x4),(Dt.lst x5)])) (fun J=>by kernel_rfl) (by rfl)
theorem reshape_copyValue_l6_eq m:∀M6 x0 x1 x2 x3 x4 x5 x6 x7 x8,l25 jn m w25_3 [] M6 (s25_8 x0 x1 x2 x3 x4 x5 x6 x7 x8)=reshape_copyValue_l6 m (reshape_copyValue m) M6 x0 x1 x2 x3 x4 x5 x6 x7 x8
 |0,_,_,_,_,_,_,_,_,_=>rfl
 | M6+1,x0,x1,x2,x3,x4,x5,x6,x7,x8=>
   trl (g:=fun J=>(bif (decide (x2<x1)) then
  (jj J 0 10 0 (s25_8 x0 x1 x2 x3 x4 x5 x6 x7 x8) (e25 J m w25_5 [M6]))
   else
  (jj J 0 13 0 (s25_9 x3 x4 x5 x6 x7 x8) (e25 J m w25_6 [])))) (fun J=>by kernel_rfl) (by simp only[jj_eq,reshape_copyValue_j7_eq m M6 (reshape_copyValue_l6 m (reshape_copyValue m) M6) (reshape_copyValue_l6_eq m M6),reshape_copyValue_j9_eq m];rfl)
theorem reshape_copyValue_j5_eq m x0 x1 x2 x3 x4 x5 x6 x7 x8:e25 jn m w25_7 [] (s25_8 x0 x1 x2 x3 x4 x5 x6 x7 x8)=reshape_copyValue_j5 m (reshape_copyValue m) x0 x1 x2 x3 x4 x5 x6 x7 x8:=
 tre (g:=fun J=>(jj J 1 9 (Nat.succ m) (s25_8 x0 x1 x2 x3 x4 x5 x6 x7 x8) (l25 J m w25_3 [] (Nat.succ m)))) (fun J=>by kernel_rfl) (by simp only[jj_eq,reshape_copyValue_l6_eq m];rfl)
theorem reshape_copyValue_j4_eq m x0 x1 x2 x3 x4 x5 x6:e25 jn m [1,1,1,1] [] (s25_4 x0 x1 x2 x3 x4 x5 x6)=reshape_copyValue_j4 m (reshape_copyValue m) x0 x1 x2 x3 x4 x5 x6:=
 tre (g:=fun J=>(jj J 0 9 0 (s25_8 (Dt.L x0 4) (List.length (Dt.L x0 4):Int) 0 x1 x2 x3 x4 x5 x6) (e25 J m w25_7 []))) (fun J=>by kernel_rfl) (by simp only[jj_eq,reshape_copyValue_j5_eq m];rfl)
theorem reshape_copyValue_l1_eq m:∀M1 x0 x1 x2 x3 x4 x5 x6 x7 x8 x9,l25 jn m w25_0 [] M1 (s25_3 x0 x1 x2 x3 x4 x5 x6 x7 x8 x9)=reshape_copyValue_l1 m (reshape_copyValue m) M1 x0 x1 x2 x3 x4 x5 x6 x7 x8 x9
 |0,_,_,_,_,_,_,_,_,_,_=>rfl
 | M1+1,x0,x1,x2,x3,x4,x5,x6,x7,x8,x9=>
   trl (g:=fun J=>(bif (decide (x2<x1)) then
  (jj J 0 5 0 (s25_3 x0 x1 x2 x3 x4 x5 x6 x7 x8 x9) (e25 J m w25_2 [M1]))
   else
  (jj J 0 8 0 (s25_4 x3 x4 x5 x6 x7 x8 x9) (e25 J m [1,1,1,1] [])))) (fun J=>by kernel_rfl) (by simp only[jj_eq,reshape_copyValue_j2_eq m M1 (reshape_copyValue_l1 m (reshape_copyValue m) M1) (reshape_copyValue_l1_eq m M1),reshape_copyValue_j4_eq m];rfl)
theorem reshape_copyValue_j0_eq m x0 x1 x2 x3 x4 x5 x6 x7 x8 x9:e25 jn m w25_8 [] (s25_3 x0 x1 x2 x3 x4 x5 x6 x7 x8 x9)=reshape_copyValue_j0 m (reshape_copyValue m) x0 x1 x2 x3 x4 x5 x6 x7 x8 x9:=
 tre (g:=fun J=>(jj J 1 4 (Nat.succ m) (s25_3 x0 x1 x2 x3 x4 x5 x6 x7 x8 x9) (l25 J m w25_0 [] (Nat.succ m)))) (fun J=>by kernel_rfl) (by simp only[jj_eq,reshape_copyValue_l1_eq m];rfl)
theorem reshape_copyValue_eq m a0:e25 jn m [] [] ⟨[(.dat 33 a0)],[],0⟩=reshape_copyValue (m+1) a0:=
 tre (g:=fun J=>(jj J 0 4 0 (s25_3 (Dt.L a0 3) (List.length (Dt.L a0 3):Int) 0 a0 kza2373 (Dt.I a0 0) (Dt.I a0 1) (Dt.S a0 2) [] []) (e25 J m w25_8 []))) (fun J=>by kernel_rfl) (by simp only[jj_eq,reshape_copyValue_j0_eq m];rfl)
def w28_5:List Nat:=[1,1,1,0,1]
def w28_0:List Nat:=[1,1,1,0,1,0]
def w28_4:List Nat:=w28_0++[0,1]
def w28_1:List Nat:=w28_4++[1]
def w28_2:List Nat:=w28_4++[0,0,1]
def w28_3:List Nat:=w28_4++[0,0,0,1]
noncomputable def e28 (J:Nat→Nat→Nat→St→Option (Int×Bool)→Option (Int×Bool)) (m:Nat) (p ms:List Nat) (σ:St):=evAt Tryz.prog env (ct m) J (m+1) 97 49 Tryz.f97 d28 p ms σ
noncomputable def l28 (J:Nat→Nat→Nat→St→Option (Int×Bool)→Option (Int×Bool)) (m:Nat) (p ms:List Nat) (M:Nat) (σ:St):=loopAt Tryz.prog env (ct m) J (m+1) 97 49 Tryz.f97 d28 p ms M σ
noncomputable def s28_7 (x0:ByteArray) (x1 x2:Int):St:=⟨tsOf [(0,(.dat 9 (.str x0))),(4,(.dat 3 (.int x1))),(5,(.dat 3 (.int x2)))],[],0⟩
noncomputable def s28_5 (x0:ByteArray) (x1 x2:Int) (x3:Bool):St:=⟨tsOf [(0,(.dat 9 (.str x0))),(4,(.dat 3 (.int x1))),(5,(.dat 3 (.int x2))),(39,(.dat 4 (.bool x3)))],[],0⟩
noncomputable def s28_8 (x0:Int):St:=⟨tsOf [(4,(.dat 3 (.int x0)))],[],0⟩
noncomputable def s28_1 (x0:ByteArray):St:=⟨tsOf [(0,(.dat 9 (.str x0)))],[],0⟩
noncomputable def s28_0 (x0:ByteArray) (x1:Bool):St:=⟨tsOf [(0,(.dat 9 (.str x0))),(23,(.dat 4 (.bool x1)))],[],0⟩
abbrev H28_3 (m M3:Nat) (rec3:ByteArray→Int→Int→Option (Int×Bool)):Prop:=∀x0 x1 x2,l28 jn m w28_0 [] M3 (s28_7 x0 x1 x2)=rec3 x0 x1 x2
theorem ref04_Number_j7_eq m M3 rec3 (h3:H28_3 m M3 rec3) x0 x1 x2:e28 jn m w28_1 [M3] (s28_7 x0 x1 x2)=ref04_Number_j7 m rec3 x0 x1 x2:=
 tre (g:=fun J=>(jj J 1 5 M3 (s28_7 x0 x1 (IntKind.wrap .i64 (x2+1))) (l28 J m w28_0 [] M3))) (fun J=>by kernel_rfl) (by simp only[jj_eq,h3];rfl)
theorem ref04_Number_j6_eq m M3 rec3 (h3:H28_3 m M3 rec3) x0 x1 x2:e28 jn m w28_2 [M3] (s28_7 x0 x1 x2)=ref04_Number_j6 m rec3 x0 x1 x2:=
 tre (g:=fun J=>((idxS x0 x2).bind fun v1=>
  (jj J 0 6 0 (s28_7 x0 (IntKind.wrap .i64 ((IntKind.wrap .i64 (x1*10))+(IntKind.wrap .i64 (IntKind.wrap IntKind.u8 (v1-48))))) x2) (e28 J m w28_1 [M3])))) (fun J=>by kernel_rfl) (by simp only[jj_eq,ref04_Number_j7_eq m M3 rec3 h3];rfl)
theorem ref04_Number_j5_eq m M3 rec3 (h3:H28_3 m M3 rec3) x0 x1 x2 x3:e28 jn m w28_3 [M3] (s28_5 x0 x1 x2 x3)=ref04_Number_j5 m rec3 x0 x1 x2 x3:=
 tre (g:=fun J=>(bif x3 then
  some (0,false)
   else
  (jj J 0 9 0 (s28_7 x0 x1 x2) (e28 J m w28_2 [M3])))) (fun J=>by kernel_rfl) (by simp only[jj_eq,ref04_Number_j6_eq m M3 rec3 h3];rfl)
theorem ref04_Number_j4_eq m M3 rec3 (h3:H28_3 m M3 rec3) x0 x1 x2:e28 jn m w28_4 [M3] (s28_7 x0 x1 x2)=ref04_Number_j4 m rec3 x0 x1 x2:=
 tre (g:=fun J=>((idxS x0 x2).bind fun v0=>
  (bif (decide (v0<48)) then
  (jj J 0 8 0 (s28_5 x0 x1 x2 true) (e28 J m w28_3 [M3]))
  else
  ((idxS x0 x2).bind fun v2=>
  (jj J 0 8 0 (s28_5 x0 x1 x2 (decide (57<v2))) (e28 J m w28_3 [M3])))))) (fun J=>by kernel_rfl) (by simp only[jj_eq,ref04_Number_j5_eq m M3 rec3 h3];rfl)
theorem ref04_Number_j8_eq m x0:e28 jn m [1,1,1,1] [] (s28_8 x0)=ref04_Number_j8 m x0:=
 tre (g:=fun J=>some (x0,true)) (fun J=>by kernel_rfl) (by rfl)
theorem ref04_Number_l3_eq m:∀M3 x0 x1 x2,l28 jn m w28_0 [] M3 (s28_7 x0 x1 x2)=ref04_Number_l3 m M3 x0 x1 x2
 |0,_,_,_=>rfl
 | M3+1,x0,x1,x2=>
   trl (g:=fun J=>(bif (decide (x2<(ByteArray.size x0:Int))) then
  (jj J 0 7 0 (s28_7 x0 x1 x2) (e28 J m w28_4 [M3]))
   else
  (jj J 0 10 0 (s28_8 x1) (e28 J m [1,1,1,1] [])))) (fun J=>by kernel_rfl) (by simp only[jj_eq,ref04_Number_j4_eq m M3 (ref04_Number_l3 m M3) (ref04_Number_l3_eq m M3),ref04_Number_j8_eq m];rfl)
theorem ref04_Number_j2_eq m x0 x1 x2:e28 jn m w28_5 [] (s28_7 x0 x1 x2)=ref04_Number_j2 m x0 x1 x2:=
 tre (g:=fun J=>(jj J 1 5 (Nat.succ m) (s28_7 x0 x1 x2) (l28 J m w28_0 [] (Nat.succ m)))) (fun J=>by kernel_rfl) (by simp only[jj_eq,ref04_Number_l3_eq m];rfl)
theorem ref04_Number_j1_eq m x0:e28 jn m [1,1] [] (s28_1 x0)=ref04_Number_j1 m x0:=
 tre (g:=fun J=>(jj J 0 5 0 (s28_7 x0 0 0) (e28 J m w28_5 []))) (fun J=>by kernel_rfl) (by simp only[jj_eq,ref04_Number_j2_eq m];rfl)
theorem ref04_Number_j0_eq m x0 x1:e28 jn m [1,0,1] [] (s28_0 x0 x1)=ref04_Number_j0 m x0 x1:=
 tre (g:=fun J=>(bif x1 then
  some (0,false)
   else
  (jj J 0 3 0 (s28_1 x0) (e28 J m [1,1] [])))) (fun J=>by kernel_rfl) (by simp only[jj_eq,ref04_Number_j1_eq m];rfl)
theorem ref04_Number_eq m a0:e28 jn m [] [] ⟨[(.dat 9 (.str a0))],[],0⟩=ref04_Number (m+1) a0:=
 tre (g:=fun J=>(bif (decide ((ByteArray.size a0:Int)<1)) then
  (jj J 0 2 0 (s28_0 a0 true) (e28 J m [1,0,1] []))
   else
  (bif (decide (4<(ByteArray.size a0:Int))) then
  (jj J 0 2 0 (s28_0 a0 true) (e28 J m [1,0,1] []))
  else
  ((idxS a0 0).bind fun v3=>
  (bif (v3==48) then
  (jj J 0 2 0 (s28_0 a0 (decide (1<(ByteArray.size a0:Int)))) (e28 J m [1,0,1] []))
  else
  (jj J 0 2 0 (s28_0 a0 false) (e28 J m [1,0,1] []))))))) (fun J=>by kernel_rfl) (by simp only[jj_eq,ref04_Number_j0_eq m];rfl)
noncomputable def e32 (J:Nat→Nat→Nat→St→Option Dt→Option Dt) (m:Nat) (p ms:List Nat) (σ:St):=evAt Tryz.prog env (ct m) J (m+1) 101 2 Tryz.f101 d14 p ms σ
noncomputable def l32 (J:Nat→Nat→Nat→St→Option Dt→Option Dt) (m:Nat) (p ms:List Nat) (M:Nat) (σ:St):=loopAt Tryz.prog env (ct m) J (m+1) 101 2 Tryz.f101 d14 p ms M σ
theorem ref01_Null_eq m:e32 jn m [] [] ⟨[],[],0⟩=ref01_Null (m+1):=
 tre (g:=fun J=>some kz3c25e) (fun J=>by kernel_rfl) (by rfl)
def w36_1:List Nat:=[1,0,1,0,0,1,1]
def w36_0:List Nat:=w36_1++[1]
noncomputable def e36 (J:Nat→Nat→Nat→St→Option Int→Option Int) (m:Nat) (p ms:List Nat) (σ:St):=evAt Tryz.prog env (ct m) J (m+1) 138 20 Tryz.f138 d36 p ms σ
noncomputable def l36 (J:Nat→Nat→Nat→St→Option Int→Option Int) (m:Nat) (p ms:List Nat) (M:Nat) (σ:St):=loopAt Tryz.prog env (ct m) J (m+1) 138 20 Tryz.f138 d36 p ms M σ
noncomputable def s36_3 (x0:List Dt) (x1:ByteArray) (x2 x3:Int):St:=⟨tsOf [(0,(.dat 31 (.lst x0))),(1,(.dat 9 (.str x1))),(7,(.dat 3 (.int x2))),(8,(.dat 3 (.int x3)))],[],0⟩
noncomputable def s36_4:St:=⟨tsOf [],[],0⟩
abbrev H36_1 (m M1:Nat) (rec1:List Dt→ByteArray→Int→Int→Option Int):Prop:=∀x0 x1 x2 x3,l36 jn m [1,0,1,0] [] M1 (s36_3 x0 x1 x2 x3)=rec1 x0 x1 x2 x3
theorem path_field_j3_eq m M1 rec1 (h1:H36_1 m M1 rec1) x0 x1 x2 x3:e36 jn m w36_0 [M1] (s36_3 x0 x1 x2 x3)=path_field_j3 m rec1 x0 x1 x2 x3:=
 tre (g:=fun J=>(jj J 1 2 M1 (s36_3 x0 x1 x2 (IntKind.wrap .i64 (x3+1))) (l36 J m [1,0,1,0] [] M1))) (fun J=>by kernel_rfl) (by simp only[jj_eq,h1];rfl)
theorem path_field_j2_eq m M1 rec1 (h1:H36_1 m M1 rec1) x0 x1 x2 x3:e36 jn m w36_1 [M1] (s36_3 x0 x1 x2 x3)=path_field_j2 m rec1 x0 x1 x2 x3:=
 tre (g:=fun J=>((idx x0 x3).bind fun v0=>
  (bif ((ByteArray.toList (Dt.S v0 0))==(ByteArray.toList x1)) then
  some x3
  else
  (jj J 0 6 0 (s36_3 x0 x1 x2 x3) (e36 J m w36_0 [M1]))))) (fun J=>by kernel_rfl) (by simp only[jj_eq,path_field_j3_eq m M1 rec1 h1];rfl)
theorem path_field_j4_eq m:e36 jn m [1,1] [] s36_4=path_field_j4 m:=
 tre (g:=fun J=>some (-1)) (fun J=>by kernel_rfl) (by rfl)
theorem path_field_l1_eq m:∀M1 x0 x1 x2 x3,l36 jn m [1,0,1,0] [] M1 (s36_3 x0 x1 x2 x3)=path_field_l1 m M1 x0 x1 x2 x3
 |0,_,_,_,_=>rfl
 | M1+1,x0,x1,x2,x3=>
   trl (g:=fun J=>(bif (decide (x3<x2)) then
  (jj J 0 3 0 (s36_3 x0 x1 x2 x3) (e36 J m w36_1 [M1]))
   else
  (jj J 0 7 0 s36_4 (e36 J m [1,1] [])))) (fun J=>by kernel_rfl) (by simp only[jj_eq,path_field_j2_eq m M1 (path_field_l1 m M1) (path_field_l1_eq m M1),path_field_j4_eq m];rfl)
theorem path_field_j0_eq m x0 x1 x2 x3:e36 jn m [1,0,1] [] (s36_3 x0 x1 x2 x3)=path_field_j0 m x0 x1 x2 x3:=
 tre (g:=fun J=>(jj J 1 2 (Nat.succ m) (s36_3 x0 x1 x2 x3) (l36 J m [1,0,1,0] [] (Nat.succ m)))) (fun J=>by kernel_rfl) (by simp only[jj_eq,path_field_l1_eq m];rfl)
theorem path_field_eq m a0 a1:e36 jn m [] [] ⟨[(.dat 31 (.lst a0)),(.dat 9 (.str a1))],[],0⟩=path_field (m+1) a0 a1:=
 tre (g:=fun J=>(jj J 0 2 0 (s36_3 a0 a1 (List.length a0:Int) 0) (e36 J m [1,0,1] []))) (fun J=>by kernel_rfl) (by simp only[jj_eq,path_field_j0_eq m];rfl)
def w37_5:List Nat:=[1,1,1,0,1]
def w37_0:List Nat:=[1,1,1,0,1,0]
def w37_4:List Nat:=w37_0++[0,1,1]
def w37_1:List Nat:=w37_4++[1]
def w37_2:List Nat:=w37_4++[0,0,1,1]
def w37_3:List Nat:=w37_4++[0,0,1,0,1]
noncomputable def e37 (J:Nat→Nat→Nat→St→Option (Int×Bool)→Option (Int×Bool)) (m:Nat) (p ms:List Nat) (σ:St):=evAt Tryz.prog env (ct m) J (m+1) 139 49 Tryz.f139 d28 p ms σ
noncomputable def l37 (J:Nat→Nat→Nat→St→Option (Int×Bool)→Option (Int×Bool)) (m:Nat) (p ms:List Nat) (M:Nat) (σ:St):=loopAt Tryz.prog env (ct m) J (m+1) 139 49 Tryz.f139 d28 p ms M σ
noncomputable def s37_7 (x0:ByteArray) (x1 x2 x3:Int):St:=⟨tsOf [(0,(.dat 9 (.str x0))),(4,(.dat 3 (.int x1))),(25,(.dat 3 (.int x2))),(26,(.dat 3 (.int x3)))],[],0⟩
noncomputable def s37_6 (x0:ByteArray) (x1 x2 x3 x4:Int):St:=⟨tsOf [(0,(.dat 9 (.str x0))),(4,(.dat 3 (.int x1))),(5,(.dat 3 (.int x2))),(25,(.dat 3 (.int x3))),(26,(.dat 3 (.int x4)))],[],0⟩
noncomputable def s37_5 (x0:ByteArray) (x1 x2 x3 x4:Int) (x5:Bool):St:=⟨tsOf [(0,(.dat 9 (.str x0))),(4,(.dat 3 (.int x1))),(5,(.dat 3 (.int x2))),(25,(.dat 3 (.int x3))),(26,(.dat 3 (.int x4))),(38,(.dat 4 (.bool x5)))],[],0⟩
noncomputable def s37_8 (x0:Int):St:=⟨tsOf [(4,(.dat 3 (.int x0)))],[],0⟩
noncomputable def s37_1 (x0:ByteArray):St:=⟨tsOf [(0,(.dat 9 (.str x0)))],[],0⟩
noncomputable def s37_0 (x0:ByteArray) (x1:Bool):St:=⟨tsOf [(0,(.dat 9 (.str x0))),(23,(.dat 4 (.bool x1)))],[],0⟩
abbrev H37_3 (m M3:Nat) (rec3:ByteArray→Int→Int→Int→Option (Int×Bool)):Prop:=∀x0 x1 x2 x3,l37 jn m w37_0 [] M3 (s37_7 x0 x1 x2 x3)=rec3 x0 x1 x2 x3
theorem path_Number_j7_eq m M3 rec3 (h3:H37_3 m M3 rec3) x0 x1 x2 x3:e37 jn m w37_1 [M3] (s37_7 x0 x1 x2 x3)=path_Number_j7 m rec3 x0 x1 x2 x3:=
 tre (g:=fun J=>(jj J 1 5 M3 (s37_7 x0 x1 x2 (IntKind.wrap .i64 (x3+1))) (l37 J m w37_0 [] M3))) (fun J=>by kernel_rfl) (by simp only[jj_eq,h3];rfl)
theorem path_Number_j6_eq m M3 rec3 (h3:H37_3 m M3 rec3) x0 x1 x2 x3 x4:e37 jn m w37_2 [M3] (s37_6 x0 x1 x2 x3 x4)=path_Number_j6 m rec3 x0 x1 x2 x3 x4:=
 tre (g:=fun J=>((idxS x0 x2).bind fun v1=>
  (jj J 0 10 0 (s37_7 x0 (IntKind.wrap .i64 ((IntKind.wrap .i64 (10*x1))+(IntKind.wrap .i64 (IntKind.wrap IntKind.u8 (v1-48))))) x3 x4) (e37 J m w37_1 [M3])))) (fun J=>by kernel_rfl) (by simp only[jj_eq,path_Number_j7_eq m M3 rec3 h3];rfl)
theorem path_Number_j5_eq m M3 rec3 (h3:H37_3 m M3 rec3) x0 x1 x2 x3 x4 x5:e37 jn m w37_3 [M3] (s37_5 x0 x1 x2 x3 x4 x5)=path_Number_j5 m rec3 x0 x1 x2 x3 x4 x5:=
 tre (g:=fun J=>(bif x5 then
  some (0,false)
   else
  (jj J 0 9 0 (s37_6 x0 x1 x2 x3 x4) (e37 J m w37_2 [M3])))) (fun J=>by kernel_rfl) (by simp only[jj_eq,path_Number_j6_eq m M3 rec3 h3];rfl)
theorem path_Number_j4_eq m M3 rec3 (h3:H37_3 m M3 rec3) x0 x1 x2 x3:e37 jn m w37_4 [M3] (s37_7 x0 x1 x2 x3)=path_Number_j4 m rec3 x0 x1 x2 x3:=
 tre (g:=fun J=>((idxS x0 x3).bind fun v0=>
  (bif (decide (v0<48)) then
  (jj J 0 8 0 (s37_5 x0 x1 x3 x2 x3 true) (e37 J m w37_3 [M3]))
  else
  ((idxS x0 x3).bind fun v2=>
  (jj J 0 8 0 (s37_5 x0 x1 x3 x2 x3 (decide (57<v2))) (e37 J m w37_3 [M3])))))) (fun J=>by kernel_rfl) (by simp only[jj_eq,path_Number_j5_eq m M3 rec3 h3];rfl)
theorem path_Number_j8_eq m x0:e37 jn m [1,1,1,1] [] (s37_8 x0)=path_Number_j8 m x0:=
 tre (g:=fun J=>some (x0,true)) (fun J=>by kernel_rfl) (by rfl)
theorem path_Number_l3_eq m:∀M3 x0 x1 x2 x3,l37 jn m w37_0 [] M3 (s37_7 x0 x1 x2 x3)=path_Number_l3 m M3 x0 x1 x2 x3
 |0,_,_,_,_=>rfl
 | M3+1,x0,x1,x2,x3=>
   trl (g:=fun J=>(bif (decide (x3<x2)) then
  (jj J 0 6 0 (s37_7 x0 x1 x2 x3) (e37 J m w37_4 [M3]))
   else
  (jj J 0 11 0 (s37_8 x1) (e37 J m [1,1,1,1] [])))) (fun J=>by kernel_rfl) (by simp only[jj_eq,path_Number_j4_eq m M3 (path_Number_l3 m M3) (path_Number_l3_eq m M3),path_Number_j8_eq m];rfl)
theorem path_Number_j2_eq m x0 x1 x2 x3:e37 jn m w37_5 [] (s37_7 x0 x1 x2 x3)=path_Number_j2 m x0 x1 x2 x3:=
 tre (g:=fun J=>(jj J 1 5 (Nat.succ m) (s37_7 x0 x1 x2 x3) (l37 J m w37_0 [] (Nat.succ m)))) (fun J=>by kernel_rfl) (by simp only[jj_eq,path_Number_l3_eq m];rfl)
theorem path_Number_j1_eq m x0:e37 jn m [1,1] [] (s37_1 x0)=path_Number_j1 m x0:=
 tre (g:=fun J=>(jj J 0 5 0 (s37_7 x0 0 (ByteArray.size x0:Int) 0) (e37 J m w37_5 []))) (fun J=>by kernel_rfl) (by simp only[jj_eq,path_Number_j2_eq m];rfl)
theorem path_Number_j0_eq m x0 x1:e37 jn m [1,0,1] [] (s37_0 x0 x1)=path_Number_j0 m x0 x1:=
 tre (g:=fun J=>(bif x1 then
  some (0,false)
   else
  (jj J 0 3 0 (s37_1 x0) (e37 J m [1,1] [])))) (fun J=>by kernel_rfl) (by simp only[jj_eq,path_Number_j1_eq m];rfl)
theorem path_Number_eq m a0:e37 jn m [] [] ⟨[(.dat 9 (.str a0))],[],0⟩=path_Number (m+1) a0:=
 tre (g:=fun J=>(bif (decide ((ByteArray.size a0:Int)<1)) then
  (jj J 0 2 0 (s37_0 a0 true) (e37 J m [1,0,1] []))
   else
  (bif (decide (4<(ByteArray.size a0:Int))) then
  (jj J 0 2 0 (s37_0 a0 true) (e37 J m [1,0,1] []))
  else
  ((idxS a0 0).bind fun v3=>
  (bif (v3==48) then
  (jj J 0 2 0 (s37_0 a0 (decide (1<(ByteArray.size a0:Int)))) (e37 J m [1,0,1] []))
  else
  (jj J 0 2 0 (s37_0 a0 false) (e37 J m [1,0,1] []))))))) (fun J=>by kernel_rfl) (by simp only[jj_eq,path_Number_j0_eq m];rfl)
def w38_7:List Nat:=[1,1,0,1,0,1,1]
def w38_0:List Nat:=w38_7++[0]
def w38_6:List Nat:=[1,1,1,0,1,0,1,1]
def w38_3:List Nat:=w38_6++[0]
def w38_2:List Nat:=w38_0++[0,1,1]
def w38_1:List Nat:=w38_2++[1]
def w38_5:List Nat:=w38_3++[0,1,1]
def w38_4:List Nat:=w38_5++[1]
noncomputable def e38 (J:Nat→Nat→Nat→St→Option (Int×Int×ByteArray×List Dt×List Dt)→Option (Int×Int×ByteArray×List Dt×List Dt)) (m:Nat) (p ms:List Nat) (σ:St):=evAt Tryz.prog env (ct m) J (m+1) 140 68 Tryz.f140 d38 p ms σ
noncomputable def l38 (J:Nat→Nat→Nat→St→Option (Int×Int×ByteArray×List Dt×List Dt)→Option (Int×Int×ByteArray×List Dt×List Dt)) (m:Nat) (p ms:List Nat) (M:Nat) (σ:St):=loopAt Tryz.prog env (ct m) J (m+1) 140 68 Tryz.f140 d38 p ms M σ
noncomputable def s38_3 (x0:List Dt) (x1 x2:Int) (x3 x4:Dt) (x5 x6:Int) (x7:ByteArray) (x8 x9:List Dt):St:=⟨tsOf [(1,(.ptr 0 [] 0)),(2,(.ptr 1 [] 0)),(3,(.ptr 2 [] 0)),(25,(.dat 23 (.lst x0))),(26,(.dat 3 (.int x1))),(27,(.dat 3 (.int x2)))],[(.box 33 (.dat 33 x3)),(.box 33 (.dat 33 x4)),(.box 33 (.agg 33 [(.dat 3 (.int x5)),(.dat 3 (.int x6)),(.dat 9 (.str x7)),(.row 3),(.row 4)])),(.row 23 x8),(.row 31 x9)],0⟩
noncomputable def s38_8 (x0:List Dt) (x1 x2:Int) (x3:Dt) (x4 x5:Int) (x6:ByteArray) (x7 x8:List Dt):St:=⟨tsOf [(2,(.ptr 0 [] 0)),(3,(.ptr 1 [] 0)),(49,(.dat 31 (.lst x0))),(50,(.dat 3 (.int x1))),(51,(.dat 3 (.int x2)))],[(.box 33 (.dat 33 x3)),(.box 33 (.agg 33 [(.dat 3 (.int x4)),(.dat 3 (.int x5)),(.dat 9 (.str x6)),(.row 2),(.row 3)])),(.row 23 x7),(.row 31 x8)],0⟩
noncomputable def s38_9 (x0:Dt) (x1 x2:Int) (x3:ByteArray) (x4 x5:List Dt):St:=⟨tsOf [(2,(.ptr 0 [] 0)),(3,(.ptr 1 [] 0))],[(.box 33 (.dat 33 x0)),(.box 33 (.agg 33 [(.dat 3 (.int x1)),(.dat 3 (.int x2)),(.dat 9 (.str x3)),(.row 2),(.row 3)])),(.row 23 x4),(.row 31 x5)],0⟩
noncomputable def s38_4 (x0 x1:Dt) (x2 x3:Int) (x4:ByteArray) (x5 x6:List Dt):St:=⟨tsOf [(1,(.ptr 0 [] 0)),(2,(.ptr 1 [] 0)),(3,(.ptr 2 [] 0))],[(.box 33 (.dat 33 x0)),(.box 33 (.dat 33 x1)),(.box 33 (.agg 33 [(.dat 3 (.int x2)),(.dat 3 (.int x3)),(.dat 9 (.str x4)),(.row 3),(.row 4)])),(.row 23 x5),(.row 31 x6)],0⟩
abbrev H38_1 (m M1:Nat) (rec1:List Dt→Int→Int→Dt→Dt→Int→Int→ByteArray→List Dt→List Dt→Option (Int×Int×ByteArray×List Dt×List Dt)):Prop:=∀x0 x1 x2 x3 x4 x5 x6 x7 x8 x9,l38 jn m w38_0 [] M1 (s38_3 x0 x1 x2 x3 x4 x5 x6 x7 x8 x9)=rec1 x0 x1 x2 x3 x4 x5 x6 x7 x8 x9
theorem path_clone_j3_eq m M1 rec1 (h1:H38_1 m M1 rec1) x0 x1 x2 x3 x4 x5 x6 x7 x8 x9:e38 jn m w38_1 [M1] (s38_3 x0 x1 x2 x3 x4 x5 x6 x7 x8 x9)=path_clone_j3 m (path_clone m) rec1 x0 x1 x2 x3 x4 x5 x6 x7 x8 x9:=
 tre (g:=fun J=>(jj J 1 5 M1 (s38_3 x0 x1 (IntKind.wrap .i64 (x2+1)) x3 x4 x5 x6 x7 x8 x9) (l38 J m w38_0 [] M1))) (fun J=>by kernel_rfl) (by simp only[jj_eq,h1];rfl)
theorem path_clone_j2_eq m M1 rec1 (h1:H38_1 m M1 rec1) x0 x1 x2 x3 x4 x5 x6 x7 x8 x9:e38 jn m w38_2 [M1] (s38_3 x0 x1 x2 x3 x4 x5 x6 x7 x8 x9)=path_clone_j2 m (path_clone m) rec1 x0 x1 x2 x3 x4 x5 x6 x7 x8 x9:=
 tre (g:=fun J=>((idx x0 x2).bind fun v1=>
  ((path_clone m v1).bind fun r2=>
  ((inL x8 x2).bind fun v3=>
  ((x8[(Int.toNat x2)]?).bind fun v4=>
  (jj J 0 8 0 (s38_3 x0 x1 x2 x3 x4 x5 x6 x7 (List.set x8 (Int.toNat x2) (Dt.agg [(Dt.int r2.1),(Dt.int r2.2.1),(Dt.str r2.2.2.1),(Dt.lst r2.2.2.2.1),(Dt.lst r2.2.2.2.2)])) x9) (e38 J m w38_1 [M1]))))))) (fun J=>by kernel_rfl) (by simp only[jj_eq,path_clone_j3_eq m M1 rec1 h1];rfl)
abbrev H38_6 (m M6:Nat) (rec6:List Dt→Int→Int→Dt→Int→Int→ByteArray→List Dt→List Dt→Option (Int×Int×ByteArray×List Dt×List Dt)):Prop:=∀x0 x1 x2 x3 x4 x5 x6 x7 x8,l38 jn m w38_3 [] M6 (s38_8 x0 x1 x2 x3 x4 x5 x6 x7 x8)=rec6 x0 x1 x2 x3 x4 x5 x6 x7 x8
theorem path_clone_j8_eq m M6 rec6 (h6:H38_6 m M6 rec6) x0 x1 x2 x3 x4 x5 x6 x7 x8:e38 jn m w38_4 [M6] (s38_8 x0 x1 x2 x3 x4 x5 x6 x7 x8)=path_clone_j8 m (path_clone m) rec6 x0 x1 x2 x3 x4 x5 x6 x7 x8:=
 tre (g:=fun J=>(jj J 1 12 M6 (s38_8 x0 x1 (IntKind.wrap .i64 (x2+1)) x3 x4 x5 x6 x7 x8) (l38 J m w38_3 [] M6))) (fun J=>by kernel_rfl) (by simp only[jj_eq,h6];rfl)
theorem path_clone_j7_eq m M6 rec6 (h6:H38_6 m M6 rec6) x0 x1 x2 x3 x4 x5 x6 x7 x8:e38 jn m w38_5 [M6] (s38_8 x0 x1 x2 x3 x4 x5 x6 x7 x8)=path_clone_j7 m (path_clone m) rec6 x0 x1 x2 x3 x4 x5 x6 x7 x8:=
 tre (g:=fun J=>((idx x0 x2).bind fun v6=>
  ((path_clone m (Dt.fld v6 1)).bind fun r7=>
  ((inL x8 x2).bind fun v8=>
  ((x8[(Int.toNat x2)]?).bind fun v9=>
  (jj J 0 15 0 (s38_8 x0 x1 x2 x3 x4 x5 x6 x7 (List.set x8 (Int.toNat x2) (Dt.agg [(Dt.str (Dt.S v6 0)),(Dt.agg [(Dt.int r7.1),(Dt.int r7.2.1),(Dt.str r7.2.2.1),(Dt.lst r7.2.2.2.1),(Dt.lst r7.2.2.2.2)])]))) (e38 J m w38_4 [M6]))))))) (fun J=>by kernel_rfl) (by simp only[jj_eq,path_clone_j8_eq m M6 rec6 h6];rfl)
theorem path_clone_j9_eq m x0 x1 x2 x3 x4 x5:e38 jn m [1,1,1,1] [] (s38_9 x0 x1 x2 x3 x4 x5)=path_clone_j9 m (path_clone m) x0 x1 x2 x3 x4 x5:=
 tre (g:=fun J=>some (x1,x2,x3,x4,x5)) (fun J=>by kernel_rfl) (by rfl)
theorem path_clone_l6_eq m:∀M6 x0 x1 x2 x3 x4 x5 x6 x7 x8,l38 jn m w38_3 [] M6 (s38_8 x0 x1 x2 x3 x4 x5 x6 x7 x8)=path_clone_l6 m (path_clone m) M6 x0 x1 x2 x3 x4 x5 x6 x7 x8
 |0,_,_,_,_,_,_,_,_,_=>rfl
 | M6+1,x0,x1,x2,x3,x4,x5,x6,x7,x8=>
   trl (g:=fun J=>(bif (decide (x2<x1)) then
  (jj J 0 13 0 (s38_8 x0 x1 x2 x3 x4 x5 x6 x7 x8) (e38 J m w38_5 [M6]))
   else
  (jj J 0 16 0 (s38_9 x3 x4 x5 x6 x7 x8) (e38 J m [1,1,1,1] [])))) (fun J=>by kernel_rfl) (by simp only[jj_eq,path_clone_j7_eq m M6 (path_clone_l6 m (path_clone m) M6) (path_clone_l6_eq m M6),path_clone_j9_eq m];rfl)
theorem path_clone_j5_eq m x0 x1 x2 x3 x4 x5 x6 x7 x8:e38 jn m w38_6 [] (s38_8 x0 x1 x2 x3 x4 x5 x6 x7 x8)=path_clone_j5 m (path_clone m) x0 x1 x2 x3 x4 x5 x6 x7 x8:=
 tre (g:=fun J=>(jj J 1 12 (Nat.succ m) (s38_8 x0 x1 x2 x3 x4 x5 x6 x7 x8) (l38 J m w38_3 [] (Nat.succ m)))) (fun J=>by kernel_rfl) (by simp only[jj_eq,path_clone_l6_eq m];rfl)
theorem path_clone_j4_eq m x0 x1 x2 x3 x4 x5 x6:e38 jn m [1,1,1] [] (s38_4 x0 x1 x2 x3 x4 x5 x6)=path_clone_j4 m (path_clone m) x0 x1 x2 x3 x4 x5 x6:=
 tre (g:=fun J=>(bif (decide (0<(List.length (Dt.L x0 4):Int))) then
  ((mkL (List.length (Dt.L x0 4):Int) (List.length (Dt.L x0 4):Int) kzcda49).bind fun v5=>
  (jj J 0 12 0 (s38_8 (Dt.L x0 4) (List.length (Dt.L x0 4):Int) 0 x1 x2 x3 x4 x5 v5) (e38 J m w38_6 [])))
   else
  (jj J 0 16 0 (s38_9 x1 x2 x3 x4 x5 x6) (e38 J m [1,1,1,1] [])))) (fun J=>by kernel_rfl) (by simp only[jj_eq,path_clone_j5_eq m,path_clone_j9_eq m];rfl)
theorem path_clone_l1_eq m:∀M1 x0 x1 x2 x3 x4 x5 x6 x7 x8 x9,l38 jn m w38_0 [] M1 (s38_3 x0 x1 x2 x3 x4 x5 x6 x7 x8 x9)=path_clone_l1 m (path_clone m) M1 x0 x1 x2 x3 x4 x5 x6 x7 x8 x9
 |0,_,_,_,_,_,_,_,_,_,_=>rfl
 | M1+1,x0,x1,x2,x3,x4,x5,x6,x7,x8,x9=>
   trl (g:=fun J=>(bif (decide (x2<x1)) then
  (jj J 0 6 0 (s38_3 x0 x1 x2 x3 x4 x5 x6 x7 x8 x9) (e38 J m w38_2 [M1]))
   else
  (jj J 0 9 0 (s38_4 x3 x4 x5 x6 x7 x8 x9) (e38 J m [1,1,1] [])))) (fun J=>by kernel_rfl) (by simp only[jj_eq,path_clone_j2_eq m M1 (path_clone_l1 m (path_clone m) M1) (path_clone_l1_eq m M1),path_clone_j4_eq m];rfl)
theorem path_clone_j0_eq m x0 x1 x2 x3 x4 x5 x6 x7 x8 x9:e38 jn m w38_7 [] (s38_3 x0 x1 x2 x3 x4 x5 x6 x7 x8 x9)=path_clone_j0 m (path_clone m) x0 x1 x2 x3 x4 x5 x6 x7 x8 x9:=
 tre (g:=fun J=>(jj J 1 5 (Nat.succ m) (s38_3 x0 x1 x2 x3 x4 x5 x6 x7 x8 x9) (l38 J m w38_0 [] (Nat.succ m)))) (fun J=>by kernel_rfl) (by simp only[jj_eq,path_clone_l1_eq m];rfl)
theorem path_clone_eq m a0:e38 jn m [] [] ⟨[(.dat 33 a0)],[],0⟩=path_clone (m+1) a0:=
 tre (g:=fun J=>(bif (decide (0<(List.length (Dt.L a0 3):Int))) then
  ((mkL (List.length (Dt.L a0 3):Int) (List.length (Dt.L a0 3):Int) kza2373).bind fun v0=>
  (jj J 0 5 0 (s38_3 (Dt.L a0 3) (List.length (Dt.L a0 3):Int) 0 a0 kza2373 (Dt.I a0 0) (Dt.I a0 1) (Dt.S a0 2) v0 []) (e38 J m w38_7 [])))
   else
  (jj J 0 9 0 (s38_4 a0 kza2373 (Dt.I a0 0) (Dt.I a0 1) (Dt.S a0 2) [] []) (e38 J m [1,1,1] [])))) (fun J=>by kernel_rfl) (by simp only[jj_eq,path_clone_j0_eq m,path_clone_j4_eq m];rfl)
def w21_3:List Nat:=[1,0,1,0,0,1,1]
def w21_0:List Nat:=w21_3++[1]
def w21_1:List Nat:=w21_3++[0,0,1,1,1]
def w21_2:List Nat:=w21_3++[0,0,1,1,0,1,0,1,1,1,0,1,1]
noncomputable def e21 (J:Nat→Nat→Nat→St→Option Dt→Option Dt) (m:Nat) (p ms:List Nat) (σ:St):=evAt Tryz.prog env (ct m) J (m+1) 94 59 Tryz.f94 d14 p ms σ
noncomputable def l21 (J:Nat→Nat→Nat→St→Option Dt→Option Dt) (m:Nat) (p ms:List Nat) (M:Nat) (σ:St):=loopAt Tryz.prog env (ct m) J (m+1) 94 59 Tryz.f94 d14 p ms M σ
noncomputable def s21_4 (x0:List Dt) (x1 x2:Int) (x3 x4:Dt):St:=⟨tsOf [(2,(.ptr 0 [] 0)),(4,(.ptr 1 [] 0)),(10,(.dat 22 (.lst x0))),(11,(.dat 3 (.int x1))),(12,(.dat 3 (.int x2)))],[(.box 33 (.dat 33 x3)),(.box 33 (.dat 33 x4))],0⟩
noncomputable def s21_3 (x0:Int) (x1:List Dt) (x2 x3:Int) (x4 x5:Dt):St:=⟨tsOf [(2,(.ptr 0 [] 0)),(4,(.ptr 1 [] 0)),(7,(.dat 3 (.int x0))),(10,(.dat 22 (.lst x1))),(11,(.dat 3 (.int x2))),(12,(.dat 3 (.int x3)))],[(.box 33 (.dat 33 x4)),(.box 33 (.dat 33 x5))],0⟩
noncomputable def s21_5 (x0 x1:Int) (x2:List Dt) (x3 x4:Int) (x5:Bool) (x6 x7:Dt):St:=⟨tsOf [(2,(.ptr 0 [] 0)),(4,(.ptr 1 [] 0)),(7,(.dat 3 (.int x0))),(8,(.dat 3 (.int x1))),(10,(.dat 22 (.lst x2))),(11,(.dat 3 (.int x3))),(12,(.dat 3 (.int x4))),(46,(.dat 4 (.bool x5)))],[(.box 33 (.dat 33 x6)),(.box 33 (.dat 33 x7))],0⟩
noncomputable def s21_6 (x0 x1:Dt):St:=⟨tsOf [(2,(.ptr 0 [] 0)),(4,(.ptr 1 [] 0))],[(.box 33 (.dat 33 x0)),(.box 33 (.dat 33 x1))],0⟩
abbrev H21_1 (m M1:Nat) (rec1:List Dt→Int→Int→Dt→Dt→Option Dt):Prop:=∀x0 x1 x2 x3 x4,l21 jn m [1,0,1,0] [] M1 (s21_4 x0 x1 x2 x3 x4)=rec1 x0 x1 x2 x3 x4
theorem path_Get_j4_eq m M1 rec1 (h1:H21_1 m M1 rec1) x0 x1 x2 x3 x4:e21 jn m w21_0 [M1] (s21_4 x0 x1 x2 x3 x4)=path_Get_j4 m rec1 x0 x1 x2 x3 x4:=
 tre (g:=fun J=>(jj J 1 2 M1 (s21_4 x0 x1 (IntKind.wrap .i64 (x2+1)) x3 x4) (l21 J m [1,0,1,0] [] M1))) (fun J=>by kernel_rfl) (by simp only[jj_eq,h1];rfl)
theorem path_Get_j3_eq m M1 rec1 (h1:H21_1 m M1 rec1) x0 x1 x2 x3 x4 x5:e21 jn m w21_1 [M1] (s21_3 x0 x1 x2 x3 x4 x5)=path_Get_j3 m rec1 x0 x1 x2 x3 x4 x5:=
 tre (g:=fun J=>(bif (decide (x0<0)) then
  some kza2373
   else
  (jj J 0 17 0 (s21_4 x1 x2 x3 x4 x5) (e21 J m w21_0 [M1])))) (fun J=>by kernel_rfl) (by simp only[jj_eq,path_Get_j4_eq m M1 rec1 h1];rfl)
theorem path_Get_j5_eq m M1 rec1 (h1:H21_1 m M1 rec1) x0 x1 x2 x3 x4 x5 x6 x7:e21 jn m w21_2 [M1] (s21_5 x0 x1 x2 x3 x4 x5 x6 x7)=path_Get_j5 m rec1 x0 x1 x2 x3 x4 x5 x6 x7:=
 tre (g:=fun J=>(bif x5 then
  ((idx (Dt.L x6 3) x1).bind fun v4=>
  (jj J 0 15 0 (s21_3 x1 x2 x3 x4 v4 x7) (e21 J m w21_1 [M1])))
   else
  (jj J 0 15 0 (s21_3 x0 x2 x3 x4 x6 x7) (e21 J m w21_1 [M1])))) (fun J=>by kernel_rfl) (by simp only[jj_eq,path_Get_j3_eq m M1 rec1 h1];rfl)
theorem path_Get_j2_eq m M1 rec1 (h1:H21_1 m M1 rec1) x0 x1 x2 x3 x4:e21 jn m w21_3 [M1] (s21_4 x0 x1 x2 x3 x4)=path_Get_j2 m rec1 x0 x1 x2 x3 x4:=
 tre (g:=fun J=>((idx x0 x2).bind fun v0=>
  (bif ((Dt.I x3 0)==5) then
  ((path_field m (Dt.L x3 4) (Dt.toStr v0)).bind fun r1=>
  (bif (decide (0≤r1)) then
  ((idx (Dt.L x3 4) r1).bind fun v2=>
  (jj J 0 15 0 (s21_3 r1 x0 x1 x2 (Dt.fld v2 1) x4) (e21 J m w21_1 [M1])))
  else
  (jj J 0 15 0 (s21_3 r1 x0 x1 x2 x3 x4) (e21 J m w21_1 [M1]))))
  else
  (bif ((Dt.I x3 0)==6) then
  ((path_Number m (Dt.toStr v0)).bind fun r3=>
  (bif r3.2 then
  (jj J 0 13 0 (s21_5 (-1) r3.1 x0 x1 x2 (decide (r3.1<(List.length (Dt.L x3 3):Int))) x3 x4) (e21 J m w21_2 [M1]))
  else
  (jj J 0 13 0 (s21_5 (-1) r3.1 x0 x1 x2 false x3 x4) (e21 J m w21_2 [M1]))))
  else
  (jj J 0 15 0 (s21_3 (-1) x0 x1 x2 x3 x4) (e21 J m w21_1 [M1])))))) (fun J=>by kernel_rfl) (by simp only[jj_eq,path_Get_j3_eq m M1 rec1 h1,path_Get_j5_eq m M1 rec1 h1];rfl)
theorem path_Get_j6_eq m x0 x1:e21 jn m [1,1] [] (s21_6 x0 x1)=path_Get_j6 m x0 x1:=
 tre (g:=fun J=>((path_clone m x0).bind fun r5=>
  some (Dt.agg [(Dt.int r5.1),(Dt.int r5.2.1),(Dt.str r5.2.2.1),(Dt.lst r5.2.2.2.1),(Dt.lst r5.2.2.2.2)]))) (fun J=>by kernel_rfl) (by rfl)
theorem path_Get_l1_eq m:∀M1 x0 x1 x2 x3 x4,l21 jn m [1,0,1,0] [] M1 (s21_4 x0 x1 x2 x3 x4)=path_Get_l1 m M1 x0 x1 x2 x3 x4
 |0,_,_,_,_,_=>rfl
 | M1+1,x0,x1,x2,x3,x4=>
   trl (g:=fun J=>(bif (decide (x2<x1)) then
  (jj J 0 3 0 (s21_4 x0 x1 x2 x3 x4) (e21 J m w21_3 [M1]))
   else
  (jj J 0 18 0 (s21_6 x3 x4) (e21 J m [1,1] [])))) (fun J=>by kernel_rfl) (by simp only[jj_eq,path_Get_j2_eq m M1 (path_Get_l1 m M1) (path_Get_l1_eq m M1),path_Get_j6_eq m];rfl)
theorem path_Get_j0_eq m x0 x1 x2 x3 x4:e21 jn m [1,0,1] [] (s21_4 x0 x1 x2 x3 x4)=path_Get_j0 m x0 x1 x2 x3 x4:=
 tre (g:=fun J=>(jj J 1 2 (Nat.succ m) (s21_4 x0 x1 x2 x3 x4) (l21 J m [1,0,1,0] [] (Nat.succ m)))) (fun J=>by kernel_rfl) (by simp only[jj_eq,path_Get_l1_eq m];rfl)
theorem path_Get_eq m a0 a1:e21 jn m [] [] ⟨[(.dat 33 a0),(.dat 22 (.lst a1))],[],0⟩=path_Get (m+1) a0 a1:=
 tre (g:=fun J=>(jj J 0 2 0 (s21_4 a1 (List.length a1:Int) 0 a0 kza2373) (e21 J m [1,0,1] []))) (fun J=>by kernel_rfl) (by simp only[jj_eq,path_Get_j0_eq m];rfl)
def w40_0:List Nat:=[1,1,0,1,0]
def w40_2:List Nat:=[1,1,0,1,0,0,1]
def w40_1:List Nat:=w40_2++[1]
noncomputable def e40 (J:Nat→Nat→Nat→St→Option Int→Option Int) (m:Nat) (p ms:List Nat) (σ:St):=evAt Tryz.prog env (ct m) J (m+1) 82 25 Tryz.f82 d36 p ms σ
noncomputable def l40 (J:Nat→Nat→Nat→St→Option Int→Option Int) (m:Nat) (p ms:List Nat) (M:Nat) (σ:St):=loopAt Tryz.prog env (ct m) J (m+1) 82 25 Tryz.f82 d36 p ms M σ
noncomputable def s40_4 (x0:ByteArray) (x1:Int) (x2:Dt):St:=⟨tsOf [(1,(.dat 9 (.str x0))),(2,(.ptr 0 [] 0)),(5,(.dat 3 (.int x1)))],[(.box 33 (.dat 33 x2))],0⟩
noncomputable def s40_5:St:=⟨tsOf [],[],0⟩
noncomputable def s40_0 (x0:ByteArray) (x1:Dt):St:=⟨tsOf [(1,(.dat 9 (.str x0))),(2,(.ptr 0 [] 0))],[(.box 33 (.dat 33 x1))],0⟩
abbrev H40_2 (m M2:Nat) (rec2:ByteArray→Int→Dt→Option Int):Prop:=∀x0 x1 x2,l40 jn m w40_0 [] M2 (s40_4 x0 x1 x2)=rec2 x0 x1 x2
theorem ref01_at_j4_eq m M2 rec2 (h2:H40_2 m M2 rec2) x0 x1 x2:e40 jn m w40_1 [M2] (s40_4 x0 x1 x2)=ref01_at_j4 m rec2 x0 x1 x2:=
 tre (g:=fun J=>(jj J 1 4 M2 (s40_4 x0 (IntKind.wrap .i64 (x1+1)) x2) (l40 J m w40_0 [] M2))) (fun J=>by kernel_rfl) (by simp only[jj_eq,h2];rfl)
theorem ref01_at_j3_eq m M2 rec2 (h2:H40_2 m M2 rec2) x0 x1 x2:e40 jn m w40_2 [M2] (s40_4 x0 x1 x2)=ref01_at_j3 m rec2 x0 x1 x2:=
 tre (g:=fun J=>((idx (Dt.L x2 4) x1).bind fun v0=>
  (bif ((ByteArray.toList (Dt.S v0 0))==(ByteArray.toList x0)) then
  some x1
  else
  (jj J 0 5 0 (s40_4 x0 x1 x2) (e40 J m w40_1 [M2]))))) (fun J=>by kernel_rfl) (by simp only[jj_eq,ref01_at_j4_eq m M2 rec2 h2];rfl)
theorem ref01_at_j5_eq m:e40 jn m [1,1,1] [] s40_5=ref01_at_j5 m:=
 tre (g:=fun J=>some (-1)) (fun J=>by kernel_rfl) (by rfl)
theorem ref01_at_l2_eq m:∀M2 x0 x1 x2,l40 jn m w40_0 [] M2 (s40_4 x0 x1 x2)=ref01_at_l2 m M2 x0 x1 x2
 |0,_,_,_=>rfl
 | M2+1,x0,x1,x2=>
   trl (g:=fun J=>(bif (decide (x1<(List.length (Dt.L x2 4):Int))) then
  (jj J 0 6 0 (s40_4 x0 x1 x2) (e40 J m w40_2 [M2]))
   else
  (jj J 0 8 0 s40_5 (e40 J m [1,1,1] [])))) (fun J=>by kernel_rfl) (by simp only[jj_eq,ref01_at_j3_eq m M2 (ref01_at_l2 m M2) (ref01_at_l2_eq m M2),ref01_at_j5_eq m];rfl)
theorem ref01_at_j1_eq m x0 x1 x2:e40 jn m [1,1,0,1] [] (s40_4 x0 x1 x2)=ref01_at_j1 m x0 x1 x2:=
 tre (g:=fun J=>(jj J 1 4 (Nat.succ m) (s40_4 x0 x1 x2) (l40 J m w40_0 [] (Nat.succ m)))) (fun J=>by kernel_rfl) (by simp only[jj_eq,ref01_at_l2_eq m];rfl)
theorem ref01_at_j0_eq m x0 x1:e40 jn m [1,1] [] (s40_0 x0 x1)=ref01_at_j0 m x0 x1:=
 tre (g:=fun J=>(jj J 0 4 0 (s40_4 x0 0 x1) (e40 J m [1,1,0,1] []))) (fun J=>by kernel_rfl) (by simp only[jj_eq,ref01_at_j1_eq m];rfl)
theorem ref01_at_eq m a0 a1:e40 jn m [] [] ⟨[(.dat 33 a0),(.dat 9 (.str a1))],[],0⟩=ref01_at (m+1) a0 a1:=
 tre (g:=fun J=>(bif ((Dt.I a0 0) !=5) then
  some (-1)
   else
  (jj J 0 3 0 (s40_0 a1 a0) (e40 J m [1,1] [])))) (fun J=>by kernel_rfl) (by simp only[jj_eq,ref01_at_j0_eq m];rfl)
noncomputable def e27 (J:Nat→Nat→Nat→St→Option (Dt×Bool)→Option (Dt×Bool)) (m:Nat) (p ms:List Nat) (σ:St):=evAt Tryz.prog env (ct m) J (m+1) 31 19 Tryz.f31 d27 p ms σ
noncomputable def l27 (J:Nat→Nat→Nat→St→Option (Dt×Bool)→Option (Dt×Bool)) (m:Nat) (p ms:List Nat) (M:Nat) (σ:St):=loopAt Tryz.prog env (ct m) J (m+1) 31 19 Tryz.f31 d27 p ms M σ
noncomputable def s27_0 (x0:Int) (x1 x2:Dt):St:=⟨tsOf [(2,(.ptr 0 [] 0)),(4,(.ptr 1 [] 0)),(6,(.dat 3 (.int x0)))],[(.box 33 (.dat 33 x1)),(.box 33 (.dat 33 x2))],0⟩
theorem ref01_Get_j0_eq m x0 x1 x2:e27 jn m [1,1,1] [] (s27_0 x0 x1 x2)=ref01_Get_j0 m x0 x1 x2:=
 tre (g:=fun J=>((idx (Dt.L x1 4) x0).bind fun v1=>
  some ((Dt.fld v1 1),true))) (fun J=>by kernel_rfl) (by rfl)
theorem ref01_Get_eq m a0 a1:e27 jn m [] [] ⟨[(.dat 33 a0),(.dat 9 (.str a1))],[],0⟩=ref01_Get (m+1) a0 a1:=
 tre (g:=fun J=>((ref01_at m a0 a1).bind fun r0=>
  (bif (decide (r0<0)) then
  some (kza2373,false)
  else
  (jj J 0 4 0 (s27_0 r0 a0 kza2373) (e27 J m [1,1,1] []))))) (fun J=>by kernel_rfl) (by simp only[jj_eq,ref01_Get_j0_eq m];rfl)
def w12_0:List Nat:=[1,1,1,0,1,0,1,1]
noncomputable def e12 (J:Nat→Nat→Nat→St→Option Dt→Option Dt) (m:Nat) (p ms:List Nat) (σ:St):=evAt Tryz.prog env (ct m) J (m+1) 48 56 Tryz.f48 d14 p ms σ
noncomputable def l12 (J:Nat→Nat→Nat→St→Option Dt→Option Dt) (m:Nat) (p ms:List Nat) (M:Nat) (σ:St):=loopAt Tryz.prog env (ct m) J (m+1) 48 56 Tryz.f48 d14 p ms M σ
noncomputable def s12_3 (x0:Dt):St:=⟨tsOf [(4,(.ptr 0 [] 0))],[(.box 33 (.dat 33 x0))],0⟩
noncomputable def s12_2 (x0:List Dt) (x1:Int) (x2:Bool) (x3 x4:Dt):St:=⟨tsOf [(1,(.dat 22 (.lst x0))),(2,(.ptr 0 [] 0)),(4,(.ptr 1 [] 0)),(7,(.dat 3 (.int x1))),(46,(.dat 4 (.bool x2)))],[(.box 33 (.dat 33 x3)),(.box 33 (.dat 33 x4))],0⟩
noncomputable def s12_1 (x0:List Dt) (x1 x2:Dt):St:=⟨tsOf [(1,(.dat 22 (.lst x0))),(2,(.ptr 0 [] 0)),(4,(.ptr 1 [] 0))],[(.box 33 (.dat 33 x1)),(.box 33 (.dat 33 x2))],0⟩
theorem ref04_Get_j3_eq m x0:e12 jn m [1,1,1,1] [] (s12_3 x0)=ref04_Get_j3 m (ref04_Get m) x0:=
 tre (g:=fun J=>some kza2373) (fun J=>by kernel_rfl) (by rfl)
theorem ref04_Get_j2_eq m x0 x1 x2 x3 x4:e12 jn m w12_0 [] (s12_2 x0 x1 x2 x3 x4)=ref04_Get_j2 m (ref04_Get m) x0 x1 x2 x3 x4:=
 tre (g:=fun J=>(bif x2 then
  ((idx (Dt.L x3 3) x1).bind fun v6=>
  ((cutL x0 1 (List.length x0:Int)).bind fun v7=>
  ((ref04_Get m v6 v7).bind fun r8=>
  some r8)))
   else
  (jj J 0 11 0 (s12_3 x4) (e12 J m [1,1,1,1] [])))) (fun J=>by kernel_rfl) (by simp only[jj_eq,ref04_Get_j3_eq m];rfl)
theorem ref04_Get_j1_eq m x0 x1 x2:e12 jn m [1,1,1] [] (s12_1 x0 x1 x2)=ref04_Get_j1 m (ref04_Get m) x0 x1 x2:=
 tre (g:=fun J=>(bif ((Dt.I x1 0)==6) then
  ((idx x0 0).bind fun v4=>
  ((ref04_Number m (Dt.toStr v4)).bind fun r5=>
  (bif r5.2 then
  (jj J 0 10 0 (s12_2 x0 r5.1 (decide (r5.1<(List.length (Dt.L x1 3):Int))) x1 x2) (e12 J m w12_0 []))
  else
  (jj J 0 10 0 (s12_2 x0 r5.1 false x1 x2) (e12 J m w12_0 [])))))
   else
  (jj J 0 11 0 (s12_3 x2) (e12 J m [1,1,1,1] [])))) (fun J=>by kernel_rfl) (by simp only[jj_eq,ref04_Get_j2_eq m,ref04_Get_j3_eq m];rfl)
theorem ref04_Get_j0_eq m x0 x1 x2:e12 jn m [1,1] [] (s12_1 x0 x1 x2)=ref04_Get_j0 m (ref04_Get m) x0 x1 x2:=
 tre (g:=fun J=>(bif ((Dt.I x1 0)==5) then
  ((idx x0 0).bind fun v0=>
  ((ref01_Get m x1 (Dt.toStr v0)).bind fun r1=>
  (bif r1.2 then
  ((cutL x0 1 (List.length x0:Int)).bind fun v2=>
  ((ref04_Get m r1.1 v2).bind fun r3=>
  some r3))
  else
  (jj J 0 7 0 (s12_1 x0 x1 x2) (e12 J m [1,1,1] [])))))
   else
  (jj J 0 7 0 (s12_1 x0 x1 x2) (e12 J m [1,1,1] [])))) (fun J=>by kernel_rfl) (by simp only[jj_eq,ref04_Get_j1_eq m];rfl)
theorem ref04_Get_eq m a0 a1:e12 jn m [] [] ⟨[(.dat 33 a0),(.dat 22 (.lst a1))],[],0⟩=ref04_Get (m+1) a0 a1:=
 tre (g:=fun J=>(bif ((List.length a1:Int)==0) then
  some a0
   else
  (jj J 0 3 0 (s12_1 a1 a0 kza2373) (e12 J m [1,1] [])))) (fun J=>by kernel_rfl) (by simp only[jj_eq,ref04_Get_j0_eq m];rfl)
def w30_5:List Nat:=[1,1,1,1,1]
def w30_4:List Nat:=[1,1,1,1,1,1]
def w30_6:List Nat:=[1,1,1,1,0,1]
def w30_0:List Nat:=w30_6++[0]
def w30_3:List Nat:=w30_0++[0,1]
def w30_1:List Nat:=w30_3++[1]
def w30_2:List Nat:=w30_3++[0,0,1,1]
noncomputable def e30 (J:Nat→Nat→Nat→St→Option Dt→Option Dt) (m:Nat) (p ms:List Nat) (σ:St):=evAt Tryz.prog env (ct m) J (m+1) 99 50 Tryz.f99 d14 p ms σ
noncomputable def l30 (J:Nat→Nat→Nat→St→Option Dt→Option Dt) (m:Nat) (p ms:List Nat) (M:Nat) (σ:St):=loopAt Tryz.prog env (ct m) J (m+1) 99 50 Tryz.f99 d14 p ms M σ
noncomputable def s30_5 (x0:ByteArray) (x1 x2:Int) (x3 x4 x5:Dt) (x6:List Dt):St:=⟨tsOf [(1,(.dat 9 (.str x0))),(3,(.ptr 0 [] 0)),(5,(.ptr 1 [] 0)),(6,(.ptr 2 [] 0)),(7,(.dat 3 (.int x1))),(8,(.row 3)),(9,(.dat 3 (.int x2)))],[(.box 33 (.dat 33 x3)),(.box 33 (.dat 33 x4)),(.box 33 (.dat 33 x5)),(.row 31 x6)],0⟩
noncomputable def s30_4 (x0:ByteArray) (x1 x2:Int) (x3 x4 x5:Dt) (x6:List Dt) (x7:Dt):St:=⟨tsOf [(1,(.dat 9 (.str x0))),(3,(.ptr 0 [] 0)),(5,(.ptr 1 [] 0)),(6,(.ptr 2 [] 0)),(7,(.dat 3 (.int x1))),(8,(.row 3)),(9,(.dat 3 (.int x2))),(10,(.ptr 4 [] 0))],[(.box 33 (.dat 33 x3)),(.box 33 (.dat 33 x4)),(.box 33 (.dat 33 x5)),(.row 31 x6),(.box 57 (.dat 57 x7))],0⟩
noncomputable def s30_7 (x0 x1:Dt) (x2:List Dt):St:=⟨tsOf [(3,(.ptr 0 [] 0)),(6,(.ptr 1 [] 0)),(8,(.row 2))],[(.box 33 (.dat 33 x0)),(.box 33 (.dat 33 x1)),(.row 31 x2)],0⟩
noncomputable def s30_6 (x0:ByteArray) (x1:Int) (x2 x3 x4:Dt) (x5:List Dt):St:=⟨tsOf [(1,(.dat 9 (.str x0))),(3,(.ptr 0 [] 0)),(5,(.ptr 1 [] 0)),(6,(.ptr 2 [] 0)),(7,(.dat 3 (.int x1))),(8,(.row 3))],[(.box 33 (.dat 33 x2)),(.box 33 (.dat 33 x3)),(.box 33 (.dat 33 x4)),(.row 31 x5)],0⟩
noncomputable def s30_0 (x0:ByteArray) (x1 x2 x3:Dt):St:=⟨tsOf [(1,(.dat 9 (.str x0))),(3,(.ptr 0 [] 0)),(5,(.ptr 1 [] 0)),(6,(.ptr 2 [] 0))],[(.box 33 (.dat 33 x1)),(.box 33 (.dat 33 x2)),(.box 33 (.dat 33 x3))],0⟩
abbrev H30_2 (m M2:Nat) (rec2:ByteArray→Int→Int→Dt→Dt→Dt→List Dt→Option Dt):Prop:=∀x0 x1 x2 x3 x4 x5 x6,l30 jn m w30_0 [] M2 (s30_5 x0 x1 x2 x3 x4 x5 x6)=rec2 x0 x1 x2 x3 x4 x5 x6
theorem ref01_Set_j5_eq m M2 rec2 (h2:H30_2 m M2 rec2) x0 x1 x2 x3 x4 x5 x6:e30 jn m w30_1 [M2] (s30_5 x0 x1 x2 x3 x4 x5 x6)=ref01_Set_j5 m rec2 x0 x1 x2 x3 x4 x5 x6:=
 tre (g:=fun J=>(jj J 1 6 M2 (s30_5 x0 x1 (IntKind.wrap .i64 (x2+1)) x3 x4 x5 x6) (l30 J m w30_0 [] M2))) (fun J=>by kernel_rfl) (by simp only[jj_eq,h2];rfl)
theorem ref01_Set_j4_eq m M2 rec2 (h2:H30_2 m M2 rec2) x0 x1 x2 x3 x4 x5 x6 x7:e30 jn m w30_2 [M2] (s30_4 x0 x1 x2 x3 x4 x5 x6 x7)=ref01_Set_j4 m rec2 x0 x1 x2 x3 x4 x5 x6 x7:=
 tre (g:=fun J=>((app x6 [x7]).bind fun v2=>
  (jj J 0 7 0 (s30_5 x0 x1 x2 x3 x4 x5 v2) (e30 J m w30_1 [M2])))) (fun J=>by kernel_rfl) (by simp only[jj_eq,ref01_Set_j5_eq m M2 rec2 h2];rfl)
theorem ref01_Set_j3_eq m M2 rec2 (h2:H30_2 m M2 rec2) x0 x1 x2 x3 x4 x5 x6:e30 jn m w30_3 [M2] (s30_5 x0 x1 x2 x3 x4 x5 x6)=ref01_Set_j3 m rec2 x0 x1 x2 x3 x4 x5 x6:=
 tre (g:=fun J=>((idx (Dt.L x3 4) x2).bind fun v1=>
  (bif (x2==x1) then
  (jj J 0 11 0 (s30_4 x0 x1 x2 x3 x4 x5 x6 (Dt.agg [(Dt.str (Dt.S v1 0)),x4])) (e30 J m w30_2 [M2]))
  else
  (jj J 0 11 0 (s30_4 x0 x1 x2 x3 x4 x5 x6 v1) (e30 J m w30_2 [M2]))))) (fun J=>by kernel_rfl) (by simp only[jj_eq,ref01_Set_j4_eq m M2 rec2 h2];rfl)
theorem ref01_Set_j7_eq m x0 x1 x2:e30 jn m w30_4 [] (s30_7 x0 x1 x2)=ref01_Set_j7 m x0 x1 x2:=
 tre (g:=fun J=>some (Dt.agg [(Dt.int (Dt.I x0 0)),(Dt.int (Dt.I x0 1)),(Dt.str (Dt.S x0 2)),(Dt.lst (Dt.L x0 3)),(Dt.lst x2)])) (fun J=>by kernel_rfl) (by rfl)
theorem ref01_Set_j6_eq m x0 x1 x2 x3 x4 x5:e30 jn m w30_5 [] (s30_6 x0 x1 x2 x3 x4 x5)=ref01_Set_j6 m x0 x1 x2 x3 x4 x5:=
 tre (g:=fun J=>(bif (decide (x1<0)) then
  ((app x5 [(Dt.agg [(Dt.str x0),x3])]).bind fun v3=>
  (jj J 0 14 0 (s30_7 x2 x4 v3) (e30 J m w30_4 [])))
   else
  (jj J 0 14 0 (s30_7 x2 x4 x5) (e30 J m w30_4 [])))) (fun J=>by kernel_rfl) (by simp only[jj_eq,ref01_Set_j7_eq m];rfl)
theorem ref01_Set_l2_eq m:∀M2 x0 x1 x2 x3 x4 x5 x6,l30 jn m w30_0 [] M2 (s30_5 x0 x1 x2 x3 x4 x5 x6)=ref01_Set_l2 m M2 x0 x1 x2 x3 x4 x5 x6
 |0,_,_,_,_,_,_,_=>rfl
 | M2+1,x0,x1,x2,x3,x4,x5,x6=>
   trl (g:=fun J=>(bif (decide (x2<(List.length (Dt.L x3 4):Int))) then
  (jj J 0 8 0 (s30_5 x0 x1 x2 x3 x4 x5 x6) (e30 J m w30_3 [M2]))
   else
  (jj J 0 12 0 (s30_6 x0 x1 x3 x4 x5 x6) (e30 J m w30_5 [])))) (fun J=>by kernel_rfl) (by simp only[jj_eq,ref01_Set_j3_eq m M2 (ref01_Set_l2 m M2) (ref01_Set_l2_eq m M2),ref01_Set_j6_eq m];rfl)
theorem ref01_Set_j1_eq m x0 x1 x2 x3 x4 x5 x6:e30 jn m w30_6 [] (s30_5 x0 x1 x2 x3 x4 x5 x6)=ref01_Set_j1 m x0 x1 x2 x3 x4 x5 x6:=
 tre (g:=fun J=>(jj J 1 6 (Nat.succ m) (s30_5 x0 x1 x2 x3 x4 x5 x6) (l30 J m w30_0 [] (Nat.succ m)))) (fun J=>by kernel_rfl) (by simp only[jj_eq,ref01_Set_l2_eq m];rfl)
theorem ref01_Set_j0_eq m x0 x1 x2 x3:e30 jn m [1,1] [] (s30_0 x0 x1 x2 x3)=ref01_Set_j0 m x0 x1 x2 x3:=
 tre (g:=fun J=>((ref01_at m x1 x0).bind fun r0=>
  (jj J 0 6 0 (s30_5 x0 r0 0 x1 x2 x3 []) (e30 J m w30_6 [])))) (fun J=>by kernel_rfl) (by simp only[jj_eq,ref01_Set_j1_eq m];rfl)
theorem ref01_Set_eq m a0 a1 a2:e30 jn m [] [] ⟨[(.dat 33 a0),(.dat 9 (.str a1)),(.dat 33 a2)],[],0⟩=ref01_Set (m+1) a0 a1 a2:=
 tre (g:=fun J=>(bif ((Dt.I a0 0) !=5) then
  some a0
   else
  (jj J 0 3 0 (s30_0 a1 a0 a2 kza2373) (e30 J m [1,1] [])))) (fun J=>by kernel_rfl) (by simp only[jj_eq,ref01_Set_j0_eq m];rfl)
noncomputable def e15 (J:Nat→Nat→Nat→St→Option Dt→Option Dt) (m:Nat) (p ms:List Nat) (σ:St):=evAt Tryz.prog env (ct m) J (m+1) 50 14 Tryz.f50 d14 p ms σ
noncomputable def l15 (J:Nat→Nat→Nat→St→Option Dt→Option Dt) (m:Nat) (p ms:List Nat) (M:Nat) (σ:St):=loopAt Tryz.prog env (ct m) J (m+1) 50 14 Tryz.f50 d14 p ms M σ
noncomputable def s15_0 (x0:ByteArray) (x1 x2 x3:Dt):St:=⟨tsOf [(1,(.dat 9 (.str x0))),(3,(.ptr 0 [] 0)),(5,(.ptr 1 [] 0)),(6,(.ptr 2 [] 0))],[(.box 33 (.dat 33 x1)),(.box 33 (.dat 33 x2)),(.box 33 (.dat 33 x3))],0⟩
theorem ref36_with_j0_eq m x0 x1 x2 x3:e15 jn m [1,1] [] (s15_0 x0 x1 x2 x3)=ref36_with_j0 m x0 x1 x2 x3:=
 tre (g:=fun J=>((ref01_Set m x1 x0 x2).bind fun r0=>
  some r0)) (fun J=>by kernel_rfl) (by rfl)
theorem ref36_with_eq m a0 a1 a2:e15 jn m [] [] ⟨[(.dat 33 a0),(.dat 9 (.str a1)),(.dat 33 a2)],[],0⟩=ref36_with (m+1) a0 a1 a2:=
 tre (g:=fun J=>(bif ((ByteArray.toList a1)==[]) then
  some a0
   else
  (jj J 0 3 0 (s15_0 a1 a0 a2 kza2373) (e15 J m [1,1] [])))) (fun J=>by kernel_rfl) (by simp only[jj_eq,ref36_with_j0_eq m];rfl)
def w31_3:List Nat:=[1,1,1,1,1]
def w31_4:List Nat:=[1,1,1,1,0,1]
def w31_0:List Nat:=w31_4++[0]
def w31_2:List Nat:=w31_0++[0,1]
def w31_1:List Nat:=w31_2++[1]
noncomputable def e31 (J:Nat→Nat→Nat→St→Option Dt→Option Dt) (m:Nat) (p ms:List Nat) (σ:St):=evAt Tryz.prog env (ct m) J (m+1) 100 35 Tryz.f100 d14 p ms σ
noncomputable def l31 (J:Nat→Nat→Nat→St→Option Dt→Option Dt) (m:Nat) (p ms:List Nat) (M:Nat) (σ:St):=loopAt Tryz.prog env (ct m) J (m+1) 100 35 Tryz.f100 d14 p ms M σ
noncomputable def s31_4 (x0 x1:Int) (x2 x3:Dt) (x4:List Dt):St:=⟨tsOf [(2,(.ptr 0 [] 0)),(4,(.ptr 1 [] 0)),(5,(.dat 3 (.int x0))),(6,(.row 2)),(7,(.dat 3 (.int x1)))],[(.box 33 (.dat 33 x2)),(.box 33 (.dat 33 x3)),(.row 31 x4)],0⟩
noncomputable def s31_5 (x0 x1:Dt) (x2:List Dt):St:=⟨tsOf [(2,(.ptr 0 [] 0)),(4,(.ptr 1 [] 0)),(6,(.row 2))],[(.box 33 (.dat 33 x0)),(.box 33 (.dat 33 x1)),(.row 31 x2)],0⟩
noncomputable def s31_0 (x0:Int) (x1 x2:Dt):St:=⟨tsOf [(2,(.ptr 0 [] 0)),(4,(.ptr 1 [] 0)),(5,(.dat 3 (.int x0)))],[(.box 33 (.dat 33 x1)),(.box 33 (.dat 33 x2))],0⟩
abbrev H31_2 (m M2:Nat) (rec2:Int→Int→Dt→Dt→List Dt→Option Dt):Prop:=∀x0 x1 x2 x3 x4,l31 jn m w31_0 [] M2 (s31_4 x0 x1 x2 x3 x4)=rec2 x0 x1 x2 x3 x4
theorem ref01_Remove_j4_eq m M2 rec2 (h2:H31_2 m M2 rec2) x0 x1 x2 x3 x4:e31 jn m w31_1 [M2] (s31_4 x0 x1 x2 x3 x4)=ref01_Remove_j4 m rec2 x0 x1 x2 x3 x4:=
 tre (g:=fun J=>(jj J 1 6 M2 (s31_4 x0 (IntKind.wrap .i64 (x1+1)) x2 x3 x4) (l31 J m w31_0 [] M2))) (fun J=>by kernel_rfl) (by simp only[jj_eq,h2];rfl)
theorem ref01_Remove_j3_eq m M2 rec2 (h2:H31_2 m M2 rec2) x0 x1 x2 x3 x4:e31 jn m w31_2 [M2] (s31_4 x0 x1 x2 x3 x4)=ref01_Remove_j3 m rec2 x0 x1 x2 x3 x4:=
 tre (g:=fun J=>(bif (x1 !=x0) then
  ((idx (Dt.L x2 4) x1).bind fun v1=>
  ((app x4 [v1]).bind fun v2=>
  (jj J 0 7 0 (s31_4 x0 x1 x2 x3 v2) (e31 J m w31_1 [M2]))))
   else
  (jj J 0 7 0 (s31_4 x0 x1 x2 x3 x4) (e31 J m w31_1 [M2])))) (fun J=>by kernel_rfl) (by simp only[jj_eq,ref01_Remove_j4_eq m M2 rec2 h2];rfl)
theorem ref01_Remove_j5_eq m x0 x1 x2:e31 jn m w31_3 [] (s31_5 x0 x1 x2)=ref01_Remove_j5 m x0 x1 x2:=
 tre (g:=fun J=>some (Dt.agg [(Dt.int (Dt.I x0 0)),(Dt.int (Dt.I x0 1)),(Dt.str (Dt.S x0 2)),(Dt.lst (Dt.L x0 3)),(Dt.lst x2)])) (fun J=>by kernel_rfl) (by rfl)
theorem ref01_Remove_l2_eq m:∀M2 x0 x1 x2 x3 x4,l31 jn m w31_0 [] M2 (s31_4 x0 x1 x2 x3 x4)=ref01_Remove_l2 m M2 x0 x1 x2 x3 x4
 |0,_,_,_,_,_=>rfl
 | M2+1,x0,x1,x2,x3,x4=>
   trl (g:=fun J=>(bif (decide (x1<(List.length (Dt.L x2 4):Int))) then
  (jj J 0 8 0 (s31_4 x0 x1 x2 x3 x4) (e31 J m w31_2 [M2]))
   else
  (jj J 0 10 0 (s31_5 x2 x3 x4) (e31 J m w31_3 [])))) (fun J=>by kernel_rfl) (by simp only[jj_eq,ref01_Remove_j3_eq m M2 (ref01_Remove_l2 m M2) (ref01_Remove_l2_eq m M2),ref01_Remove_j5_eq m];rfl)
theorem ref01_Remove_j1_eq m x0 x1 x2 x3 x4:e31 jn m w31_4 [] (s31_4 x0 x1 x2 x3 x4)=ref01_Remove_j1 m x0 x1 x2 x3 x4:=
 tre (g:=fun J=>(jj J 1 6 (Nat.succ m) (s31_4 x0 x1 x2 x3 x4) (l31 J m w31_0 [] (Nat.succ m)))) (fun J=>by kernel_rfl) (by simp only[jj_eq,ref01_Remove_l2_eq m];rfl)
theorem ref01_Remove_j0_eq m x0 x1 x2:e31 jn m [1,1,1] [] (s31_0 x0 x1 x2)=ref01_Remove_j0 m x0 x1 x2:=
 tre (g:=fun J=>(jj J 0 6 0 (s31_4 x0 0 x1 x2 []) (e31 J m w31_4 []))) (fun J=>by kernel_rfl) (by simp only[jj_eq,ref01_Remove_j1_eq m];rfl)
theorem ref01_Remove_eq m a0 a1:e31 jn m [] [] ⟨[(.dat 33 a0),(.dat 9 (.str a1))],[],0⟩=ref01_Remove (m+1) a0 a1:=
 tre (g:=fun J=>((ref01_at m a0 a1).bind fun r0=>
  (bif (decide (r0<0)) then
  some a0
  else
  (jj J 0 4 0 (s31_0 r0 a0 kza2373) (e31 J m [1,1,1] []))))) (fun J=>by kernel_rfl) (by simp only[jj_eq,ref01_Remove_j0_eq m];rfl)
def w16_3:List Nat:=[1,1,1,1,1]
def w16_4:List Nat:=[1,1,1,1,0,1]
def w16_1:List Nat:=[1,1,0,1,0,1,1]
def w16_0:List Nat:=w16_1++[1]
def w16_2:List Nat:=[1,1,1,1,1,1,1,1]
noncomputable def e16 (J:Nat→Nat→Nat→St→Option Dt→Option Dt) (m:Nat) (p ms:List Nat) (σ:St):=evAt Tryz.prog env (ct m) J (m+1) 52 91 Tryz.f52 d14 p ms σ
noncomputable def l16 (J:Nat→Nat→Nat→St→Option Dt→Option Dt) (m:Nat) (p ms:List Nat) (M:Nat) (σ:St):=loopAt Tryz.prog env (ct m) J (m+1) 52 91 Tryz.f52 d14 p ms M σ
noncomputable def s16_2 (x0:List Dt) (x1 x2 x3:Dt):St:=⟨tsOf [(1,(.dat 22 (.lst x0))),(2,(.ptr 0 [] 0)),(4,(.ptr 1 [] 0)),(5,(.ptr 2 [] 0))],[(.box 33 (.dat 33 x1)),(.box 33 (.dat 33 x2)),(.box 33 (.dat 33 x3))],0⟩
noncomputable def s16_6 (x0 x1:Dt) (x2:List Dt):St:=⟨tsOf [(2,(.ptr 0 [] 0)),(4,(.ptr 1 [] 0)),(9,(.row 2))],[(.box 33 (.dat 33 x0)),(.box 33 (.dat 33 x1)),(.row 23 x2)],0⟩
noncomputable def s16_5 (x0:List Dt) (x1:Int) (x2 x3:Dt):St:=⟨tsOf [(1,(.dat 22 (.lst x0))),(2,(.ptr 0 [] 0)),(4,(.ptr 1 [] 0)),(7,(.dat 3 (.int x1)))],[(.box 33 (.dat 33 x2)),(.box 33 (.dat 33 x3))],0⟩
noncomputable def s16_4 (x0:List Dt) (x1:Int) (x2:Bool) (x3 x4:Dt):St:=⟨tsOf [(1,(.dat 22 (.lst x0))),(2,(.ptr 0 [] 0)),(4,(.ptr 1 [] 0)),(7,(.dat 3 (.int x1))),(65,(.dat 4 (.bool x2)))],[(.box 33 (.dat 33 x3)),(.box 33 (.dat 33 x4))],0⟩
noncomputable def s16_3 (x0:List Dt) (x1 x2:Dt):St:=⟨tsOf [(1,(.dat 22 (.lst x0))),(2,(.ptr 0 [] 0)),(4,(.ptr 1 [] 0))],[(.box 33 (.dat 33 x1)),(.box 33 (.dat 33 x2))],0⟩
theorem ref04_Drop_j2_eq m x0 x1 x2 x3:e16 jn m w16_0 [] (s16_2 x0 x1 x2 x3)=ref04_Drop_j2 m (ref04_Drop m) x0 x1 x2 x3:=
 tre (g:=fun J=>((idx x0 0).bind fun v4=>
  ((cutL x0 1 (List.length x0:Int)).bind fun v5=>
  ((ref04_Drop m x3 v5).bind fun r6=>
  ((ref01_Set m x1 (Dt.toStr v4) r6).bind fun r7=>
  some r7))))) (fun J=>by kernel_rfl) (by rfl)
theorem ref04_Drop_j1_eq m x0 x1 x2 x3:e16 jn m w16_1 [] (s16_2 x0 x1 x2 x3)=ref04_Drop_j1 m (ref04_Drop m) x0 x1 x2 x3:=
 tre (g:=fun J=>(bif ((List.length x0:Int)==1) then
  ((idx x0 0).bind fun v2=>
  ((ref01_Remove m x1 (Dt.toStr v2)).bind fun r3=>
  some r3))
   else
  (jj J 0 9 0 (s16_2 x0 x1 x2 x3) (e16 J m w16_0 [])))) (fun J=>by kernel_rfl) (by simp only[jj_eq,ref04_Drop_j2_eq m];rfl)
theorem ref04_Drop_j6_eq m x0 x1 x2:e16 jn m w16_2 [] (s16_6 x0 x1 x2)=ref04_Drop_j6 m (ref04_Drop m) x0 x1 x2:=
 tre (g:=fun J=>some (Dt.agg [(Dt.int (Dt.I x0 0)),(Dt.int (Dt.I x0 1)),(Dt.str (Dt.S x0 2)),(Dt.lst x2),(Dt.lst (Dt.L x0 4))])) (fun J=>by kernel_rfl) (by rfl)
theorem ref04_Drop_j5_eq m x0 x1 x2 x3:e16 jn m w16_3 [] (s16_5 x0 x1 x2 x3)=ref04_Drop_j5 m (ref04_Drop m) x0 x1 x2 x3:=
 tre (g:=fun J=>((app [] (Dt.L x2 3)).bind fun v10=>
  (bif ((List.length x0:Int)==1) then
  ((ref01_Null m).bind fun r11=>
  ((inL v10 x1).bind fun v12=>
  ((v10[(Int.toNat x1)]?).bind fun v13=>
  (jj J 0 18 0 (s16_6 x2 x3 (List.set v10 (Int.toNat x1) r11)) (e16 J m w16_2 [])))))
  else
  ((inL v10 x1).bind fun v14=>
  ((v10[(Int.toNat x1)]?).bind fun v15=>
  ((cutL x0 1 (List.length x0:Int)).bind fun v16=>
  ((ref04_Drop m v15 v16).bind fun r17=>
  ((inL v10 x1).bind fun v18=>
  ((v10[(Int.toNat x1)]?).bind fun v19=>
  (jj J 0 18 0 (s16_6 x2 x3 (List.set v10 (Int.toNat x1) r17)) (e16 J m w16_2 []))))))))))) (fun J=>by kernel_rfl) (by simp only[jj_eq,ref04_Drop_j6_eq m];rfl)
theorem ref04_Drop_j4_eq m x0 x1 x2 x3 x4:e16 jn m w16_4 [] (s16_4 x0 x1 x2 x3 x4)=ref04_Drop_j4 m (ref04_Drop m) x0 x1 x2 x3 x4:=
 tre (g:=fun J=>(bif x2 then
  some x3
   else
  (jj J 0 13 0 (s16_5 x0 x1 x3 x4) (e16 J m w16_3 [])))) (fun J=>by kernel_rfl) (by simp only[jj_eq,ref04_Drop_j5_eq m];rfl)
theorem ref04_Drop_j3_eq m x0 x1 x2:e16 jn m [1,1,1] [] (s16_3 x0 x1 x2)=ref04_Drop_j3 m (ref04_Drop m) x0 x1 x2:=
 tre (g:=fun J=>((idx x0 0).bind fun v8=>
  ((ref04_Number m (Dt.toStr v8)).bind fun r9=>
  (bif ((Dt.I x1 0) !=6) then
  (jj J 0 12 0 (s16_4 x0 r9.1 true x1 x2) (e16 J m w16_4 []))
  else
  (bif (Bool.not r9.2) then
  (jj J 0 12 0 (s16_4 x0 r9.1 true x1 x2) (e16 J m w16_4 []))
  else
  (jj J 0 12 0 (s16_4 x0 r9.1 (decide ((List.length (Dt.L x1 3):Int)≤r9.1)) x1 x2) (e16 J m w16_4 []))))))) (fun J=>by kernel_rfl) (by simp only[jj_eq,ref04_Drop_j4_eq m];rfl)
theorem ref04_Drop_j0_eq m x0 x1 x2:e16 jn m [1,1] [] (s16_3 x0 x1 x2)=ref04_Drop_j0 m (ref04_Drop m) x0 x1 x2:=
 tre (g:=fun J=>(bif ((Dt.I x1 0)==5) then
  ((idx x0 0).bind fun v0=>
  ((ref01_Get m x1 (Dt.toStr v0)).bind fun r1=>
  (bif (Bool.not r1.2) then
  some x1
  else
  (jj J 0 7 0 (s16_2 x0 x1 x2 r1.1) (e16 J m w16_1 [])))))
   else
  (jj J 0 10 0 (s16_3 x0 x1 x2) (e16 J m [1,1,1] [])))) (fun J=>by kernel_rfl) (by simp only[jj_eq,ref04_Drop_j1_eq m,ref04_Drop_j3_eq m];rfl)
theorem ref04_Drop_eq m a0 a1:e16 jn m [] [] ⟨[(.dat 33 a0),(.dat 22 (.lst a1))],[],0⟩=ref04_Drop (m+1) a0 a1:=
 tre (g:=fun J=>(bif ((List.length a1:Int)==0) then
  some a0
   else
  (jj J 0 3 0 (s16_3 a1 a0 kza2373) (e16 J m [1,1] [])))) (fun J=>by kernel_rfl) (by simp only[jj_eq,ref04_Drop_j0_eq m];rfl)
def w41_1:List Nat:=[1,0,1,0,0,1]
def w41_0:List Nat:=w41_1++[1]
noncomputable def e41 (J:Nat→Nat→Nat→St→Option Dt→Option Dt) (m:Nat) (p ms:List Nat) (σ:St):=evAt Tryz.prog env (ct m) J (m+1) 144 22 Tryz.f144 d14 p ms σ
noncomputable def l41 (J:Nat→Nat→Nat→St→Option Dt→Option Dt) (m:Nat) (p ms:List Nat) (M:Nat) (σ:St):=loopAt Tryz.prog env (ct m) J (m+1) 144 22 Tryz.f144 d14 p ms M σ
noncomputable def s41_3 (x0:List Dt) (x1:Int) (x2 x3:Dt):St:=⟨tsOf [(0,(.dat 22 (.lst x0))),(3,(.ptr 0 [] 0)),(4,(.ptr 1 [] 0)),(5,(.dat 3 (.int x1)))],[(.box 33 (.dat 33 x2)),(.box 33 (.dat 33 x3))],0⟩
noncomputable def s41_4 (x0 x1:Dt):St:=⟨tsOf [(3,(.ptr 0 [] 0)),(4,(.ptr 1 [] 0))],[(.box 33 (.dat 33 x0)),(.box 33 (.dat 33 x1))],0⟩
abbrev H41_1 (m M1:Nat) (rec1:List Dt→Int→Dt→Dt→Option Dt):Prop:=∀x0 x1 x2 x3,l41 jn m [1,0,1,0] [] M1 (s41_3 x0 x1 x2 x3)=rec1 x0 x1 x2 x3
theorem ref04_fresh_j3_eq m M1 rec1 (h1:H41_1 m M1 rec1) x0 x1 x2 x3:e41 jn m w41_0 [M1] (s41_3 x0 x1 x2 x3)=ref04_fresh_j3 m rec1 x0 x1 x2 x3:=
 tre (g:=fun J=>(jj J 1 2 M1 (s41_3 x0 (IntKind.wrap .i64 (x1-1)) x2 x3) (l41 J m [1,0,1,0] [] M1))) (fun J=>by kernel_rfl) (by simp only[jj_eq,h1];rfl)
theorem ref04_fresh_j2_eq m M1 rec1 (h1:H41_1 m M1 rec1) x0 x1 x2 x3:e41 jn m w41_1 [M1] (s41_3 x0 x1 x2 x3)=ref04_fresh_j2 m rec1 x0 x1 x2 x3:=
 tre (g:=fun J=>((idx x0 x1).bind fun v0=>
  (jj J 0 3 0 (s41_3 x0 x1 (Dt.agg [(Dt.int 5),(Dt.int 0),(Dt.str (ByteArray.mk (List.toArray []))),(Dt.lst []),(Dt.lst [(Dt.agg [(Dt.str (Dt.toStr v0)),x2])])]) x3) (e41 J m w41_0 [M1])))) (fun J=>by kernel_rfl) (by simp only[jj_eq,ref04_fresh_j3_eq m M1 rec1 h1];rfl)
theorem ref04_fresh_j4_eq m x0 x1:e41 jn m [1,1] [] (s41_4 x0 x1)=ref04_fresh_j4 m x0 x1:=
 tre (g:=fun J=>some x0) (fun J=>by kernel_rfl) (by rfl)
theorem ref04_fresh_l1_eq m:∀M1 x0 x1 x2 x3,l41 jn m [1,0,1,0] [] M1 (s41_3 x0 x1 x2 x3)=ref04_fresh_l1 m M1 x0 x1 x2 x3
 |0,_,_,_,_=>rfl
 | M1+1,x0,x1,x2,x3=>
   trl (g:=fun J=>(bif (decide (0≤x1)) then
  (jj J 0 4 0 (s41_3 x0 x1 x2 x3) (e41 J m w41_1 [M1]))
   else
  (jj J 0 5 0 (s41_4 x2 x3) (e41 J m [1,1] [])))) (fun J=>by kernel_rfl) (by simp only[jj_eq,ref04_fresh_j2_eq m M1 (ref04_fresh_l1 m M1) (ref04_fresh_l1_eq m M1),ref04_fresh_j4_eq m];rfl)
theorem ref04_fresh_j0_eq m x0 x1 x2 x3:e41 jn m [1,0,1] [] (s41_3 x0 x1 x2 x3)=ref04_fresh_j0 m x0 x1 x2 x3:=
 tre (g:=fun J=>(jj J 1 2 (Nat.succ m) (s41_3 x0 x1 x2 x3) (l41 J m [1,0,1,0] [] (Nat.succ m)))) (fun J=>by kernel_rfl) (by simp only[jj_eq,ref04_fresh_l1_eq m];rfl)
theorem ref04_fresh_eq m a0 a1:e41 jn m [] [] ⟨[(.dat 22 (.lst a0)),(.dat 33 a1)],[],0⟩=ref04_fresh (m+1) a0 a1:=
 tre (g:=fun J=>(jj J 0 2 0 (s41_3 a0 (IntKind.wrap .i64 ((List.length a0:Int)-1)) a1 kza2373) (e41 J m [1,0,1] []))) (fun J=>by kernel_rfl) (by simp only[jj_eq,ref04_fresh_j0_eq m];rfl)
def w29_6:List Nat:=[1,1,1,1,1]
def w29_7:List Nat:=[1,1,1,1,0,1]
def w29_0:List Nat:=[1,1,0,1,0,1,1]
def w29_5:List Nat:=[1,1,1,1,1,1,1]
def w29_4:List Nat:=w29_5++[1]
def w29_1:List Nat:=w29_5++[0,0]
def w29_3:List Nat:=w29_4++[1,1]
def w29_2:List Nat:=w29_1++[0,1]
noncomputable def e29 (J:Nat→Nat→Nat→St→Option (Dt×Bool)→Option (Dt×Bool)) (m:Nat) (p ms:List Nat) (σ:St):=evAt Tryz.prog env (ct m) J (m+1) 98 113 Tryz.f98 d27 p ms σ
noncomputable def l29 (J:Nat→Nat→Nat→St→Option (Dt×Bool)→Option (Dt×Bool)) (m:Nat) (p ms:List Nat) (M:Nat) (σ:St):=loopAt Tryz.prog env (ct m) J (m+1) 98 113 Tryz.f98 d27 p ms M σ
noncomputable def s29_1 (x0:List Dt) (x1 x2 x3 x4:Dt):St:=⟨tsOf [(1,(.dat 22 (.lst x0))),(3,(.ptr 0 [] 0)),(5,(.ptr 1 [] 0)),(6,(.ptr 2 [] 0)),(8,(.ptr 3 [] 0))],[(.box 33 (.dat 33 x1)),(.box 33 (.dat 33 x2)),(.box 33 (.dat 33 x3)),(.box 33 (.dat 33 x4))],0⟩
noncomputable def s29_7 (x0:List Dt) (x1:Int) (x2 x3 x4:Dt) (x5:List Dt):St:=⟨tsOf [(1,(.dat 22 (.lst x0))),(3,(.ptr 0 [] 0)),(5,(.ptr 1 [] 0)),(6,(.ptr 2 [] 0)),(12,(.dat 3 (.int x1))),(14,(.row 3))],[(.box 33 (.dat 33 x2)),(.box 33 (.dat 33 x3)),(.box 33 (.dat 33 x4)),(.row 23 x5)],0⟩
noncomputable def s29_9 (x0:Bool) (x1 x2:Dt) (x3:List Dt):St:=⟨tsOf [(3,(.ptr 0 [] 0)),(6,(.ptr 1 [] 0)),(14,(.row 2)),(15,(.dat 4 (.bool x0)))],[(.box 33 (.dat 33 x1)),(.box 33 (.dat 33 x2)),(.row 23 x3)],0⟩
noncomputable def s29_4 (x0:List Dt) (x1:Int) (x2 x3 x4:Dt):St:=⟨tsOf [(1,(.dat 22 (.lst x0))),(3,(.ptr 0 [] 0)),(5,(.ptr 1 [] 0)),(6,(.ptr 2 [] 0)),(12,(.dat 3 (.int x1)))],[(.box 33 (.dat 33 x2)),(.box 33 (.dat 33 x3)),(.box 33 (.dat 33 x4))],0⟩
noncomputable def s29_3 (x0:List Dt) (x1:Int) (x2:Bool) (x3 x4 x5:Dt):St:=⟨tsOf [(1,(.dat 22 (.lst x0))),(3,(.ptr 0 [] 0)),(5,(.ptr 1 [] 0)),(6,(.ptr 2 [] 0)),(12,(.dat 3 (.int x1))),(70,(.dat 4 (.bool x2)))],[(.box 33 (.dat 33 x3)),(.box 33 (.dat 33 x4)),(.box 33 (.dat 33 x5))],0⟩
noncomputable def s29_2 (x0:List Dt) (x1 x2 x3:Dt):St:=⟨tsOf [(1,(.dat 22 (.lst x0))),(3,(.ptr 0 [] 0)),(5,(.ptr 1 [] 0)),(6,(.ptr 2 [] 0))],[(.box 33 (.dat 33 x1)),(.box 33 (.dat 33 x2)),(.box 33 (.dat 33 x3))],0⟩
theorem ref04_put_j1_eq m x0 x1 x2 x3 x4:e29 jn m w29_0 [] (s29_1 x0 x1 x2 x3 x4)=ref04_put_j1 m (ref04_put m) x0 x1 x2 x3 x4:=
 tre (g:=fun J=>((cutL x0 1 (List.length x0:Int)).bind fun v6=>
  ((ref04_put m x4 v6 x2).bind fun r7=>
  ((idx x0 0).bind fun v8=>
  ((ref01_Set m x1 (Dt.toStr v8) r7.1).bind fun r9=>
  some (r9,r7.2)))))) (fun J=>by kernel_rfl) (by rfl)
abbrev H29_6 (m M6:Nat) (rec6:List Dt→Int→Dt→Dt→Dt→List Dt→Option (Dt×Bool)):Prop:=∀x0 x1 x2 x3 x4 x5,l29 jn m w29_1 [] M6 (s29_7 x0 x1 x2 x3 x4 x5)=rec6 x0 x1 x2 x3 x4 x5
theorem ref04_put_j7_eq m M6 rec6 (h6:H29_6 m M6 rec6) x0 x1 x2 x3 x4 x5:e29 jn m w29_2 [M6] (s29_7 x0 x1 x2 x3 x4 x5)=ref04_put_j7 m (ref04_put m) rec6 x0 x1 x2 x3 x4 x5:=
 tre (g:=fun J=>((ref01_Null m).bind fun r13=>
  ((app x5 [r13]).bind fun v14=>
  (jj J 1 14 M6 (s29_7 x0 x1 x2 x3 x4 v14) (l29 J m w29_1 [] M6))))) (fun J=>by kernel_rfl) (by simp only[jj_eq,h6];rfl)
theorem ref04_put_j9_eq m x0 x1 x2 x3:e29 jn m w29_3 [] (s29_9 x0 x1 x2 x3)=ref04_put_j9 m (ref04_put m) x0 x1 x2 x3:=
 tre (g:=fun J=>some ((Dt.agg [(Dt.int (Dt.I x1 0)),(Dt.int (Dt.I x1 1)),(Dt.str (Dt.S x1 2)),(Dt.lst x3),(Dt.lst (Dt.L x1 4))]),x0)) (fun J=>by kernel_rfl) (by rfl)
theorem ref04_put_j8_eq m x0 x1 x2 x3 x4 x5:e29 jn m w29_4 [] (s29_7 x0 x1 x2 x3 x4 x5)=ref04_put_j8 m (ref04_put m) x0 x1 x2 x3 x4 x5:=
 tre (g:=fun J=>(bif (decide (x1<(List.length x5:Int))) then
  ((inL x5 x1).bind fun v15=>
  ((x5[(Int.toNat x1)]?).bind fun v16=>
  ((cutL x0 1 (List.length x0:Int)).bind fun v17=>
  ((ref04_put m v16 v17 x3).bind fun r18=>
  ((inL x5 x1).bind fun v19=>
  ((x5[(Int.toNat x1)]?).bind fun v20=>
  (jj J 0 20 0 (s29_9 r18.2 x2 x4 (List.set x5 (Int.toNat x1) r18.1)) (e29 J m w29_3 []))))))))
   else
  ((cutL x0 1 (List.length x0:Int)).bind fun v21=>
  ((ref04_fresh m v21 x3).bind fun r22=>
  ((app x5 [r22]).bind fun v23=>
  (jj J 0 20 0 (s29_9 true x2 x4 v23) (e29 J m w29_3 []))))))) (fun J=>by kernel_rfl) (by simp only[jj_eq,ref04_put_j9_eq m];rfl)
theorem ref04_put_l6_eq m:∀M6 x0 x1 x2 x3 x4 x5,l29 jn m w29_1 [] M6 (s29_7 x0 x1 x2 x3 x4 x5)=ref04_put_l6 m (ref04_put m) M6 x0 x1 x2 x3 x4 x5
 |0,_,_,_,_,_,_=>rfl
 | M6+1,x0,x1,x2,x3,x4,x5=>
   trl (g:=fun J=>(bif (decide ((List.length x5:Int)<x1)) then
  (jj J 0 15 0 (s29_7 x0 x1 x2 x3 x4 x5) (e29 J m w29_2 [M6]))
   else
  (jj J 0 16 0 (s29_7 x0 x1 x2 x3 x4 x5) (e29 J m w29_4 [])))) (fun J=>by kernel_rfl) (by simp only[jj_eq,ref04_put_j7_eq m M6 (ref04_put_l6 m (ref04_put m) M6) (ref04_put_l6_eq m M6),ref04_put_j8_eq m];rfl)
theorem ref04_put_j5_eq m x0 x1 x2 x3 x4 x5:e29 jn m w29_5 [] (s29_7 x0 x1 x2 x3 x4 x5)=ref04_put_j5 m (ref04_put m) x0 x1 x2 x3 x4 x5:=
 tre (g:=fun J=>(jj J 1 14 (Nat.succ m) (s29_7 x0 x1 x2 x3 x4 x5) (l29 J m w29_1 [] (Nat.succ m)))) (fun J=>by kernel_rfl) (by simp only[jj_eq,ref04_put_l6_eq m];rfl)
theorem ref04_put_j4_eq m x0 x1 x2 x3 x4:e29 jn m w29_6 [] (s29_4 x0 x1 x2 x3 x4)=ref04_put_j4 m (ref04_put m) x0 x1 x2 x3 x4:=
 tre (g:=fun J=>((app [] (Dt.L x2 3)).bind fun v12=>
  (jj J 0 14 0 (s29_7 x0 x1 x2 x3 x4 v12) (e29 J m w29_5 [])))) (fun J=>by kernel_rfl) (by simp only[jj_eq,ref04_put_j5_eq m];rfl)
theorem ref04_put_j3_eq m x0 x1 x2 x3 x4 x5:e29 jn m w29_7 [] (s29_3 x0 x1 x2 x3 x4 x5)=ref04_put_j3 m (ref04_put m) x0 x1 x2 x3 x4 x5:=
 tre (g:=fun J=>(bif x2 then
  some (kza2373,false)
   else
  (jj J 0 12 0 (s29_4 x0 x1 x3 x4 x5) (e29 J m w29_6 [])))) (fun J=>by kernel_rfl) (by simp only[jj_eq,ref04_put_j4_eq m];rfl)
theorem ref04_put_j2_eq m x0 x1 x2 x3:e29 jn m [1,1,1] [] (s29_2 x0 x1 x2 x3)=ref04_put_j2 m (ref04_put m) x0 x1 x2 x3:=
 tre (g:=fun J=>((idx x0 0).bind fun v10=>
  ((ref04_Number m (Dt.toStr v10)).bind fun r11=>
  (bif ((Dt.I x1 0) !=6) then
  (jj J 0 11 0 (s29_3 x0 r11.1 true x1 x2 x3) (e29 J m w29_7 []))
  else
  (jj J 0 11 0 (s29_3 x0 r11.1 (Bool.not r11.2) x1 x2 x3) (e29 J m w29_7 [])))))) (fun J=>by kernel_rfl) (by simp only[jj_eq,ref04_put_j3_eq m];rfl)
theorem ref04_put_j0_eq m x0 x1 x2 x3:e29 jn m [1,1] [] (s29_2 x0 x1 x2 x3)=ref04_put_j0 m (ref04_put m) x0 x1 x2 x3:=
 tre (g:=fun J=>(bif ((Dt.I x1 0)==5) then
  ((idx x0 0).bind fun v0=>
  ((ref01_Get m x1 (Dt.toStr v0)).bind fun r1=>
  (bif (Bool.not r1.2) then
  ((idx x0 0).bind fun v2=>
  ((cutL x0 1 (List.length x0:Int)).bind fun v3=>
  ((ref04_fresh m v3 x2).bind fun r4=>
  ((ref01_Set m x1 (Dt.toStr v2) r4).bind fun r5=>
  some (r5,true)))))
  else
  (jj J 0 7 0 (s29_1 x0 x1 x2 x3 r1.1) (e29 J m w29_0 [])))))
   else
  (jj J 0 9 0 (s29_2 x0 x1 x2 x3) (e29 J m [1,1,1] [])))) (fun J=>by kernel_rfl) (by simp only[jj_eq,ref04_put_j1_eq m,ref04_put_j2_eq m];rfl)
theorem ref04_put_eq m a0 a1 a2:e29 jn m [] [] ⟨[(.dat 33 a0),(.dat 22 (.lst a1)),(.dat 33 a2)],[],0⟩=ref04_put (m+1) a0 a1 a2:=
 tre (g:=fun J=>(bif ((List.length a1:Int)==0) then
  some (a2,true)
   else
  (jj J 0 3 0 (s29_2 a1 a0 a2 kza2373) (e29 J m [1,1] [])))) (fun J=>by kernel_rfl) (by simp only[jj_eq,ref04_put_j0_eq m];rfl)
def w13_0:List Nat:=[1,1,1,1,1]
noncomputable def e13 (J:Nat→Nat→Nat→St→Option (Dt×Int)→Option (Dt×Int)) (m:Nat) (p ms:List Nat) (σ:St):=evAt Tryz.prog env (ct m) J (m+1) 49 34 Tryz.f49 d13 p ms σ
noncomputable def l13 (J:Nat→Nat→Nat→St→Option (Dt×Int)→Option (Dt×Int)) (m:Nat) (p ms:List Nat) (M:Nat) (σ:St):=loopAt Tryz.prog env (ct m) J (m+1) 49 34 Tryz.f49 d13 p ms M σ
noncomputable def s13_3 (x0 x1:Dt):St:=⟨tsOf [(6,(.ptr 0 [] 0)),(8,(.ptr 1 [] 0))],[(.box 33 (.dat 33 x0)),(.box 33 (.dat 33 x1))],0⟩
noncomputable def s13_2 (x0:List Dt) (x1 x2 x3:Dt):St:=⟨tsOf [(1,(.dat 22 (.lst x0))),(3,(.ptr 0 [] 0)),(5,(.ptr 1 [] 0)),(6,(.ptr 2 [] 0))],[(.box 33 (.dat 33 x1)),(.box 33 (.dat 33 x2)),(.box 33 (.dat 33 x3))],0⟩
noncomputable def s13_1 (x0:List Dt) (x1:Bool) (x2 x3 x4:Dt):St:=⟨tsOf [(1,(.dat 22 (.lst x0))),(3,(.ptr 0 [] 0)),(5,(.ptr 1 [] 0)),(6,(.ptr 2 [] 0)),(21,(.dat 4 (.bool x1)))],[(.box 33 (.dat 33 x2)),(.box 33 (.dat 33 x3)),(.box 33 (.dat 33 x4))],0⟩
theorem ref04_Put_j3_eq m x0 x1:e13 jn m w13_0 [] (s13_3 x0 x1)=ref04_Put_j3 m x0 x1:=
 tre (g:=fun J=>some (x1,0)) (fun J=>by kernel_rfl) (by rfl)
theorem ref04_Put_j2_eq m x0 x1 x2 x3:e13 jn m [1,1,1] [] (s13_2 x0 x1 x2 x3)=ref04_Put_j2 m x0 x1 x2 x3:=
 tre (g:=fun J=>((ref04_put m x1 x0 x2).bind fun r1=>
  (bif (Bool.not r1.2) then
  some (kza2373,10)
  else
  (jj J 0 8 0 (s13_3 x3 r1.1) (e13 J m w13_0 []))))) (fun J=>by kernel_rfl) (by simp only[jj_eq,ref04_Put_j3_eq m];rfl)
theorem ref04_Put_j1_eq m x0 x1 x2 x3 x4:e13 jn m [1,1,0,1] [] (s13_1 x0 x1 x2 x3 x4)=ref04_Put_j1 m x0 x1 x2 x3 x4:=
 tre (g:=fun J=>(bif x1 then
  some (kza2373,8)
   else
  (jj J 0 5 0 (s13_2 x0 x2 x3 x4) (e13 J m [1,1,1] [])))) (fun J=>by kernel_rfl) (by simp only[jj_eq,ref04_Put_j2_eq m];rfl)
theorem ref04_Put_j0_eq m x0 x1 x2 x3:e13 jn m [1,1] [] (s13_2 x0 x1 x2 x3)=ref04_Put_j0 m x0 x1 x2 x3:=
 tre (g:=fun J=>(bif ((Dt.I x1 0) !=5) then
  (jj J 0 4 0 (s13_1 x0 true x1 x2 x3) (e13 J m [1,1,0,1] []))
   else
  (jj J 0 4 0 (s13_1 x0 ((Dt.I x2 0)==0) x1 x2 x3) (e13 J m [1,1,0,1] [])))) (fun J=>by kernel_rfl) (by simp only[jj_eq,ref04_Put_j1_eq m];rfl)
theorem ref04_Put_eq m a0 a1 a2:e13 jn m [] [] ⟨[(.dat 33 a0),(.dat 22 (.lst a1)),(.dat 33 a2)],[],0⟩=ref04_Put (m+1) a0 a1 a2:=
 tre (g:=fun J=>((ref04_Valid m a1).bind fun r0=>
  (bif (Bool.not r0) then
  some (kza2373,10)
  else
  (jj J 0 3 0 (s13_2 a1 a0 a2 kza2373) (e13 J m [1,1] []))))) (fun J=>by kernel_rfl) (by simp only[jj_eq,ref04_Put_j0_eq m];rfl)
def w4_0:List Nat:=[1,1,0,1,0]
def w4_8:List Nat:=[1,1,0,1,0,0,1]
def w4_4:List Nat:=w4_8++[1]
def w4_7:List Nat:=w4_8++[0,0,1,0,1]
def w4_5:List Nat:=w4_7++[0,1]
def w4_1:List Nat:=w4_5++[0]
def w4_6:List Nat:=w4_7++[1,1,1,1]
def w4_3:List Nat:=w4_1++[0,1]
def w4_2:List Nat:=w4_3++[1]
noncomputable def e4 (J:Nat→Nat→Nat→St→Option (List Dt)→Option (List Dt)) (m:Nat) (p ms:List Nat) (σ:St):=evAt Tryz.prog env (ct m) J (m+1) 16 106 Tryz.f16 d4 p ms σ
noncomputable def l4 (J:Nat→Nat→Nat→St→Option (List Dt)→Option (List Dt)) (m:Nat) (p ms:List Nat) (M:Nat) (σ:St):=loopAt Tryz.prog env (ct m) J (m+1) 16 106 Tryz.f16 d4 p ms M σ
noncomputable def s4_7 (x0:List Dt) (x1:ByteArray) (x2:Bool) (x3:List Dt) (x4 x5:Int) (x6:List Dt) (x7:Dt):St:=⟨tsOf [(0,(.dat 22 (.lst x0))),(1,(.dat 9 (.str x1))),(2,(.dat 4 (.bool x2))),(3,(.dat 23 (.lst x3))),(9,(.row 0)),(10,(.dat 3 (.int x4))),(11,(.ptr 1 [] 0)),(12,(.dat 3 (.int x5)))],[(.row 23 x6),(.box 33 (.dat 33 x7))],0⟩
noncomputable def s4_8 (x0:List Dt) (x1:ByteArray) (x2:Bool) (x3:List Dt) (x4:Int) (x5:List Dt):St:=⟨tsOf [(0,(.dat 22 (.lst x0))),(1,(.dat 9 (.str x1))),(2,(.dat 4 (.bool x2))),(3,(.dat 23 (.lst x3))),(9,(.row 0)),(10,(.dat 3 (.int x4)))],[(.row 23 x5)],0⟩
noncomputable def s4_9 (x0:List Dt) (x1:ByteArray) (x2:Bool) (x3:List Dt) (x4:Int) (x5:Bool) (x6:List Dt):St:=⟨tsOf [(0,(.dat 22 (.lst x0))),(1,(.dat 9 (.str x1))),(2,(.dat 4 (.bool x2))),(3,(.dat 23 (.lst x3))),(9,(.row 0)),(10,(.dat 3 (.int x4))),(83,(.dat 4 (.bool x5)))],[(.row 23 x6)],0⟩
noncomputable def s4_3 (x0:List Dt) (x1:ByteArray) (x2:Bool) (x3:List Dt) (x4:Int) (x5:Bool) (x6:List Dt) (x7:Dt):St:=⟨tsOf [(0,(.dat 22 (.lst x0))),(1,(.dat 9 (.str x1))),(2,(.dat 4 (.bool x2))),(3,(.dat 23 (.lst x3))),(9,(.row 0)),(10,(.dat 3 (.int x4))),(11,(.ptr 1 [] 0)),(27,(.dat 4 (.bool x5)))],[(.row 23 x6),(.box 33 (.dat 33 x7))],0⟩
noncomputable def s4_10 (x0:List Dt):St:=⟨tsOf [(9,(.row 0))],[(.row 23 x0)],0⟩
abbrev H4_1 (m M1:Nat) (rec1:List Dt→ByteArray→Bool→List Dt→Int→List Dt→Option (List Dt)):Prop:=∀x0 x1 x2 x3 x4 x5,l4 jn m w4_0 [] M1 (s4_8 x0 x1 x2 x3 x4 x5)=rec1 x0 x1 x2 x3 x4 x5
abbrev H4_5 (m M1 M5:Nat) (rec5:List Dt→ByteArray→Bool→List Dt→Int→Int→List Dt→Dt→Option (List Dt)):Prop:=∀x0 x1 x2 x3 x4 x5 x6 x7,l4 jn m w4_1 [M1] M5 (s4_7 x0 x1 x2 x3 x4 x5 x6 x7)=rec5 x0 x1 x2 x3 x4 x5 x6 x7
theorem ref36_Unwind_j7_eq m M1 rec1 (h1:H4_1 m M1 rec1) M5 rec5 (h5:H4_5 m M1 M5 rec5) x0 x1 x2 x3 x4 x5 x6 x7:e4 jn m w4_2 [M1,M5] (s4_7 x0 x1 x2 x3 x4 x5 x6 x7)=ref36_Unwind_j7 m rec1 rec5 x0 x1 x2 x3 x4 x5 x6 x7:=
 tre (g:=fun J=>(jj J 1 8 M5 (s4_7 x0 x1 x2 x3 x4 (IntKind.wrap .i64 (x5+1)) x6 x7) (l4 J m w4_1 [M1] M5))) (fun J=>by kernel_rfl) (by simp only[jj_eq,h5];rfl)
theorem ref36_Unwind_j6_eq m M1 rec1 (h1:H4_1 m M1 rec1) M5 rec5 (h5:H4_5 m M1 M5 rec5) x0 x1 x2 x3 x4 x5 x6 x7:e4 jn m w4_3 [M1,M5] (s4_7 x0 x1 x2 x3 x4 x5 x6 x7)=ref36_Unwind_j6 m rec1 rec5 x0 x1 x2 x3 x4 x5 x6 x7:=
 tre (g:=fun J=>((idx x3 x4).bind fun v2=>
  ((idx (Dt.L x7 3) x5).bind fun v3=>
  ((ref04_Put m v2 x0 v3).bind fun r4=>
  ((ref36_integer m x5).bind fun r5=>
  ((ref36_with m r4.1 x1 r5).bind fun r6=>
  ((app x6 [r6]).bind fun v7=>
  (jj J 0 9 0 (s4_7 x0 x1 x2 x3 x4 x5 v7 x7) (e4 J m w4_2 [M1,M5]))))))))) (fun J=>by kernel_rfl) (by simp only[jj_eq,ref36_Unwind_j7_eq m M1 rec1 h1 M5 rec5 h5];rfl)
theorem ref36_Unwind_j8_eq m M1 rec1 (h1:H4_1 m M1 rec1) x0 x1 x2 x3 x4 x5:e4 jn m w4_4 [M1] (s4_8 x0 x1 x2 x3 x4 x5)=ref36_Unwind_j8 m rec1 x0 x1 x2 x3 x4 x5:=
 tre (g:=fun J=>(jj J 1 3 M1 (s4_8 x0 x1 x2 x3 (IntKind.wrap .i64 (x4+1)) x5) (l4 J m w4_0 [] M1))) (fun J=>by kernel_rfl) (by simp only[jj_eq,h1];rfl)
theorem ref36_Unwind_l5_eq m M1 rec1 (h1:H4_1 m M1 rec1):∀M5 x0 x1 x2 x3 x4 x5 x6 x7,l4 jn m w4_1 [M1] M5 (s4_7 x0 x1 x2 x3 x4 x5 x6 x7)=ref36_Unwind_l5 m rec1 M5 x0 x1 x2 x3 x4 x5 x6 x7
 |0,_,_,_,_,_,_,_,_=>rfl
 | M5+1,x0,x1,x2,x3,x4,x5,x6,x7=>
   trl (g:=fun J=>(bif (decide (x5<(List.length (Dt.L x7 3):Int))) then
  (jj J 0 10 0 (s4_7 x0 x1 x2 x3 x4 x5 x6 x7) (e4 J m w4_3 [M1,M5]))
   else
  (jj J 0 4 0 (s4_8 x0 x1 x2 x3 x4 x6) (e4 J m w4_4 [M1])))) (fun J=>by kernel_rfl) (by simp only[jj_eq,ref36_Unwind_j6_eq m M1 rec1 h1 M5 (ref36_Unwind_l5 m rec1 M5) (ref36_Unwind_l5_eq m M1 rec1 h1 M5),ref36_Unwind_j8_eq m M1 rec1 h1];rfl)
theorem ref36_Unwind_j4_eq m M1 rec1 (h1:H4_1 m M1 rec1) x0 x1 x2 x3 x4 x5 x6 x7:e4 jn m w4_5 [M1] (s4_7 x0 x1 x2 x3 x4 x5 x6 x7)=ref36_Unwind_j4 m rec1 x0 x1 x2 x3 x4 x5 x6 x7:=
 tre (g:=fun J=>(jj J 1 8 (Nat.succ m) (s4_7 x0 x1 x2 x3 x4 x5 x6 x7) (l4 J m w4_1 [M1] (Nat.succ m)))) (fun J=>by kernel_rfl) (by simp only[jj_eq,ref36_Unwind_l5_eq m M1 rec1 h1];rfl)
theorem ref36_Unwind_j9_eq m M1 rec1 (h1:H4_1 m M1 rec1) x0 x1 x2 x3 x4 x5 x6:e4 jn m w4_6 [M1] (s4_9 x0 x1 x2 x3 x4 x5 x6)=ref36_Unwind_j9 m rec1 x0 x1 x2 x3 x4 x5 x6:=
 tre (g:=fun J=>(bif x5 then
  ((idx x3 x4).bind fun v13=>
  ((ref36_null m).bind fun r14=>
  ((ref36_with m v13 x1 r14).bind fun r15=>
  ((app x6 [r15]).bind fun v16=>
  (jj J 0 4 0 (s4_8 x0 x1 x2 x3 x4 v16) (e4 J m w4_4 [M1]))))))
   else
  (jj J 0 4 0 (s4_8 x0 x1 x2 x3 x4 x6) (e4 J m w4_4 [M1])))) (fun J=>by kernel_rfl) (by simp only[jj_eq,ref36_Unwind_j8_eq m M1 rec1 h1];rfl)
theorem ref36_Unwind_j3_eq m M1 rec1 (h1:H4_1 m M1 rec1) x0 x1 x2 x3 x4 x5 x6 x7:e4 jn m w4_7 [M1] (s4_3 x0 x1 x2 x3 x4 x5 x6 x7)=ref36_Unwind_j3 m rec1 x0 x1 x2 x3 x4 x5 x6 x7:=
 tre (g:=fun J=>(bif x5 then
  (jj J 0 8 0 (s4_7 x0 x1 x2 x3 x4 0 x6 x7) (e4 J m w4_5 [M1]))
   else
  (bif ((Dt.I x7 0)==6) then
  (bif x2 then
  ((idx x3 x4).bind fun v8=>
  ((ref04_Drop m v8 x0).bind fun r9=>
  ((ref36_null m).bind fun r10=>
  ((ref36_with m r9 x1 r10).bind fun r11=>
  ((app x6 [r11]).bind fun v12=>
  (jj J 0 4 0 (s4_8 x0 x1 x2 x3 x4 v12) (e4 J m w4_4 [M1])))))))
  else
  (jj J 0 4 0 (s4_8 x0 x1 x2 x3 x4 x6) (e4 J m w4_4 [M1])))
  else
  (bif x2 then
  (jj J 0 16 0 (s4_9 x0 x1 x2 x3 x4 true x6) (e4 J m w4_6 [M1]))
  else
  (bif ((Dt.I x7 0) !=2) then
  (jj J 0 16 0 (s4_9 x0 x1 x2 x3 x4 ((Dt.I x7 0) !=0) x6) (e4 J m w4_6 [M1]))
  else
  (jj J 0 16 0 (s4_9 x0 x1 x2 x3 x4 false x6) (e4 J m w4_6 [M1]))))))) (fun J=>by kernel_rfl) (by simp only[jj_eq,ref36_Unwind_j4_eq m M1 rec1 h1,ref36_Unwind_j8_eq m M1 rec1 h1,ref36_Unwind_j9_eq m M1 rec1 h1];rfl)
theorem ref36_Unwind_j2_eq m M1 rec1 (h1:H4_1 m M1 rec1) x0 x1 x2 x3 x4 x5:e4 jn m w4_8 [M1] (s4_8 x0 x1 x2 x3 x4 x5)=ref36_Unwind_j2 m rec1 x0 x1 x2 x3 x4 x5:=
 tre (g:=fun J=>((idx x3 x4).bind fun v0=>
  ((ref04_Get m v0 x0).bind fun r1=>
  (bif ((Dt.I r1 0)==6) then
  (jj J 0 7 0 (s4_3 x0 x1 x2 x3 x4 (decide (0<(List.length (Dt.L r1 3):Int))) x5 r1) (e4 J m w4_7 [M1]))
  else
  (jj J 0 7 0 (s4_3 x0 x1 x2 x3 x4 false x5 r1) (e4 J m w4_7 [M1])))))) (fun J=>by kernel_rfl) (by simp only[jj_eq,ref36_Unwind_j3_eq m M1 rec1 h1];rfl)
theorem ref36_Unwind_j10_eq m x0:e4 jn m [1,1,1] [] (s4_10 x0)=ref36_Unwind_j10 m x0:=
 tre (g:=fun J=>some x0) (fun J=>by kernel_rfl) (by rfl)
theorem ref36_Unwind_l1_eq m:∀M1 x0 x1 x2 x3 x4 x5,l4 jn m w4_0 [] M1 (s4_8 x0 x1 x2 x3 x4 x5)=ref36_Unwind_l1 m M1 x0 x1 x2 x3 x4 x5
 |0,_,_,_,_,_,_=>rfl
 | M1+1,x0,x1,x2,x3,x4,x5=>
   trl (g:=fun J=>(bif (decide (x4<(List.length x3:Int))) then
  (jj J 0 5 0 (s4_8 x0 x1 x2 x3 x4 x5) (e4 J m w4_8 [M1]))
   else
  (jj J 0 17 0 (s4_10 x5) (e4 J m [1,1,1] [])))) (fun J=>by kernel_rfl) (by simp only[jj_eq,ref36_Unwind_j2_eq m M1 (ref36_Unwind_l1 m M1) (ref36_Unwind_l1_eq m M1),ref36_Unwind_j10_eq m];rfl)
theorem ref36_Unwind_j0_eq m x0 x1 x2 x3 x4 x5:e4 jn m [1,1,0,1] [] (s4_8 x0 x1 x2 x3 x4 x5)=ref36_Unwind_j0 m x0 x1 x2 x3 x4 x5:=
 tre (g:=fun J=>(jj J 1 3 (Nat.succ m) (s4_8 x0 x1 x2 x3 x4 x5) (l4 J m w4_0 [] (Nat.succ m)))) (fun J=>by kernel_rfl) (by simp only[jj_eq,ref36_Unwind_l1_eq m];rfl)
theorem ref36_Unwind_eq m a0 a1 a2 a3:e4 jn m [] [] ⟨[(.dat 22 (.lst a0)),(.dat 9 (.str a1)),(.dat 4 (.bool a2)),(.dat 23 (.lst a3))],[],0⟩=ref36_Unwind (m+1) a0 a1 a2 a3:=
 tre (g:=fun J=>(jj J 0 3 0 (s4_8 a0 a1 a2 a3 0 []) (e4 J m [1,1,0,1] []))) (fun J=>by kernel_rfl) (by simp only[jj_eq,ref36_Unwind_j0_eq m];rfl)
def w46_7:List Nat:=[1,1,0,1,0,1,1]
def w46_0:List Nat:=w46_7++[0]
def w46_6:List Nat:=[1,1,1,0,1,0,1,1]
def w46_3:List Nat:=w46_6++[0]
def w46_2:List Nat:=w46_0++[0,1,1]
def w46_1:List Nat:=w46_2++[1]
def w46_5:List Nat:=w46_3++[0,1,1]
def w46_4:List Nat:=w46_5++[1]
noncomputable def e46 (J:Nat→Nat→Nat→St→Option (Int×Int×ByteArray×List Dt×List Dt)→Option (Int×Int×ByteArray×List Dt×List Dt)) (m:Nat) (p ms:List Nat) (σ:St):=evAt Tryz.prog env (ct m) J (m+1) 170 68 Tryz.f170 d38 p ms σ
noncomputable def l46 (J:Nat→Nat→Nat→St→Option (Int×Int×ByteArray×List Dt×List Dt)→Option (Int×Int×ByteArray×List Dt×List Dt)) (m:Nat) (p ms:List Nat) (M:Nat) (σ:St):=loopAt Tryz.prog env (ct m) J (m+1) 170 68 Tryz.f170 d38 p ms M σ
noncomputable def s46_3 (x0:List Dt) (x1 x2:Int) (x3 x4:Dt) (x5 x6:Int) (x7:ByteArray) (x8 x9:List Dt):St:=⟨tsOf [(1,(.ptr 0 [] 0)),(2,(.ptr 1 [] 0)),(3,(.ptr 2 [] 0)),(25,(.dat 23 (.lst x0))),(26,(.dat 3 (.int x1))),(27,(.dat 3 (.int x2)))],[(.box 33 (.dat 33 x3)),(.box 33 (.dat 33 x4)),(.box 33 (.agg 33 [(.dat 3 (.int x5)),(.dat 3 (.int x6)),(.dat 9 (.str x7)),(.row 3),(.row 4)])),(.row 23 x8),(.row 31 x9)],0⟩
noncomputable def s46_8 (x0:List Dt) (x1 x2:Int) (x3:Dt) (x4 x5:Int) (x6:ByteArray) (x7 x8:List Dt):St:=⟨tsOf [(2,(.ptr 0 [] 0)),(3,(.ptr 1 [] 0)),(49,(.dat 31 (.lst x0))),(50,(.dat 3 (.int x1))),(51,(.dat 3 (.int x2)))],[(.box 33 (.dat 33 x3)),(.box 33 (.agg 33 [(.dat 3 (.int x4)),(.dat 3 (.int x5)),(.dat 9 (.str x6)),(.row 2),(.row 3)])),(.row 23 x7),(.row 31 x8)],0⟩
noncomputable def s46_9 (x0:Dt) (x1 x2:Int) (x3:ByteArray) (x4 x5:List Dt):St:=⟨tsOf [(2,(.ptr 0 [] 0)),(3,(.ptr 1 [] 0))],[(.box 33 (.dat 33 x0)),(.box 33 (.agg 33 [(.dat 3 (.int x1)),(.dat 3 (.int x2)),(.dat 9 (.str x3)),(.row 2),(.row 3)])),(.row 23 x4),(.row 31 x5)],0⟩
noncomputable def s46_4 (x0 x1:Dt) (x2 x3:Int) (x4:ByteArray) (x5 x6:List Dt):St:=⟨tsOf [(1,(.ptr 0 [] 0)),(2,(.ptr 1 [] 0)),(3,(.ptr 2 [] 0))],[(.box 33 (.dat 33 x0)),(.box 33 (.dat 33 x1)),(.box 33 (.agg 33 [(.dat 3 (.int x2)),(.dat 3 (.int x3)),(.dat 9 (.str x4)),(.row 3),(.row 4)])),(.row 23 x5),(.row 31 x6)],0⟩
abbrev H46_1 (m M1:Nat) (rec1:List Dt→Int→Int→Dt→Dt→Int→Int→ByteArray→List Dt→List Dt→Option (Int×Int×ByteArray×List Dt×List Dt)):Prop:=∀x0 x1 x2 x3 x4 x5 x6 x7 x8 x9,l46 jn m w46_0 [] M1 (s46_3 x0 x1 x2 x3 x4 x5 x6 x7 x8 x9)=rec1 x0 x1 x2 x3 x4 x5 x6 x7 x8 x9
theorem value_clone_j3_eq m M1 rec1 (h1:H46_1 m M1 rec1) x0 x1 x2 x3 x4 x5 x6 x7 x8 x9:e46 jn m w46_1 [M1] (s46_3 x0 x1 x2 x3 x4 x5 x6 x7 x8 x9)=value_clone_j3 m (value_clone m) rec1 x0 x1 x2 x3 x4 x5 x6 x7 x8 x9:=
 tre (g:=fun J=>(jj J 1 5 M1 (s46_3 x0 x1 (IntKind.wrap .i64 (x2+1)) x3 x4 x5 x6 x7 x8 x9) (l46 J m w46_0 [] M1))) (fun J=>by kernel_rfl) (by simp only[jj_eq,h1];rfl)
theorem value_clone_j2_eq m M1 rec1 (h1:H46_1 m M1 rec1) x0 x1 x2 x3 x4 x5 x6 x7 x8 x9:e46 jn m w46_2 [M1] (s46_3 x0 x1 x2 x3 x4 x5 x6 x7 x8 x9)=value_clone_j2 m (value_clone m) rec1 x0 x1 x2 x3 x4 x5 x6 x7 x8 x9:=
 tre (g:=fun J=>((idx x0 x2).bind fun v1=>
  ((value_clone m v1).bind fun r2=>
  ((inL x8 x2).bind fun v3=>
  ((x8[(Int.toNat x2)]?).bind fun v4=>
  (jj J 0 8 0 (s46_3 x0 x1 x2 x3 x4 x5 x6 x7 (List.set x8 (Int.toNat x2) (Dt.agg [(Dt.int r2.1),(Dt.int r2.2.1),(Dt.str r2.2.2.1),(Dt.lst r2.2.2.2.1),(Dt.lst r2.2.2.2.2)])) x9) (e46 J m w46_1 [M1]))))))) (fun J=>by kernel_rfl) (by simp only[jj_eq,value_clone_j3_eq m M1 rec1 h1];rfl)
abbrev H46_6 (m M6:Nat) (rec6:List Dt→Int→Int→Dt→Int→Int→ByteArray→List Dt→List Dt→Option (Int×Int×ByteArray×List Dt×List Dt)):Prop:=∀x0 x1 x2 x3 x4 x5 x6 x7 x8,l46 jn m w46_3 [] M6 (s46_8 x0 x1 x2 x3 x4 x5 x6 x7 x8)=rec6 x0 x1 x2 x3 x4 x5 x6 x7 x8
theorem value_clone_j8_eq m M6 rec6 (h6:H46_6 m M6 rec6) x0 x1 x2 x3 x4 x5 x6 x7 x8:e46 jn m w46_4 [M6] (s46_8 x0 x1 x2 x3 x4 x5 x6 x7 x8)=value_clone_j8 m (value_clone m) rec6 x0 x1 x2 x3 x4 x5 x6 x7 x8:=
 tre (g:=fun J=>(jj J 1 12 M6 (s46_8 x0 x1 (IntKind.wrap .i64 (x2+1)) x3 x4 x5 x6 x7 x8) (l46 J m w46_3 [] M6))) (fun J=>by kernel_rfl) (by simp only[jj_eq,h6];rfl)
theorem value_clone_j7_eq m M6 rec6 (h6:H46_6 m M6 rec6) x0 x1 x2 x3 x4 x5 x6 x7 x8:e46 jn m w46_5 [M6] (s46_8 x0 x1 x2 x3 x4 x5 x6 x7 x8)=value_clone_j7 m (value_clone m) rec6 x0 x1 x2 x3 x4 x5 x6 x7 x8:=
 tre (g:=fun J=>((idx x0 x2).bind fun v6=>
  ((value_clone m (Dt.fld v6 1)).bind fun r7=>
  ((inL x8 x2).bind fun v8=>
  ((x8[(Int.toNat x2)]?).bind fun v9=>
  (jj J 0 15 0 (s46_8 x0 x1 x2 x3 x4 x5 x6 x7 (List.set x8 (Int.toNat x2) (Dt.agg [(Dt.str (Dt.S v6 0)),(Dt.agg [(Dt.int r7.1),(Dt.int r7.2.1),(Dt.str r7.2.2.1),(Dt.lst r7.2.2.2.1),(Dt.lst r7.2.2.2.2)])]))) (e46 J m w46_4 [M6]))))))) (fun J=>by kernel_rfl) (by simp only[jj_eq,value_clone_j8_eq m M6 rec6 h6];rfl)
theorem value_clone_j9_eq m x0 x1 x2 x3 x4 x5:e46 jn m [1,1,1,1] [] (s46_9 x0 x1 x2 x3 x4 x5)=value_clone_j9 m (value_clone m) x0 x1 x2 x3 x4 x5:=
 tre (g:=fun J=>some (x1,x2,x3,x4,x5)) (fun J=>by kernel_rfl) (by rfl)
theorem value_clone_l6_eq m:∀M6 x0 x1 x2 x3 x4 x5 x6 x7 x8,l46 jn m w46_3 [] M6 (s46_8 x0 x1 x2 x3 x4 x5 x6 x7 x8)=value_clone_l6 m (value_clone m) M6 x0 x1 x2 x3 x4 x5 x6 x7 x8
 |0,_,_,_,_,_,_,_,_,_=>rfl
 | M6+1,x0,x1,x2,x3,x4,x5,x6,x7,x8=>
   trl (g:=fun J=>(bif (decide (x2<x1)) then
  (jj J 0 13 0 (s46_8 x0 x1 x2 x3 x4 x5 x6 x7 x8) (e46 J m w46_5 [M6]))
   else
  (jj J 0 16 0 (s46_9 x3 x4 x5 x6 x7 x8) (e46 J m [1,1,1,1] [])))) (fun J=>by kernel_rfl) (by simp only[jj_eq,value_clone_j7_eq m M6 (value_clone_l6 m (value_clone m) M6) (value_clone_l6_eq m M6),value_clone_j9_eq m];rfl)
theorem value_clone_j5_eq m x0 x1 x2 x3 x4 x5 x6 x7 x8:e46 jn m w46_6 [] (s46_8 x0 x1 x2 x3 x4 x5 x6 x7 x8)=value_clone_j5 m (value_clone m) x0 x1 x2 x3 x4 x5 x6 x7 x8:=
 tre (g:=fun J=>(jj J 1 12 (Nat.succ m) (s46_8 x0 x1 x2 x3 x4 x5 x6 x7 x8) (l46 J m w46_3 [] (Nat.succ m)))) (fun J=>by kernel_rfl) (by simp only[jj_eq,value_clone_l6_eq m];rfl)
theorem value_clone_j4_eq m x0 x1 x2 x3 x4 x5 x6:e46 jn m [1,1,1] [] (s46_4 x0 x1 x2 x3 x4 x5 x6)=value_clone_j4 m (value_clone m) x0 x1 x2 x3 x4 x5 x6:=
 tre (g:=fun J=>(bif (decide (0<(List.length (Dt.L x0 4):Int))) then
  ((mkL (List.length (Dt.L x0 4):Int) (List.length (Dt.L x0 4):Int) kzcda49).bind fun v5=>
  (jj J 0 12 0 (s46_8 (Dt.L x0 4) (List.length (Dt.L x0 4):Int) 0 x1 x2 x3 x4 x5 v5) (e46 J m w46_6 [])))
   else
  (jj J 0 16 0 (s46_9 x1 x2 x3 x4 x5 x6) (e46 J m [1,1,1,1] [])))) (fun J=>by kernel_rfl) (by simp only[jj_eq,value_clone_j5_eq m,value_clone_j9_eq m];rfl)
theorem value_clone_l1_eq m:∀M1 x0 x1 x2 x3 x4 x5 x6 x7 x8 x9,l46 jn m w46_0 [] M1 (s46_3 x0 x1 x2 x3 x4 x5 x6 x7 x8 x9)=value_clone_l1 m (value_clone m) M1 x0 x1 x2 x3 x4 x5 x6 x7 x8 x9
 |0,_,_,_,_,_,_,_,_,_,_=>rfl
 | M1+1,x0,x1,x2,x3,x4,x5,x6,x7,x8,x9=>
   trl (g:=fun J=>(bif (decide (x2<x1)) then
  (jj J 0 6 0 (s46_3 x0 x1 x2 x3 x4 x5 x6 x7 x8 x9) (e46 J m w46_2 [M1]))
   else
  (jj J 0 9 0 (s46_4 x3 x4 x5 x6 x7 x8 x9) (e46 J m [1,1,1] [])))) (fun J=>by kernel_rfl) (by simp only[jj_eq,value_clone_j2_eq m M1 (value_clone_l1 m (value_clone m) M1) (value_clone_l1_eq m M1),value_clone_j4_eq m];rfl)
theorem value_clone_j0_eq m x0 x1 x2 x3 x4 x5 x6 x7 x8 x9:e46 jn m w46_7 [] (s46_3 x0 x1 x2 x3 x4 x5 x6 x7 x8 x9)=value_clone_j0 m (value_clone m) x0 x1 x2 x3 x4 x5 x6 x7 x8 x9:=
 tre (g:=fun J=>(jj J 1 5 (Nat.succ m) (s46_3 x0 x1 x2 x3 x4 x5 x6 x7 x8 x9) (l46 J m w46_0 [] (Nat.succ m)))) (fun J=>by kernel_rfl) (by simp only[jj_eq,value_clone_l1_eq m];rfl)
theorem value_clone_eq m a0:e46 jn m [] [] ⟨[(.dat 33 a0)],[],0⟩=value_clone (m+1) a0:=
 tre (g:=fun J=>(bif (decide (0<(List.length (Dt.L a0 3):Int))) then
  ((mkL (List.length (Dt.L a0 3):Int) (List.length (Dt.L a0 3):Int) kza2373).bind fun v0=>
  (jj J 0 5 0 (s46_3 (Dt.L a0 3) (List.length (Dt.L a0 3):Int) 0 a0 kza2373 (Dt.I a0 0) (Dt.I a0 1) (Dt.S a0 2) v0 []) (e46 J m w46_7 [])))
   else
  (jj J 0 9 0 (s46_4 a0 kza2373 (Dt.I a0 0) (Dt.I a0 1) (Dt.S a0 2) [] []) (e46 J m [1,1,1] [])))) (fun J=>by kernel_rfl) (by simp only[jj_eq,value_clone_j0_eq m,value_clone_j4_eq m];rfl)
def w47_0:List Nat:=[1,1,0,1,0]
def w47_2:List Nat:=[1,1,0,1,0,0,1,1]
def w47_1:List Nat:=w47_2++[1]
noncomputable def e47 (J:Nat→Nat→Nat→St→Option Int→Option Int) (m:Nat) (p ms:List Nat) (σ:St):=evAt Tryz.prog env (ct m) J (m+1) 171 25 Tryz.f171 d36 p ms σ
noncomputable def l47 (J:Nat→Nat→Nat→St→Option Int→Option Int) (m:Nat) (p ms:List Nat) (M:Nat) (σ:St):=loopAt Tryz.prog env (ct m) J (m+1) 171 25 Tryz.f171 d36 p ms M σ
noncomputable def s47_4 (x0:ByteArray) (x1 x2:Int) (x3:Dt):St:=⟨tsOf [(1,(.dat 9 (.str x0))),(2,(.ptr 0 [] 0)),(11,(.dat 3 (.int x1))),(12,(.dat 3 (.int x2)))],[(.box 33 (.dat 33 x3))],0⟩
noncomputable def s47_5:St:=⟨tsOf [],[],0⟩
noncomputable def s47_0 (x0:ByteArray) (x1:Dt):St:=⟨tsOf [(1,(.dat 9 (.str x0))),(2,(.ptr 0 [] 0))],[(.box 33 (.dat 33 x1))],0⟩
abbrev H47_2 (m M2:Nat) (rec2:ByteArray→Int→Int→Dt→Option Int):Prop:=∀x0 x1 x2 x3,l47 jn m w47_0 [] M2 (s47_4 x0 x1 x2 x3)=rec2 x0 x1 x2 x3
theorem value_find_j4_eq m M2 rec2 (h2:H47_2 m M2 rec2) x0 x1 x2 x3:e47 jn m w47_1 [M2] (s47_4 x0 x1 x2 x3)=value_find_j4 m rec2 x0 x1 x2 x3:=
 tre (g:=fun J=>(jj J 1 4 M2 (s47_4 x0 x1 (IntKind.wrap .i64 (x2+1)) x3) (l47 J m w47_0 [] M2))) (fun J=>by kernel_rfl) (by simp only[jj_eq,h2];rfl)
theorem value_find_j3_eq m M2 rec2 (h2:H47_2 m M2 rec2) x0 x1 x2 x3:e47 jn m w47_2 [M2] (s47_4 x0 x1 x2 x3)=value_find_j3 m rec2 x0 x1 x2 x3:=
 tre (g:=fun J=>((idx (Dt.L x3 4) x2).bind fun v0=>
  (bif ((ByteArray.toList (Dt.S v0 0))==(ByteArray.toList x0)) then
  some x2
  else
  (jj J 0 8 0 (s47_4 x0 x1 x2 x3) (e47 J m w47_1 [M2]))))) (fun J=>by kernel_rfl) (by simp only[jj_eq,value_find_j4_eq m M2 rec2 h2];rfl)
theorem value_find_j5_eq m:e47 jn m [1,1,1] [] s47_5=value_find_j5 m:=
 tre (g:=fun J=>some (-1)) (fun J=>by kernel_rfl) (by rfl)
theorem value_find_l2_eq m:∀M2 x0 x1 x2 x3,l47 jn m w47_0 [] M2 (s47_4 x0 x1 x2 x3)=value_find_l2 m M2 x0 x1 x2 x3
 |0,_,_,_,_=>rfl
 | M2+1,x0,x1,x2,x3=>
   trl (g:=fun J=>(bif (decide (x2<x1)) then
  (jj J 0 5 0 (s47_4 x0 x1 x2 x3) (e47 J m w47_2 [M2]))
   else
  (jj J 0 9 0 s47_5 (e47 J m [1,1,1] [])))) (fun J=>by kernel_rfl) (by simp only[jj_eq,value_find_j3_eq m M2 (value_find_l2 m M2) (value_find_l2_eq m M2),value_find_j5_eq m];rfl)
theorem value_find_j1_eq m x0 x1 x2 x3:e47 jn m [1,1,0,1] [] (s47_4 x0 x1 x2 x3)=value_find_j1 m x0 x1 x2 x3:=
 tre (g:=fun J=>(jj J 1 4 (Nat.succ m) (s47_4 x0 x1 x2 x3) (l47 J m w47_0 [] (Nat.succ m)))) (fun J=>by kernel_rfl) (by simp only[jj_eq,value_find_l2_eq m];rfl)
theorem value_find_j0_eq m x0 x1:e47 jn m [1,1] [] (s47_0 x0 x1)=value_find_j0 m x0 x1:=
 tre (g:=fun J=>(jj J 0 4 0 (s47_4 x0 (List.length (Dt.L x1 4):Int) 0 x1) (e47 J m [1,1,0,1] []))) (fun J=>by kernel_rfl) (by simp only[jj_eq,value_find_j1_eq m];rfl)
theorem value_find_eq m a0 a1:e47 jn m [] [] ⟨[(.dat 33 a0),(.dat 9 (.str a1))],[],0⟩=value_find (m+1) a0 a1:=
 tre (g:=fun J=>(bif ((Dt.I a0 0) !=5) then
  some (-1)
   else
  (jj J 0 3 0 (s47_0 a1 a0) (e47 J m [1,1] [])))) (fun J=>by kernel_rfl) (by simp only[jj_eq,value_find_j0_eq m];rfl)
noncomputable def e39 (J:Nat→Nat→Nat→St→Option Dt→Option Dt) (m:Nat) (p ms:List Nat) (σ:St):=evAt Tryz.prog env (ct m) J (m+1) 123 38 Tryz.f123 d14 p ms σ
noncomputable def l39 (J:Nat→Nat→Nat→St→Option Dt→Option Dt) (m:Nat) (p ms:List Nat) (M:Nat) (σ:St):=loopAt Tryz.prog env (ct m) J (m+1) 123 38 Tryz.f123 d14 p ms M σ
noncomputable def s39_1 (x0:ByteArray) (x1 x2:Dt) (x3 x4:Int) (x5:ByteArray) (x6 x7:List Dt):St:=⟨tsOf [(1,(.dat 9 (.str x0))),(5,(.ptr 0 [] 0)),(6,(.ptr 1 [] 0)),(7,(.ptr 2 [] 0))],[(.box 33 (.dat 33 x1)),(.box 33 (.dat 33 x2)),(.box 33 (.agg 33 [(.dat 3 (.int x3)),(.dat 3 (.int x4)),(.dat 9 (.str x5)),(.row 3),(.row 4)])),(.row 23 x6),(.row 31 x7)],0⟩
theorem value_Set_j1_eq m x0 x1 x2 x3 x4 x5 x6 x7:e39 jn m [1,1,1,1] [] (s39_1 x0 x1 x2 x3 x4 x5 x6 x7)=value_Set_j1 m x0 x1 x2 x3 x4 x5 x6 x7:=
 tre (g:=fun J=>((value_clone m x1).bind fun r5=>
  ((app x7 [(Dt.agg [(Dt.str x0),(Dt.agg [(Dt.int r5.1),(Dt.int r5.2.1),(Dt.str r5.2.2.1),(Dt.lst r5.2.2.2.1),(Dt.lst r5.2.2.2.2)])])]).bind fun v6=>
  some (Dt.agg [(Dt.int x3),(Dt.int x4),(Dt.str x5),(Dt.lst x6),(Dt.lst v6)])))) (fun J=>by kernel_rfl) (by rfl)
theorem value_Set_j0_eq m x0 x1 x2 x3 x4 x5 x6 x7:e39 jn m [1,1,1] [] (s39_1 x0 x1 x2 x3 x4 x5 x6 x7)=value_Set_j0 m x0 x1 x2 x3 x4 x5 x6 x7:=
 tre (g:=fun J=>((value_find m (Dt.agg [(Dt.int x3),(Dt.int x4),(Dt.str x5),(Dt.lst x6),(Dt.lst x7)]) x0).bind fun r1=>
  (bif (decide (0≤r1)) then
  ((value_clone m x1).bind fun r2=>
  ((inL x7 r1).bind fun v3=>
  ((x7[(Int.toNat r1)]?).bind fun v4=>
  some (Dt.agg [(Dt.int x3),(Dt.int x4),(Dt.str x5),(Dt.lst x6),(Dt.lst (List.set x7 (Int.toNat r1) (Dt.agg [(Dt.str (Dt.S v4 0)),(Dt.agg [(Dt.int r2.1),(Dt.int r2.2.1),(Dt.str r2.2.2.1),(Dt.lst r2.2.2.2.1),(Dt.lst r2.2.2.2.2)])])))]))))
  else
  (jj J 0 8 0 (s39_1 x0 x1 x2 x3 x4 x5 x6 x7) (e39 J m [1,1,1,1] []))))) (fun J=>by kernel_rfl) (by simp only[jj_eq,value_Set_j1_eq m];rfl)
theorem value_Set_eq m a0 a1 a2:e39 jn m [] [] ⟨[(.dat 33 a0),(.dat 9 (.str a1)),(.dat 33 a2)],[],0⟩=value_Set (m+1) a0 a1 a2:=
 tre (g:=fun J=>((value_clone m a0).bind fun r0=>
  (bif (r0.1 !=5) then
  some (Dt.agg [(Dt.int r0.1),(Dt.int r0.2.1),(Dt.str r0.2.2.1),(Dt.lst r0.2.2.2.1),(Dt.lst r0.2.2.2.2)])
  else
  (jj J 0 4 0 (s39_1 a1 a2 kza2373 r0.1 r0.2.1 r0.2.2.1 r0.2.2.2.1 r0.2.2.2.2) (e39 J m [1,1,1] []))))) (fun J=>by kernel_rfl) (by simp only[jj_eq,value_Set_j0_eq m];rfl)
noncomputable def e24 (J:Nat→Nat→Nat→St→Option Dt→Option Dt) (m:Nat) (p ms:List Nat) (σ:St):=evAt Tryz.prog env (ct m) J (m+1) 77 14 Tryz.f77 d14 p ms σ
noncomputable def l24 (J:Nat→Nat→Nat→St→Option Dt→Option Dt) (m:Nat) (p ms:List Nat) (M:Nat) (σ:St):=loopAt Tryz.prog env (ct m) J (m+1) 77 14 Tryz.f77 d14 p ms M σ
noncomputable def s24_0 (x0:ByteArray) (x1 x2 x3:Dt):St:=⟨tsOf [(1,(.dat 9 (.str x0))),(3,(.ptr 0 [] 0)),(5,(.ptr 1 [] 0)),(6,(.ptr 2 [] 0))],[(.box 33 (.dat 33 x1)),(.box 33 (.dat 33 x2)),(.box 33 (.dat 33 x3))],0⟩
theorem reshape_named_j0_eq m x0 x1 x2 x3:e24 jn m [1,1] [] (s24_0 x0 x1 x2 x3)=reshape_named_j0 m x0 x1 x2 x3:=
 tre (g:=fun J=>((value_Set m x1 x0 x2).bind fun r0=>
  some r0)) (fun J=>by kernel_rfl) (by rfl)
theorem reshape_named_eq m a0 a1 a2:e24 jn m [] [] ⟨[(.dat 33 a0),(.dat 9 (.str a1)),(.dat 33 a2)],[],0⟩=reshape_named (m+1) a0 a1 a2:=
 tre (g:=fun J=>(bif ((ByteArray.toList a1)==[]) then
  some a0
   else
  (jj J 0 3 0 (s24_0 a1 a0 a2 kza2373) (e24 J m [1,1] [])))) (fun J=>by kernel_rfl) (by simp only[jj_eq,reshape_named_j0_eq m];rfl)
def w11_8:List Nat:=[1,1,1,0,0,1]
def w11_7:List Nat:=w11_8++[1,1]
def w11_3:List Nat:=w11_8++[0,1,1]
def w11_4:List Nat:=w11_8++[0,1,0,1]
def w11_6:List Nat:=w11_7++[0,1]
def w11_0:List Nat:=w11_4++[0]
def w11_5:List Nat:=w11_6++[1,1]
def w11_2:List Nat:=w11_0++[0,1,1]
def w11_1:List Nat:=w11_2++[1]
noncomputable def e11 (J:Nat→Nat→Nat→St→Option (List Dt)→Option (List Dt)) (m:Nat) (p ms:List Nat) (σ:St):=evAt Tryz.prog env (ct m) J (m+1) 47 95 Tryz.f47 d4 p ms σ
noncomputable def l11 (J:Nat→Nat→Nat→St→Option (List Dt)→Option (List Dt)) (m:Nat) (p ms:List Nat) (M:Nat) (σ:St):=loopAt Tryz.prog env (ct m) J (m+1) 47 95 Tryz.f47 d4 p ms M σ
noncomputable def s11_5 (x0:List Dt) (x1:ByteArray) (x2:List Dt) (x3 x4:Int) (x5:Dt) (x6:List Dt):St:=⟨tsOf [(0,(.dat 22 (.lst x0))),(1,(.dat 9 (.str x1))),(7,(.ptr 0 [] 0)),(11,(.row 1)),(38,(.dat 23 (.lst x2))),(39,(.dat 3 (.int x3))),(40,(.dat 3 (.int x4)))],[(.box 33 (.dat 33 x5)),(.row 23 x6)],0⟩
noncomputable def s11_6 (x0:List Dt):St:=⟨tsOf [(11,(.row 0))],[(.row 23 x0)],0⟩
noncomputable def s11_9 (x0:ByteArray) (x1:Dt):St:=⟨tsOf [(1,(.dat 9 (.str x0))),(16,(.ptr 0 [] 0))],[(.box 33 (.dat 33 x1))],0⟩
noncomputable def s11_8 (x0:List Dt) (x1:ByteArray) (x2:Bool) (x3:Dt):St:=⟨tsOf [(0,(.dat 22 (.lst x0))),(1,(.dat 9 (.str x1))),(7,(.ptr 0 [] 0)),(10,(.dat 4 (.bool x2)))],[(.box 33 (.dat 33 x3))],0⟩
noncomputable def s11_10 (x0:ByteArray) (x1:Dt):St:=⟨tsOf [(1,(.dat 9 (.str x0))),(7,(.ptr 0 [] 0))],[(.box 33 (.dat 33 x1))],0⟩
noncomputable def s11_7 (x0:List Dt) (x1:ByteArray) (x2 x3 x4:Bool) (x5:Dt):St:=⟨tsOf [(0,(.dat 22 (.lst x0))),(1,(.dat 9 (.str x1))),(2,(.dat 4 (.bool x2))),(7,(.ptr 0 [] 0)),(10,(.dat 4 (.bool x3))),(64,(.dat 4 (.bool x4)))],[(.box 33 (.dat 33 x5))],0⟩
noncomputable def s11_1 (x0:List Dt) (x1:ByteArray) (x2 x3 x4:Bool) (x5 x6:Dt):St:=⟨tsOf [(0,(.dat 22 (.lst x0))),(1,(.dat 9 (.str x1))),(2,(.dat 4 (.bool x2))),(7,(.ptr 0 [] 0)),(9,(.ptr 1 [] 0)),(10,(.dat 4 (.bool x3))),(29,(.dat 4 (.bool x4)))],[(.box 33 (.dat 33 x5)),(.box 33 (.dat 33 x6))],0⟩
noncomputable def s11_0 (x0:List Dt) (x1:ByteArray) (x2 x3:Bool) (x4 x5:Dt):St:=⟨tsOf [(0,(.dat 22 (.lst x0))),(1,(.dat 9 (.str x1))),(2,(.dat 4 (.bool x2))),(7,(.ptr 0 [] 0)),(9,(.ptr 1 [] 0)),(10,(.dat 4 (.bool x3)))],[(.box 33 (.dat 33 x4)),(.box 33 (.dat 33 x5))],0⟩
abbrev H11_3 (m M3:Nat) (rec3:List Dt→ByteArray→List Dt→Int→Int→Dt→List Dt→Option (List Dt)):Prop:=∀x0 x1 x2 x3 x4 x5 x6,l11 jn m w11_0 [] M3 (s11_5 x0 x1 x2 x3 x4 x5 x6)=rec3 x0 x1 x2 x3 x4 x5 x6
theorem reshape_unwind_j5_eq m M3 rec3 (h3:H11_3 m M3 rec3) x0 x1 x2 x3 x4 x5 x6:e11 jn m w11_1 [M3] (s11_5 x0 x1 x2 x3 x4 x5 x6)=reshape_unwind_j5 m rec3 x0 x1 x2 x3 x4 x5 x6:=
 tre (g:=fun J=>(jj J 1 6 M3 (s11_5 x0 x1 x2 x3 (IntKind.wrap .i64 (x4+1)) x5 x6) (l11 J m w11_0 [] M3))) (fun J=>by kernel_rfl) (by simp only[jj_eq,h3];rfl)
theorem reshape_unwind_j4_eq m M3 rec3 (h3:H11_3 m M3 rec3) x0 x1 x2 x3 x4 x5 x6:e11 jn m w11_2 [M3] (s11_5 x0 x1 x2 x3 x4 x5 x6)=reshape_unwind_j4 m rec3 x0 x1 x2 x3 x4 x5 x6:=
 tre (g:=fun J=>((idx x2 x4).bind fun v1=>
  ((path_PutC x5 x0 v1).bind fun r2=>
  (bif (r2.2==0) then
  ((reshape_integer m x4).bind fun r3=>
  ((reshape_named m r2.1 x1 r3).bind fun r4=>
  ((app x6 [r4]).bind fun v5=>
  (jj J 0 11 0 (s11_5 x0 x1 x2 x3 x4 x5 v5) (e11 J m w11_1 [M3])))))
  else
  (jj J 0 11 0 (s11_5 x0 x1 x2 x3 x4 x5 x6) (e11 J m w11_1 [M3])))))) (fun J=>by kernel_rfl) (by simp only[jj_eq,reshape_unwind_j5_eq m M3 rec3 h3];rfl)
theorem reshape_unwind_j6_eq m x0:e11 jn m w11_3 [] (s11_6 x0)=reshape_unwind_j6 m x0:=
 tre (g:=fun J=>some x0) (fun J=>by kernel_rfl) (by rfl)
theorem reshape_unwind_l3_eq m:∀M3 x0 x1 x2 x3 x4 x5 x6,l11 jn m w11_0 [] M3 (s11_5 x0 x1 x2 x3 x4 x5 x6)=reshape_unwind_l3 m M3 x0 x1 x2 x3 x4 x5 x6
 |0,_,_,_,_,_,_,_=>rfl
 | M3+1,x0,x1,x2,x3,x4,x5,x6=>
   trl (g:=fun J=>(bif (decide (x4<x3)) then
  (jj J 0 7 0 (s11_5 x0 x1 x2 x3 x4 x5 x6) (e11 J m w11_2 [M3]))
   else
  (jj J 0 12 0 (s11_6 x6) (e11 J m w11_3 [])))) (fun J=>by kernel_rfl) (by simp only[jj_eq,reshape_unwind_j4_eq m M3 (reshape_unwind_l3 m M3) (reshape_unwind_l3_eq m M3),reshape_unwind_j6_eq m];rfl)
theorem reshape_unwind_j2_eq m x0 x1 x2 x3 x4 x5 x6:e11 jn m w11_4 [] (s11_5 x0 x1 x2 x3 x4 x5 x6)=reshape_unwind_j2 m x0 x1 x2 x3 x4 x5 x6:=
 tre (g:=fun J=>(jj J 1 6 (Nat.succ m) (s11_5 x0 x1 x2 x3 x4 x5 x6) (l11 J m w11_0 [] (Nat.succ m)))) (fun J=>by kernel_rfl) (by simp only[jj_eq,reshape_unwind_l3_eq m];rfl)
theorem reshape_unwind_j9_eq m x0 x1:e11 jn m w11_5 [] (s11_9 x0 x1)=reshape_unwind_j9 m x0 x1:=
 tre (g:=fun J=>((reshape_named m x1 x0 kz3c25e).bind fun r8=>
  some [r8])) (fun J=>by kernel_rfl) (by rfl)
theorem reshape_unwind_j8_eq m x0 x1 x2 x3:e11 jn m w11_6 [] (s11_8 x0 x1 x2 x3)=reshape_unwind_j8 m x0 x1 x2 x3:=
 tre (g:=fun J=>((reshape_copyValue m x3).bind fun r6=>
  (bif x2 then
  ((path_DropC x3 x0).bind fun r7=>
  (jj J 0 19 0 (s11_9 x1 r7) (e11 J m w11_5 [])))
  else
  (jj J 0 19 0 (s11_9 x1 r6) (e11 J m w11_5 []))))) (fun J=>by kernel_rfl) (by simp only[jj_eq,reshape_unwind_j9_eq m];rfl)
theorem reshape_unwind_j10_eq m x0 x1:e11 jn m [1,1,1,1] [] (s11_10 x0 x1)=reshape_unwind_j10 m x0 x1:=
 tre (g:=fun J=>((reshape_copyValue m x1).bind fun r9=>
  ((reshape_named m r9 x0 kz3c25e).bind fun r10=>
  some [r10]))) (fun J=>by kernel_rfl) (by rfl)
theorem reshape_unwind_j7_eq m x0 x1 x2 x3 x4 x5:e11 jn m w11_7 [] (s11_7 x0 x1 x2 x3 x4 x5)=reshape_unwind_j7 m x0 x1 x2 x3 x4 x5:=
 tre (g:=fun J=>(bif x4 then
  (bif (Bool.not x2) then
  some []
  else
  (jj J 0 16 0 (s11_8 x0 x1 x3 x5) (e11 J m w11_6 [])))
   else
  (jj J 0 20 0 (s11_10 x1 x5) (e11 J m [1,1,1,1] [])))) (fun J=>by kernel_rfl) (by simp only[jj_eq,reshape_unwind_j8_eq m,reshape_unwind_j10_eq m];rfl)
theorem reshape_unwind_j1_eq m x0 x1 x2 x3 x4 x5 x6:e11 jn m w11_8 [] (s11_1 x0 x1 x2 x3 x4 x5 x6)=reshape_unwind_j1 m x0 x1 x2 x3 x4 x5 x6:=
 tre (g:=fun J=>(bif x4 then
  (jj J 0 6 0 (s11_5 x0 x1 (Dt.L x6 3) (List.length (Dt.L x6 3):Int) 0 x5 []) (e11 J m w11_4 []))
   else
  (bif x3 then
  (jj J 0 14 0 (s11_7 x0 x1 x2 x3 true x5) (e11 J m w11_7 []))
  else
  (bif ((Dt.I x6 0)==2) then
  (jj J 0 14 0 (s11_7 x0 x1 x2 x3 true x5) (e11 J m w11_7 []))
  else
  (jj J 0 14 0 (s11_7 x0 x1 x2 x3 ((Dt.I x6 0)==0) x5) (e11 J m w11_7 [])))))) (fun J=>by kernel_rfl) (by simp only[jj_eq,reshape_unwind_j2_eq m,reshape_unwind_j7_eq m];rfl)
theorem reshape_unwind_j0_eq m x0 x1 x2 x3 x4 x5:e11 jn m [1,1,1] [] (s11_0 x0 x1 x2 x3 x4 x5)=reshape_unwind_j0 m x0 x1 x2 x3 x4 x5:=
 tre (g:=fun J=>(bif ((Dt.I x5 0)==6) then
  (jj J 0 4 0 (s11_1 x0 x1 x2 x3 (Bool.not x3) x4 x5) (e11 J m w11_8 []))
   else
  (jj J 0 4 0 (s11_1 x0 x1 x2 x3 false x4 x5) (e11 J m w11_8 [])))) (fun J=>by kernel_rfl) (by simp only[jj_eq,reshape_unwind_j1_eq m];rfl)
theorem reshape_unwind_eq m a0 a1 a2 a3:e11 jn m [] [] ⟨[(.dat 22 (.lst a0)),(.dat 9 (.str a1)),(.dat 4 (.bool a2)),(.dat 33 a3)],[],0⟩=reshape_unwind (m+1) a0 a1 a2 a3:=
 tre (g:=fun J=>((path_Get m a3 a0).bind fun r0=>
  (bif ((Dt.I r0 0)==6) then
  (jj J 0 3 0 (s11_0 a0 a1 a2 ((List.length (Dt.L r0 3):Int)==0) a3 r0) (e11 J m [1,1,1] []))
  else
  (jj J 0 3 0 (s11_0 a0 a1 a2 false a3 r0) (e11 J m [1,1,1] []))))) (fun J=>by kernel_rfl) (by simp only[jj_eq,reshape_unwind_j0_eq m];rfl)
def w3_0:List Nat:=[1,1,0,1,0]
def w3_2:List Nat:=[1,1,0,1,0,0,1,1]
def w3_1:List Nat:=w3_2++[1]
noncomputable def e3 (J:Nat→Nat→Nat→St→Option (List Dt)→Option (List Dt)) (m:Nat) (p ms:List Nat) (σ:St):=evAt Tryz.prog env (ct m) J (m+1) 15 27 Tryz.f15 d4 p ms σ
noncomputable def l3 (J:Nat→Nat→Nat→St→Option (List Dt)→Option (List Dt)) (m:Nat) (p ms:List Nat) (M:Nat) (σ:St):=loopAt Tryz.prog env (ct m) J (m+1) 15 27 Tryz.f15 d4 p ms M σ
noncomputable def s3_3 (x0:List Dt) (x1:ByteArray) (x2:Bool) (x3:List Dt) (x4 x5:Int) (x6:List Dt):St:=⟨tsOf [(0,(.dat 22 (.lst x0))),(1,(.dat 9 (.str x1))),(2,(.dat 4 (.bool x2))),(9,(.row 0)),(12,(.dat 23 (.lst x3))),(13,(.dat 3 (.int x4))),(14,(.dat 3 (.int x5)))],[(.row 23 x6)],0⟩
noncomputable def s3_4 (x0:List Dt):St:=⟨tsOf [(9,(.row 0))],[(.row 23 x0)],0⟩
abbrev H3_1 (m M1:Nat) (rec1:List Dt→ByteArray→Bool→List Dt→Int→Int→List Dt→Option (List Dt)):Prop:=∀x0 x1 x2 x3 x4 x5 x6,l3 jn m w3_0 [] M1 (s3_3 x0 x1 x2 x3 x4 x5 x6)=rec1 x0 x1 x2 x3 x4 x5 x6
theorem reshape_Unwind_j3_eq m M1 rec1 (h1:H3_1 m M1 rec1) x0 x1 x2 x3 x4 x5 x6:e3 jn m w3_1 [M1] (s3_3 x0 x1 x2 x3 x4 x5 x6)=reshape_Unwind_j3 m rec1 x0 x1 x2 x3 x4 x5 x6:=
 tre (g:=fun J=>(jj J 1 3 M1 (s3_3 x0 x1 x2 x3 x4 (IntKind.wrap .i64 (x5+1)) x6) (l3 J m w3_0 [] M1))) (fun J=>by kernel_rfl) (by simp only[jj_eq,h1];rfl)
theorem reshape_Unwind_j2_eq m M1 rec1 (h1:H3_1 m M1 rec1) x0 x1 x2 x3 x4 x5 x6:e3 jn m w3_2 [M1] (s3_3 x0 x1 x2 x3 x4 x5 x6)=reshape_Unwind_j2 m rec1 x0 x1 x2 x3 x4 x5 x6:=
 tre (g:=fun J=>((idx x3 x5).bind fun v0=>
  ((reshape_unwind m x0 x1 x2 v0).bind fun r1=>
  ((app x6 r1).bind fun v2=>
  (jj J 0 6 0 (s3_3 x0 x1 x2 x3 x4 x5 v2) (e3 J m w3_1 [M1])))))) (fun J=>by kernel_rfl) (by simp only[jj_eq,reshape_Unwind_j3_eq m M1 rec1 h1];rfl)
theorem reshape_Unwind_j4_eq m x0:e3 jn m [1,1,1] [] (s3_4 x0)=reshape_Unwind_j4 m x0:=
 tre (g:=fun J=>some x0) (fun J=>by kernel_rfl) (by rfl)
theorem reshape_Unwind_l1_eq m:∀M1 x0 x1 x2 x3 x4 x5 x6,l3 jn m w3_0 [] M1 (s3_3 x0 x1 x2 x3 x4 x5 x6)=reshape_Unwind_l1 m M1 x0 x1 x2 x3 x4 x5 x6
 |0,_,_,_,_,_,_,_=>rfl
 | M1+1,x0,x1,x2,x3,x4,x5,x6=>
   trl (g:=fun J=>(bif (decide (x5<x4)) then
  (jj J 0 4 0 (s3_3 x0 x1 x2 x3 x4 x5 x6) (e3 J m w3_2 [M1]))
   else
  (jj J 0 7 0 (s3_4 x6) (e3 J m [1,1,1] [])))) (fun J=>by kernel_rfl) (by simp only[jj_eq,reshape_Unwind_j2_eq m M1 (reshape_Unwind_l1 m M1) (reshape_Unwind_l1_eq m M1),reshape_Unwind_j4_eq m];rfl)
theorem reshape_Unwind_j0_eq m x0 x1 x2 x3 x4 x5 x6:e3 jn m [1,1,0,1] [] (s3_3 x0 x1 x2 x3 x4 x5 x6)=reshape_Unwind_j0 m x0 x1 x2 x3 x4 x5 x6:=
 tre (g:=fun J=>(jj J 1 3 (Nat.succ m) (s3_3 x0 x1 x2 x3 x4 x5 x6) (l3 J m w3_0 [] (Nat.succ m)))) (fun J=>by kernel_rfl) (by simp only[jj_eq,reshape_Unwind_l1_eq m];rfl)
theorem reshape_Unwind_eq m a0 a1 a2 a3:e3 jn m [] [] ⟨[(.dat 22 (.lst a0)),(.dat 9 (.str a1)),(.dat 4 (.bool a2)),(.dat 23 (.lst a3))],[],0⟩=reshape_Unwind (m+1) a0 a1 a2 a3:=
 tre (g:=fun J=>(jj J 0 3 0 (s3_3 a0 a1 a2 a3 (List.length a3:Int) 0 []) (e3 J m [1,1,0,1] []))) (fun J=>by kernel_rfl) (by simp only[jj_eq,reshape_Unwind_j0_eq m];rfl)
def w48_7:List Nat:=[1,1,0,1,0,1]
def w48_0:List Nat:=w48_7++[0]
def w48_6:List Nat:=[1,1,1,0,1,0,1]
def w48_3:List Nat:=w48_6++[0]
def w48_2:List Nat:=w48_0++[0,1]
def w48_1:List Nat:=w48_2++[1]
def w48_5:List Nat:=w48_3++[0,1]
def w48_4:List Nat:=w48_5++[1]
noncomputable def e48 (J:Nat→Nat→Nat→St→Option (List Dt)→Option (List Dt)) (m:Nat) (p ms:List Nat) (σ:St):=evAt Tryz.prog env (ct m) J (m+1) 160 44 Tryz.f160 d4 p ms σ
noncomputable def l48 (J:Nat→Nat→Nat→St→Option (List Dt)→Option (List Dt)) (m:Nat) (p ms:List Nat) (M:Nat) (σ:St):=loopAt Tryz.prog env (ct m) J (m+1) 160 44 Tryz.f160 d4 p ms M σ
noncomputable def s48_3 (x0:Int) (x1:Dt) (x2:List Dt):St:=⟨tsOf [(1,(.ptr 0 [] 0)),(3,(.row 1)),(4,(.dat 3 (.int x0)))],[(.box 33 (.dat 33 x1)),(.row 23 x2)],0⟩
noncomputable def s48_8 (x0:Int) (x1:Dt) (x2:List Dt):St:=⟨tsOf [(1,(.ptr 0 [] 0)),(3,(.row 1)),(5,(.dat 3 (.int x0)))],[(.box 33 (.dat 33 x1)),(.row 23 x2)],0⟩
noncomputable def s48_9 (x0:List Dt):St:=⟨tsOf [(3,(.row 0))],[(.row 23 x0)],0⟩
noncomputable def s48_4 (x0:Dt) (x1:List Dt):St:=⟨tsOf [(1,(.ptr 0 [] 0)),(3,(.row 1))],[(.box 33 (.dat 33 x0)),(.row 23 x1)],0⟩
abbrev H48_1 (m M1:Nat) (rec1:Int→Dt→List Dt→Option (List Dt)):Prop:=∀x0 x1 x2,l48 jn m w48_0 [] M1 (s48_3 x0 x1 x2)=rec1 x0 x1 x2
theorem ref01_Parts_j3_eq m M1 rec1 (h1:H48_1 m M1 rec1) x0 x1 x2:e48 jn m w48_1 [M1] (s48_3 x0 x1 x2)=ref01_Parts_j3 m rec1 x0 x1 x2:=
 tre (g:=fun J=>(jj J 1 4 M1 (s48_3 (IntKind.wrap .i64 (x0+1)) x1 x2) (l48 J m w48_0 [] M1))) (fun J=>by kernel_rfl) (by simp only[jj_eq,h1];rfl)
theorem ref01_Parts_j2_eq m M1 rec1 (h1:H48_1 m M1 rec1) x0 x1 x2:e48 jn m w48_2 [M1] (s48_3 x0 x1 x2)=ref01_Parts_j2 m rec1 x0 x1 x2:=
 tre (g:=fun J=>((idx (Dt.L x1 3) x0).bind fun v0=>
  ((app x2 [v0]).bind fun v1=>
  (jj J 0 5 0 (s48_3 x0 x1 v1) (e48 J m w48_1 [M1]))))) (fun J=>by kernel_rfl) (by simp only[jj_eq,ref01_Parts_j3_eq m M1 rec1 h1];rfl)
abbrev H48_6 (m M6:Nat) (rec6:Int→Dt→List Dt→Option (List Dt)):Prop:=∀x0 x1 x2,l48 jn m w48_3 [] M6 (s48_8 x0 x1 x2)=rec6 x0 x1 x2
theorem ref01_Parts_j8_eq m M6 rec6 (h6:H48_6 m M6 rec6) x0 x1 x2:e48 jn m w48_4 [M6] (s48_8 x0 x1 x2)=ref01_Parts_j8 m rec6 x0 x1 x2:=
 tre (g:=fun J=>(jj J 1 9 M6 (s48_8 (IntKind.wrap .i64 (x0+1)) x1 x2) (l48 J m w48_3 [] M6))) (fun J=>by kernel_rfl) (by simp only[jj_eq,h6];rfl)
theorem ref01_Parts_j7_eq m M6 rec6 (h6:H48_6 m M6 rec6) x0 x1 x2:e48 jn m w48_5 [M6] (s48_8 x0 x1 x2)=ref01_Parts_j7 m rec6 x0 x1 x2:=
 tre (g:=fun J=>((idx (Dt.L x1 4) x0).bind fun v2=>
  ((app x2 [(Dt.fld v2 1)]).bind fun v3=>
  (jj J 0 10 0 (s48_8 x0 x1 v3) (e48 J m w48_4 [M6]))))) (fun J=>by kernel_rfl) (by simp only[jj_eq,ref01_Parts_j8_eq m M6 rec6 h6];rfl)
theorem ref01_Parts_j9_eq m x0:e48 jn m [1,1,1,1] [] (s48_9 x0)=ref01_Parts_j9 m x0:=
 tre (g:=fun J=>some x0) (fun J=>by kernel_rfl) (by rfl)
theorem ref01_Parts_l6_eq m:∀M6 x0 x1 x2,l48 jn m w48_3 [] M6 (s48_8 x0 x1 x2)=ref01_Parts_l6 m M6 x0 x1 x2
 |0,_,_,_=>rfl
 | M6+1,x0,x1,x2=>
   trl (g:=fun J=>(bif (decide (x0<(List.length (Dt.L x1 4):Int))) then
  (jj J 0 11 0 (s48_8 x0 x1 x2) (e48 J m w48_5 [M6]))
   else
  (jj J 0 12 0 (s48_9 x2) (e48 J m [1,1,1,1] [])))) (fun J=>by kernel_rfl) (by simp only[jj_eq,ref01_Parts_j7_eq m M6 (ref01_Parts_l6 m M6) (ref01_Parts_l6_eq m M6),ref01_Parts_j9_eq m];rfl)
theorem ref01_Parts_j5_eq m x0 x1 x2:e48 jn m w48_6 [] (s48_8 x0 x1 x2)=ref01_Parts_j5 m x0 x1 x2:=
 tre (g:=fun J=>(jj J 1 9 (Nat.succ m) (s48_8 x0 x1 x2) (l48 J m w48_3 [] (Nat.succ m)))) (fun J=>by kernel_rfl) (by simp only[jj_eq,ref01_Parts_l6_eq m];rfl)
theorem ref01_Parts_j4_eq m x0 x1:e48 jn m [1,1,1] [] (s48_4 x0 x1)=ref01_Parts_j4 m x0 x1:=
 tre (g:=fun J=>(bif ((Dt.I x0 0)==5) then
  (jj J 0 9 0 (s48_8 0 x0 x1) (e48 J m w48_6 []))
   else
  (jj J 0 12 0 (s48_9 x1) (e48 J m [1,1,1,1] [])))) (fun J=>by kernel_rfl) (by simp only[jj_eq,ref01_Parts_j5_eq m,ref01_Parts_j9_eq m];rfl)
theorem ref01_Parts_l1_eq m:∀M1 x0 x1 x2,l48 jn m w48_0 [] M1 (s48_3 x0 x1 x2)=ref01_Parts_l1 m M1 x0 x1 x2
 |0,_,_,_=>rfl
 | M1+1,x0,x1,x2=>
   trl (g:=fun J=>(bif (decide (x0<(List.length (Dt.L x1 3):Int))) then
  (jj J 0 6 0 (s48_3 x0 x1 x2) (e48 J m w48_2 [M1]))
   else
  (jj J 0 7 0 (s48_4 x1 x2) (e48 J m [1,1,1] [])))) (fun J=>by kernel_rfl) (by simp only[jj_eq,ref01_Parts_j2_eq m M1 (ref01_Parts_l1 m M1) (ref01_Parts_l1_eq m M1),ref01_Parts_j4_eq m];rfl)
theorem ref01_Parts_j0_eq m x0 x1 x2:e48 jn m w48_7 [] (s48_3 x0 x1 x2)=ref01_Parts_j0 m x0 x1 x2:=
 tre (g:=fun J=>(jj J 1 4 (Nat.succ m) (s48_3 x0 x1 x2) (l48 J m w48_0 [] (Nat.succ m)))) (fun J=>by kernel_rfl) (by simp only[jj_eq,ref01_Parts_l1_eq m];rfl)
theorem ref01_Parts_eq m a0:e48 jn m [] [] ⟨[(.dat 33 a0)],[],0⟩=ref01_Parts (m+1) a0:=
 tre (g:=fun J=>(bif ((Dt.I a0 0)==6) then
  (jj J 0 4 0 (s48_3 0 a0 []) (e48 J m w48_7 []))
   else
  (jj J 0 7 0 (s48_4 a0 []) (e48 J m [1,1,1] [])))) (fun J=>by kernel_rfl) (by simp only[jj_eq,ref01_Parts_j0_eq m,ref01_Parts_j4_eq m];rfl)
def w42_3:List Nat:=[1,1,1,1,1]
def w42_4:List Nat:=[1,1,1,1,0,1]
def w42_0:List Nat:=w42_4++[0]
def w42_2:List Nat:=w42_0++[0,1]
def w42_1:List Nat:=w42_2++[1]
noncomputable def e42 (J:Nat→Nat→Nat→St→Option Int→Option Int) (m:Nat) (p ms:List Nat) (σ:St):=evAt Tryz.prog env (ct m) J (m+1) 112 34 Tryz.f112 d36 p ms σ
noncomputable def l42 (J:Nat→Nat→Nat→St→Option Int→Option Int) (m:Nat) (p ms:List Nat) (M:Nat) (σ:St):=loopAt Tryz.prog env (ct m) J (m+1) 112 34 Tryz.f112 d36 p ms M σ
noncomputable def s42_5 (x0:Int) (x1:List Dt) (x2 x3:Int):St:=⟨tsOf [(1,(.dat 3 (.int x0))),(5,(.dat 23 (.lst x1))),(6,(.dat 3 (.int x2))),(7,(.dat 3 (.int x3)))],[],0⟩
noncomputable def s42_6 (x0:Int):St:=⟨tsOf [(6,(.dat 3 (.int x0)))],[],0⟩
noncomputable def s42_1 (x0:Int) (x1:List Dt):St:=⟨tsOf [(1,(.dat 3 (.int x0))),(5,(.dat 23 (.lst x1)))],[],0⟩
noncomputable def s42_0 (x0:Int) (x1:List Dt) (x2:Bool):St:=⟨tsOf [(1,(.dat 3 (.int x0))),(5,(.dat 23 (.lst x1))),(16,(.dat 4 (.bool x2)))],[],0⟩
abbrev H42_3 (m M3:Nat) (rec3:Int→List Dt→Int→Int→Option Int):Prop:=∀x0 x1 x2 x3,l42 jn m w42_0 [] M3 (s42_5 x0 x1 x2 x3)=rec3 x0 x1 x2 x3
theorem ref01_levels_j5_eq m M3 rec3 (h3:H42_3 m M3 rec3) x0 x1 x2 x3:e42 jn m w42_1 [M3] (s42_5 x0 x1 x2 x3)=ref01_levels_j5 m (ref01_levels m) rec3 x0 x1 x2 x3:=
 tre (g:=fun J=>(jj J 1 6 M3 (s42_5 x0 x1 x2 (IntKind.wrap .i64 (x3+1))) (l42 J m w42_0 [] M3))) (fun J=>by kernel_rfl) (by simp only[jj_eq,h3];rfl)
theorem ref01_levels_j4_eq m M3 rec3 (h3:H42_3 m M3 rec3) x0 x1 x2 x3:e42 jn m w42_2 [M3] (s42_5 x0 x1 x2 x3)=ref01_levels_j4 m (ref01_levels m) rec3 x0 x1 x2 x3:=
 tre (g:=fun J=>((idx x1 x3).bind fun v1=>
  ((ref01_levels m v1 (IntKind.wrap .i64 (x0-1))).bind fun r2=>
  (jj J 0 7 0 (s42_5 x0 x1 (bif (decide (x2<r2)) then r2 else x2) x3) (e42 J m w42_1 [M3]))))) (fun J=>by kernel_rfl) (by simp only[jj_eq,ref01_levels_j5_eq m M3 rec3 h3];rfl)
theorem ref01_levels_j6_eq m x0:e42 jn m w42_3 [] (s42_6 x0)=ref01_levels_j6 m (ref01_levels m) x0:=
 tre (g:=fun J=>some (IntKind.wrap .i64 (x0+1))) (fun J=>by kernel_rfl) (by rfl)
theorem ref01_levels_l3_eq m:∀M3 x0 x1 x2 x3,l42 jn m w42_0 [] M3 (s42_5 x0 x1 x2 x3)=ref01_levels_l3 m (ref01_levels m) M3 x0 x1 x2 x3
 |0,_,_,_,_=>rfl
 | M3+1,x0,x1,x2,x3=>
   trl (g:=fun J=>(bif (decide (x3<(List.length x1:Int))) then
  (jj J 0 8 0 (s42_5 x0 x1 x2 x3) (e42 J m w42_2 [M3]))
   else
  (jj J 0 9 0 (s42_6 x2) (e42 J m w42_3 [])))) (fun J=>by kernel_rfl) (by simp only[jj_eq,ref01_levels_j4_eq m M3 (ref01_levels_l3 m (ref01_levels m) M3) (ref01_levels_l3_eq m M3),ref01_levels_j6_eq m];rfl)
theorem ref01_levels_j2_eq m x0 x1 x2 x3:e42 jn m w42_4 [] (s42_5 x0 x1 x2 x3)=ref01_levels_j2 m (ref01_levels m) x0 x1 x2 x3:=
 tre (g:=fun J=>(jj J 1 6 (Nat.succ m) (s42_5 x0 x1 x2 x3) (l42 J m w42_0 [] (Nat.succ m)))) (fun J=>by kernel_rfl) (by simp only[jj_eq,ref01_levels_l3_eq m];rfl)
theorem ref01_levels_j1_eq m x0 x1:e42 jn m [1,1,1] [] (s42_1 x0 x1)=ref01_levels_j1 m (ref01_levels m) x0 x1:=
 tre (g:=fun J=>(jj J 0 6 0 (s42_5 x0 x1 0 0) (e42 J m w42_4 []))) (fun J=>by kernel_rfl) (by simp only[jj_eq,ref01_levels_j2_eq m];rfl)
theorem ref01_levels_j0_eq m x0 x1 x2:e42 jn m [1,1,0,1] [] (s42_0 x0 x1 x2)=ref01_levels_j0 m (ref01_levels m) x0 x1 x2:=
 tre (g:=fun J=>(bif x2 then
  some 1
   else
  (jj J 0 4 0 (s42_1 x0 x1) (e42 J m [1,1,1] [])))) (fun J=>by kernel_rfl) (by simp only[jj_eq,ref01_levels_j1_eq m];rfl)
theorem ref01_levels_eq m a0 a1:e42 jn m [] [] ⟨[(.dat 33 a0),(.dat 3 (.int a1))],[],0⟩=ref01_levels (m+1) a0 a1:=
 tre (g:=fun J=>((ref01_Parts m a0).bind fun r0=>
  (bif (decide (a1<2)) then
  (jj J 0 3 0 (s42_0 a1 r0 true) (e42 J m [1,1,0,1] []))
  else
  (jj J 0 3 0 (s42_0 a1 r0 ((List.length r0:Int)==0)) (e42 J m [1,1,0,1] []))))) (fun J=>by kernel_rfl) (by simp only[jj_eq,ref01_levels_j0_eq m];rfl)
noncomputable def e33 (J:Nat→Nat→Nat→St→Option Int→Option Int) (m:Nat) (p ms:List Nat) (σ:St):=evAt Tryz.prog env (ct m) J (m+1) 68 5 Tryz.f68 d36 p ms σ
noncomputable def l33 (J:Nat→Nat→Nat→St→Option Int→Option Int) (m:Nat) (p ms:List Nat) (M:Nat) (σ:St):=loopAt Tryz.prog env (ct m) J (m+1) 68 5 Tryz.f68 d36 p ms M σ
theorem ref01_Depth_eq m a0:e33 jn m [] [] ⟨[(.dat 33 a0)],[],0⟩=ref01_Depth (m+1) a0:=
 tre (g:=fun J=>((ref01_levels m a0 17).bind fun r0=>
  some r0)) (fun J=>by kernel_rfl) (by rfl)
def w43_3:List Nat:=[1,1,1,0,1]
def w43_0:List Nat:=[1,1,1,0,1,0]
def w43_2:List Nat:=w43_0++[0,1]
def w43_1:List Nat:=w43_2++[1]
noncomputable def e43 (J:Nat→Nat→Nat→St→Option Int→Option Int) (m:Nat) (p ms:List Nat) (σ:St):=evAt Tryz.prog env (ct m) J (m+1) 113 32 Tryz.f113 d36 p ms σ
noncomputable def l43 (J:Nat→Nat→Nat→St→Option Int→Option Int) (m:Nat) (p ms:List Nat) (M:Nat) (σ:St):=loopAt Tryz.prog env (ct m) J (m+1) 113 32 Tryz.f113 d36 p ms M σ
noncomputable def s43_3 (x0 x1:Int) (x2:List Dt) (x3:Int):St:=⟨tsOf [(1,(.dat 3 (.int x0))),(5,(.dat 3 (.int x1))),(6,(.dat 23 (.lst x2))),(7,(.dat 3 (.int x3)))],[],0⟩
noncomputable def s43_4 (x0:Int):St:=⟨tsOf [(5,(.dat 3 (.int x0)))],[],0⟩
abbrev H43_1 (m M1:Nat) (rec1:Int→Int→List Dt→Int→Option Int):Prop:=∀x0 x1 x2 x3,l43 jn m w43_0 [] M1 (s43_3 x0 x1 x2 x3)=rec1 x0 x1 x2 x3
theorem ref01_count_j3_eq m M1 rec1 (h1:H43_1 m M1 rec1) x0 x1 x2 x3:e43 jn m w43_1 [M1] (s43_3 x0 x1 x2 x3)=ref01_count_j3 m (ref01_count m) rec1 x0 x1 x2 x3:=
 tre (g:=fun J=>(jj J 1 4 M1 (s43_3 x0 x1 x2 (IntKind.wrap .i64 (x3+1))) (l43 J m w43_0 [] M1))) (fun J=>by kernel_rfl) (by simp only[jj_eq,h1];rfl)
theorem ref01_count_j2_eq m M1 rec1 (h1:H43_1 m M1 rec1) x0 x1 x2 x3:e43 jn m w43_2 [M1] (s43_3 x0 x1 x2 x3)=ref01_count_j2 m (ref01_count m) rec1 x0 x1 x2 x3:=
 tre (g:=fun J=>((idx x2 x3).bind fun v1=>
  ((ref01_count m v1 (IntKind.wrap .i64 (x0-x1))).bind fun r2=>
  (jj J 0 5 0 (s43_3 x0 (IntKind.wrap .i64 (x1+r2)) x2 x3) (e43 J m w43_1 [M1]))))) (fun J=>by kernel_rfl) (by simp only[jj_eq,ref01_count_j3_eq m M1 rec1 h1];rfl)
theorem ref01_count_j4_eq m x0:e43 jn m [1,1,1,1] [] (s43_4 x0)=ref01_count_j4 m (ref01_count m) x0:=
 tre (g:=fun J=>some x0) (fun J=>by kernel_rfl) (by rfl)
theorem ref01_count_l1_eq m:∀M1 x0 x1 x2 x3,l43 jn m w43_0 [] M1 (s43_3 x0 x1 x2 x3)=ref01_count_l1 m (ref01_count m) M1 x0 x1 x2 x3
 |0,_,_,_,_=>rfl
 | M1+1,x0,x1,x2,x3=>
   trl (g:=fun J=>(bif (decide (x3<(List.length x2:Int))) then
  (bif (decide (x1<x0)) then
  (jj J 0 6 0 (s43_3 x0 x1 x2 x3) (e43 J m w43_2 [M1]))
  else
  (jj J 0 7 0 (s43_4 x1) (e43 J m [1,1,1,1] [])))
   else
  (jj J 0 7 0 (s43_4 x1) (e43 J m [1,1,1,1] [])))) (fun J=>by kernel_rfl) (by simp only[jj_eq,ref01_count_j2_eq m M1 (ref01_count_l1 m (ref01_count m) M1) (ref01_count_l1_eq m M1),ref01_count_j4_eq m];rfl)
theorem ref01_count_j0_eq m x0 x1 x2 x3:e43 jn m w43_3 [] (s43_3 x0 x1 x2 x3)=ref01_count_j0 m (ref01_count m) x0 x1 x2 x3:=
 tre (g:=fun J=>(jj J 1 4 (Nat.succ m) (s43_3 x0 x1 x2 x3) (l43 J m w43_0 [] (Nat.succ m)))) (fun J=>by kernel_rfl) (by simp only[jj_eq,ref01_count_l1_eq m];rfl)
theorem ref01_count_eq m a0 a1:e43 jn m [] [] ⟨[(.dat 33 a0),(.dat 3 (.int a1))],[],0⟩=ref01_count (m+1) a0 a1:=
 tre (g:=fun J=>((ref01_Parts m a0).bind fun r0=>
  (jj J 0 4 0 (s43_3 a1 1 r0 0) (e43 J m w43_3 [])))) (fun J=>by kernel_rfl) (by simp only[jj_eq,ref01_count_j0_eq m];rfl)
noncomputable def e34 (J:Nat→Nat→Nat→St→Option Int→Option Int) (m:Nat) (p ms:List Nat) (σ:St):=evAt Tryz.prog env (ct m) J (m+1) 69 5 Tryz.f69 d36 p ms σ
noncomputable def l34 (J:Nat→Nat→Nat→St→Option Int→Option Int) (m:Nat) (p ms:List Nat) (M:Nat) (σ:St):=loopAt Tryz.prog env (ct m) J (m+1) 69 5 Tryz.f69 d36 p ms M σ
theorem ref01_Nodes_eq m a0:e34 jn m [] [] ⟨[(.dat 33 a0)],[],0⟩=ref01_Nodes (m+1) a0:=
 tre (g:=fun J=>((ref01_count m a0 1025).bind fun r0=>
  some r0)) (fun J=>by kernel_rfl) (by rfl)
def w49_0:List Nat:=[1,1,0,1,0]
def w49_3:List Nat:=[1,1,0,1,0,0,1]
def w49_1:List Nat:=w49_3++[1]
def w49_2:List Nat:=w49_3++[0,0,1]
noncomputable def e49 (J:Nat→Nat→Nat→St→Option Bool→Option Bool) (m:Nat) (p ms:List Nat) (σ:St):=evAt Tryz.prog env (ct m) J (m+1) 161 33 Tryz.f161 d5 p ms σ
noncomputable def l49 (J:Nat→Nat→Nat→St→Option Bool→Option Bool) (m:Nat) (p ms:List Nat) (M:Nat) (σ:St):=loopAt Tryz.prog env (ct m) J (m+1) 161 33 Tryz.f161 d5 p ms M σ
noncomputable def s49_5 (x0:ByteArray) (x1 x2 x3:Int):St:=⟨tsOf [(0,(.dat 9 (.str x0))),(1,(.dat 3 (.int x1))),(2,(.dat 3 (.int x2))),(7,(.dat 3 (.int x3)))],[],0⟩
noncomputable def s49_4 (x0:ByteArray) (x1 x2 x3:Int) (x4:Bool):St:=⟨tsOf [(0,(.dat 9 (.str x0))),(1,(.dat 3 (.int x1))),(2,(.dat 3 (.int x2))),(7,(.dat 3 (.int x3))),(32,(.dat 4 (.bool x4)))],[],0⟩
noncomputable def s49_6:St:=⟨tsOf [],[],0⟩
noncomputable def s49_0 (x0:ByteArray) (x1 x2:Int):St:=⟨tsOf [(0,(.dat 9 (.str x0))),(1,(.dat 3 (.int x1))),(2,(.dat 3 (.int x2)))],[],0⟩
abbrev H49_2 (m M2:Nat) (rec2:ByteArray→Int→Int→Int→Option Bool):Prop:=∀x0 x1 x2 x3,l49 jn m w49_0 [] M2 (s49_5 x0 x1 x2 x3)=rec2 x0 x1 x2 x3
theorem ref01_tail_j5_eq m M2 rec2 (h2:H49_2 m M2 rec2) x0 x1 x2 x3:e49 jn m w49_1 [M2] (s49_5 x0 x1 x2 x3)=ref01_tail_j5 m rec2 x0 x1 x2 x3:=
 tre (g:=fun J=>(jj J 1 4 M2 (s49_5 x0 x1 x2 (IntKind.wrap .i64 (x3+1))) (l49 J m w49_0 [] M2))) (fun J=>by kernel_rfl) (by simp only[jj_eq,h2];rfl)
theorem ref01_tail_j4_eq m M2 rec2 (h2:H49_2 m M2 rec2) x0 x1 x2 x3 x4:e49 jn m w49_2 [M2] (s49_4 x0 x1 x2 x3 x4)=ref01_tail_j4 m rec2 x0 x1 x2 x3 x4:=
 tre (g:=fun J=>(bif x4 then
  some false
   else
  (jj J 0 5 0 (s49_5 x0 x1 x2 x3) (e49 J m w49_1 [M2])))) (fun J=>by kernel_rfl) (by simp only[jj_eq,ref01_tail_j5_eq m M2 rec2 h2];rfl)
theorem ref01_tail_j3_eq m M2 rec2 (h2:H49_2 m M2 rec2) x0 x1 x2 x3:e49 jn m w49_3 [M2] (s49_5 x0 x1 x2 x3)=ref01_tail_j3 m rec2 x0 x1 x2 x3:=
 tre (g:=fun J=>((idxS x0 (IntKind.wrap .i64 (x1+x3))).bind fun v0=>
  (bif (decide (v0<128)) then
  (jj J 0 7 0 (s49_4 x0 x1 x2 x3 true) (e49 J m w49_2 [M2]))
  else
  ((idxS x0 (IntKind.wrap .i64 (x1+x3))).bind fun v1=>
  (jj J 0 7 0 (s49_4 x0 x1 x2 x3 (decide (191<v1))) (e49 J m w49_2 [M2])))))) (fun J=>by kernel_rfl) (by simp only[jj_eq,ref01_tail_j4_eq m M2 rec2 h2];rfl)
theorem ref01_tail_j6_eq m:e49 jn m [1,1,1] [] s49_6=ref01_tail_j6 m:=
 tre (g:=fun J=>some true) (fun J=>by kernel_rfl) (by rfl)
theorem ref01_tail_l2_eq m:∀M2 x0 x1 x2 x3,l49 jn m w49_0 [] M2 (s49_5 x0 x1 x2 x3)=ref01_tail_l2 m M2 x0 x1 x2 x3
 |0,_,_,_,_=>rfl
 | M2+1,x0,x1,x2,x3=>
   trl (g:=fun J=>(bif (decide (x3<x2)) then
  (jj J 0 6 0 (s49_5 x0 x1 x2 x3) (e49 J m w49_3 [M2]))
   else
  (jj J 0 8 0 s49_6 (e49 J m [1,1,1] [])))) (fun J=>by kernel_rfl) (by simp only[jj_eq,ref01_tail_j3_eq m M2 (ref01_tail_l2 m M2) (ref01_tail_l2_eq m M2),ref01_tail_j6_eq m];rfl)
theorem ref01_tail_j1_eq m x0 x1 x2 x3:e49 jn m [1,1,0,1] [] (s49_5 x0 x1 x2 x3)=ref01_tail_j1 m x0 x1 x2 x3:=
 tre (g:=fun J=>(jj J 1 4 (Nat.succ m) (s49_5 x0 x1 x2 x3) (l49 J m w49_0 [] (Nat.succ m)))) (fun J=>by kernel_rfl) (by simp only[jj_eq,ref01_tail_l2_eq m];rfl)
theorem ref01_tail_j0_eq m x0 x1 x2:e49 jn m [1,1] [] (s49_0 x0 x1 x2)=ref01_tail_j0 m x0 x1 x2:=
 tre (g:=fun J=>(jj J 0 4 0 (s49_5 x0 x1 x2 0) (e49 J m [1,1,0,1] []))) (fun J=>by kernel_rfl) (by simp only[jj_eq,ref01_tail_j1_eq m];rfl)
theorem ref01_tail_eq m a0 a1 a2:e49 jn m [] [] ⟨[(.dat 9 (.str a0)),(.dat 3 (.int a1)),(.dat 3 (.int a2))],[],0⟩=ref01_tail (m+1) a0 a1 a2:=
 tre (g:=fun J=>(bif (decide ((ByteArray.size a0:Int)<(IntKind.wrap .i64 (a1+a2)))) then
  some false
   else
  (jj J 0 3 0 (s49_0 a0 a1 a2) (e49 J m [1,1] [])))) (fun J=>by kernel_rfl) (by simp only[jj_eq,ref01_tail_j0_eq m];rfl)
def w44_7:List Nat:=[1,0,1,0,0,1]
def w44_3:List Nat:=w44_7++[0,1,1,1]
def w44_2:List Nat:=w44_3++[1]
def w44_0:List Nat:=w44_2++[1]
def w44_1:List Nat:=w44_2++[0,1]
def w44_6:List Nat:=w44_7++[0,1,1,0,0,1,1,1]
def w44_5:List Nat:=w44_6++[1,1]
def w44_4:List Nat:=w44_5++[1,1]
noncomputable def e44 (J:Nat→Nat→Nat→St→Option Bool→Option Bool) (m:Nat) (p ms:List Nat) (σ:St):=evAt Tryz.prog env (ct m) J (m+1) 114 89 Tryz.f114 d5 p ms σ
noncomputable def l44 (J:Nat→Nat→Nat→St→Option Bool→Option Bool) (m:Nat) (p ms:List Nat) (M:Nat) (σ:St):=loopAt Tryz.prog env (ct m) J (m+1) 114 89 Tryz.f114 d5 p ms M σ
noncomputable def s44_6 (x0:ByteArray) (x1 x2:Int):St:=⟨tsOf [(0,(.dat 9 (.str x0))),(3,(.dat 3 (.int x1))),(5,(.dat 3 (.int x2)))],[],0⟩
noncomputable def s44_5 (x0:ByteArray) (x1 x2:Int) (x3:Bool):St:=⟨tsOf [(0,(.dat 9 (.str x0))),(3,(.dat 3 (.int x1))),(5,(.dat 3 (.int x2))),(84,(.dat 4 (.bool x3)))],[],0⟩
noncomputable def s44_4 (x0:ByteArray) (x1 x2 x3:Int):St:=⟨tsOf [(0,(.dat 9 (.str x0))),(3,(.dat 3 (.int x1))),(4,(.dat 5 (.int x2))),(5,(.dat 3 (.int x3)))],[],0⟩
noncomputable def s44_9 (x0:ByteArray) (x1 x2:Int) (x3:Bool):St:=⟨tsOf [(0,(.dat 9 (.str x0))),(3,(.dat 3 (.int x1))),(4,(.dat 5 (.int x2))),(30,(.dat 4 (.bool x3)))],[],0⟩
noncomputable def s44_8 (x0:ByteArray) (x1 x2:Int) (x3:Bool):St:=⟨tsOf [(0,(.dat 9 (.str x0))),(3,(.dat 3 (.int x1))),(4,(.dat 5 (.int x2))),(23,(.dat 4 (.bool x3)))],[],0⟩
noncomputable def s44_7 (x0:ByteArray) (x1 x2:Int) (x3:Bool):St:=⟨tsOf [(0,(.dat 9 (.str x0))),(3,(.dat 3 (.int x1))),(4,(.dat 5 (.int x2))),(16,(.dat 4 (.bool x3)))],[],0⟩
noncomputable def s44_2 (x0:ByteArray) (x1:Int):St:=⟨tsOf [(0,(.dat 9 (.str x0))),(3,(.dat 3 (.int x1)))],[],0⟩
noncomputable def s44_10:St:=⟨tsOf [],[],0⟩
abbrev H44_1 (m M1:Nat) (rec1:ByteArray→Int→Option Bool):Prop:=∀x0 x1,l44 jn m [1,0,1,0] [] M1 (s44_2 x0 x1)=rec1 x0 x1
theorem ref01_UTF8_j6_eq m M1 rec1 (h1:H44_1 m M1 rec1) x0 x1 x2:e44 jn m w44_0 [M1] (s44_6 x0 x1 x2)=ref01_UTF8_j6 m rec1 x0 x1 x2:=
 tre (g:=fun J=>(jj J 1 2 M1 (s44_2 x0 (IntKind.wrap .i64 ((IntKind.wrap .i64 (x1+x2))+1))) (l44 J m [1,0,1,0] [] M1))) (fun J=>by kernel_rfl) (by simp only[jj_eq,h1];rfl)
theorem ref01_UTF8_j5_eq m M1 rec1 (h1:H44_1 m M1 rec1) x0 x1 x2 x3:e44 jn m w44_1 [M1] (s44_5 x0 x1 x2 x3)=ref01_UTF8_j5 m rec1 x0 x1 x2 x3:=
 tre (g:=fun J=>(bif x3 then
  some false
   else
  (jj J 0 17 0 (s44_6 x0 x1 x2) (e44 J m w44_0 [M1])))) (fun J=>by kernel_rfl) (by simp only[jj_eq,ref01_UTF8_j6_eq m M1 rec1 h1];rfl)
theorem ref01_UTF8_j4_eq m M1 rec1 (h1:H44_1 m M1 rec1) x0 x1 x2 x3:e44 jn m w44_2 [M1] (s44_4 x0 x1 x2 x3)=ref01_UTF8_j4 m rec1 x0 x1 x2 x3:=
 tre (g:=fun J=>(bif (x2==224) then
  ((idxS x0 (IntKind.wrap .i64 (x1+1))).bind fun v2=>
  (bif (decide (v2<160)) then
  (jj J 0 16 0 (s44_5 x0 x1 x3 true) (e44 J m w44_1 [M1]))
  else
  (bif (x2==237) then
  ((idxS x0 (IntKind.wrap .i64 (x1+1))).bind fun v3=>
  (bif (decide (159<v3)) then
  (jj J 0 16 0 (s44_5 x0 x1 x3 true) (e44 J m w44_1 [M1]))
  else
  (bif (x2==240) then
  ((idxS x0 (IntKind.wrap .i64 (x1+1))).bind fun v4=>
  (bif (decide (v4<144)) then
  (jj J 0 16 0 (s44_5 x0 x1 x3 true) (e44 J m w44_1 [M1]))
  else
  (bif (x2==244) then
  ((idxS x0 (IntKind.wrap .i64 (x1+1))).bind fun v5=>
  (jj J 0 16 0 (s44_5 x0 x1 x3 (decide (143<v5))) (e44 J m w44_1 [M1])))
  else
  (jj J 0 16 0 (s44_5 x0 x1 x3 false) (e44 J m w44_1 [M1])))))
  else
  (bif (x2==244) then
  ((idxS x0 (IntKind.wrap .i64 (x1+1))).bind fun v6=>
  (jj J 0 16 0 (s44_5 x0 x1 x3 (decide (143<v6))) (e44 J m w44_1 [M1])))
  else
  (jj J 0 16 0 (s44_5 x0 x1 x3 false) (e44 J m w44_1 [M1]))))))
  else
  (bif (x2==240) then
  ((idxS x0 (IntKind.wrap .i64 (x1+1))).bind fun v7=>
  (bif (decide (v7<144)) then
  (jj J 0 16 0 (s44_5 x0 x1 x3 true) (e44 J m w44_1 [M1]))
  else
  (bif (x2==244) then
  ((idxS x0 (IntKind.wrap .i64 (x1+1))).bind fun v8=>
  (jj J 0 16 0 (s44_5 x0 x1 x3 (decide (143<v8))) (e44 J m w44_1 [M1])))
  else
  (jj J 0 16 0 (s44_5 x0 x1 x3 false) (e44 J m w44_1 [M1])))))
  else
  (bif (x2==244) then
  ((idxS x0 (IntKind.wrap .i64 (x1+1))).bind fun v9=>
  (jj J 0 16 0 (s44_5 x0 x1 x3 (decide (143<v9))) (e44 J m w44_1 [M1])))
  else
  (jj J 0 16 0 (s44_5 x0 x1 x3 false) (e44 J m w44_1 [M1])))))))
   else
  (bif (x2==237) then
  ((idxS x0 (IntKind.wrap .i64 (x1+1))).bind fun v10=>
  (bif (decide (159<v10)) then
  (jj J 0 16 0 (s44_5 x0 x1 x3 true) (e44 J m w44_1 [M1]))
  else
  (bif (x2==240) then
  ((idxS x0 (IntKind.wrap .i64 (x1+1))).bind fun v11=>
  (bif (decide (v11<144)) then
  (jj J 0 16 0 (s44_5 x0 x1 x3 true) (e44 J m w44_1 [M1]))
  else
  (bif (x2==244) then
  ((idxS x0 (IntKind.wrap .i64 (x1+1))).bind fun v12=>
  (jj J 0 16 0 (s44_5 x0 x1 x3 (decide (143<v12))) (e44 J m w44_1 [M1])))
  else
  (jj J 0 16 0 (s44_5 x0 x1 x3 false) (e44 J m w44_1 [M1])))))
  else
  (bif (x2==244) then
  ((idxS x0 (IntKind.wrap .i64 (x1+1))).bind fun v13=>
  (jj J 0 16 0 (s44_5 x0 x1 x3 (decide (143<v13))) (e44 J m w44_1 [M1])))
  else
  (jj J 0 16 0 (s44_5 x0 x1 x3 false) (e44 J m w44_1 [M1]))))))
  else
  (bif (x2==240) then
  ((idxS x0 (IntKind.wrap .i64 (x1+1))).bind fun v14=>
  (bif (decide (v14<144)) then
  (jj J 0 16 0 (s44_5 x0 x1 x3 true) (e44 J m w44_1 [M1]))
  else
  (bif (x2==244) then
  ((idxS x0 (IntKind.wrap .i64 (x1+1))).bind fun v15=>
  (jj J 0 16 0 (s44_5 x0 x1 x3 (decide (143<v15))) (e44 J m w44_1 [M1])))
  else
  (jj J 0 16 0 (s44_5 x0 x1 x3 false) (e44 J m w44_1 [M1])))))
  else
  (bif (x2==244) then
  ((idxS x0 (IntKind.wrap .i64 (x1+1))).bind fun v16=>
  (jj J 0 16 0 (s44_5 x0 x1 x3 (decide (143<v16))) (e44 J m w44_1 [M1])))
  else
  (jj J 0 16 0 (s44_5 x0 x1 x3 false) (e44 J m w44_1 [M1]))))))) (fun J=>by kernel_rfl) (by simp only[jj_eq,ref01_UTF8_j5_eq m M1 rec1 h1];rfl)
theorem ref01_UTF8_j3_eq m M1 rec1 (h1:H44_1 m M1 rec1) x0 x1 x2 x3:e44 jn m w44_3 [M1] (s44_4 x0 x1 x2 x3)=ref01_UTF8_j3 m rec1 x0 x1 x2 x3:=
 tre (g:=fun J=>((ref01_tail m x0 (IntKind.wrap .i64 (x1+1)) x3).bind fun r1=>
  (bif (Bool.not r1) then
  some false
  else
  (jj J 0 15 0 (s44_4 x0 x1 x2 x3) (e44 J m w44_2 [M1]))))) (fun J=>by kernel_rfl) (by simp only[jj_eq,ref01_UTF8_j4_eq m M1 rec1 h1];rfl)
theorem ref01_UTF8_j9_eq m M1 rec1 (h1:H44_1 m M1 rec1) x0 x1 x2 x3:e44 jn m w44_4 [M1] (s44_9 x0 x1 x2 x3)=ref01_UTF8_j9 m rec1 x0 x1 x2 x3:=
 tre (g:=fun J=>(bif x3 then
  (jj J 0 13 0 (s44_4 x0 x1 x2 3) (e44 J m w44_3 [M1]))
   else
  some false)) (fun J=>by kernel_rfl) (by simp only[jj_eq,ref01_UTF8_j3_eq m M1 rec1 h1];rfl)
theorem ref01_UTF8_j8_eq m M1 rec1 (h1:H44_1 m M1 rec1) x0 x1 x2 x3:e44 jn m w44_5 [M1] (s44_8 x0 x1 x2 x3)=ref01_UTF8_j8 m rec1 x0 x1 x2 x3:=
 tre (g:=fun J=>(bif x3 then
  (jj J 0 13 0 (s44_4 x0 x1 x2 2) (e44 J m w44_3 [M1]))
   else
  (bif (decide (240≤x2)) then
  (jj J 0 12 0 (s44_9 x0 x1 x2 (decide (x2≤244))) (e44 J m w44_4 [M1]))
  else
  (jj J 0 12 0 (s44_9 x0 x1 x2 false) (e44 J m w44_4 [M1]))))) (fun J=>by kernel_rfl) (by simp only[jj_eq,ref01_UTF8_j3_eq m M1 rec1 h1,ref01_UTF8_j9_eq m M1 rec1 h1];rfl)
theorem ref01_UTF8_j7_eq m M1 rec1 (h1:H44_1 m M1 rec1) x0 x1 x2 x3:e44 jn m w44_6 [M1] (s44_7 x0 x1 x2 x3)=ref01_UTF8_j7 m rec1 x0 x1 x2 x3:=
 tre (g:=fun J=>(bif x3 then
  (jj J 0 13 0 (s44_4 x0 x1 x2 1) (e44 J m w44_3 [M1]))
   else
  (bif (decide (224≤x2)) then
  (jj J 0 10 0 (s44_8 x0 x1 x2 (decide (x2≤239))) (e44 J m w44_5 [M1]))
  else
  (jj J 0 10 0 (s44_8 x0 x1 x2 false) (e44 J m w44_5 [M1]))))) (fun J=>by kernel_rfl) (by simp only[jj_eq,ref01_UTF8_j3_eq m M1 rec1 h1,ref01_UTF8_j8_eq m M1 rec1 h1];rfl)
theorem ref01_UTF8_j2_eq m M1 rec1 (h1:H44_1 m M1 rec1) x0 x1:e44 jn m w44_7 [M1] (s44_2 x0 x1)=ref01_UTF8_j2 m rec1 x0 x1:=
 tre (g:=fun J=>((idxS x0 x1).bind fun v0=>
  (bif (decide (v0<128)) then
  (jj J 0 13 0 (s44_4 x0 x1 v0 0) (e44 J m w44_3 [M1]))
  else
  (bif (decide (194≤v0)) then
  (jj J 0 8 0 (s44_7 x0 x1 v0 (decide (v0≤223))) (e44 J m w44_6 [M1]))
  else
  (jj J 0 8 0 (s44_7 x0 x1 v0 false) (e44 J m w44_6 [M1])))))) (fun J=>by kernel_rfl) (by simp only[jj_eq,ref01_UTF8_j3_eq m M1 rec1 h1,ref01_UTF8_j7_eq m M1 rec1 h1];rfl)
theorem ref01_UTF8_j10_eq m:e44 jn m [1,1] [] s44_10=ref01_UTF8_j10 m:=
 tre (g:=fun J=>some true) (fun J=>by kernel_rfl) (by rfl)
theorem ref01_UTF8_l1_eq m:∀M1 x0 x1,l44 jn m [1,0,1,0] [] M1 (s44_2 x0 x1)=ref01_UTF8_l1 m M1 x0 x1
 |0,_,_=>rfl
 | M1+1,x0,x1=>
   trl (g:=fun J=>(bif (decide (x1<(ByteArray.size x0:Int))) then
  (jj J 0 3 0 (s44_2 x0 x1) (e44 J m w44_7 [M1]))
   else
  (jj J 0 18 0 s44_10 (e44 J m [1,1] [])))) (fun J=>by kernel_rfl) (by simp only[jj_eq,ref01_UTF8_j2_eq m M1 (ref01_UTF8_l1 m M1) (ref01_UTF8_l1_eq m M1),ref01_UTF8_j10_eq m];rfl)
theorem ref01_UTF8_j0_eq m x0 x1:e44 jn m [1,0,1] [] (s44_2 x0 x1)=ref01_UTF8_j0 m x0 x1:=
 tre (g:=fun J=>(jj J 1 2 (Nat.succ m) (s44_2 x0 x1) (l44 J m [1,0,1,0] [] (Nat.succ m)))) (fun J=>by kernel_rfl) (by simp only[jj_eq,ref01_UTF8_l1_eq m];rfl)
theorem ref01_UTF8_eq m a0:e44 jn m [] [] ⟨[(.dat 9 (.str a0))],[],0⟩=ref01_UTF8 (m+1) a0:=
 tre (g:=fun J=>(jj J 0 2 0 (s44_2 a0 0) (e44 J m [1,0,1] []))) (fun J=>by kernel_rfl) (by simp only[jj_eq,ref01_UTF8_j0_eq m];rfl)
def w50_0:List Nat:=[1,1,0,1,0]
def w50_3:List Nat:=[1,1,0,1,0,0,1]
def w50_1:List Nat:=w50_3++[1]
def w50_2:List Nat:=w50_3++[0,0,1]
noncomputable def e50 (J:Nat→Nat→Nat→St→Option Bool→Option Bool) (m:Nat) (p ms:List Nat) (σ:St):=evAt Tryz.prog env (ct m) J (m+1) 162 28 Tryz.f162 d5 p ms σ
noncomputable def l50 (J:Nat→Nat→Nat→St→Option Bool→Option Bool) (m:Nat) (p ms:List Nat) (M:Nat) (σ:St):=loopAt Tryz.prog env (ct m) J (m+1) 162 28 Tryz.f162 d5 p ms M σ
noncomputable def s50_6 (x0:ByteArray) (x1:Int):St:=⟨tsOf [(0,(.dat 9 (.str x0))),(3,(.dat 3 (.int x1)))],[],0⟩
noncomputable def s50_5 (x0:ByteArray) (x1:Int) (x2:Bool):St:=⟨tsOf [(0,(.dat 9 (.str x0))),(3,(.dat 3 (.int x1))),(27,(.dat 4 (.bool x2)))],[],0⟩
noncomputable def s50_7:St:=⟨tsOf [],[],0⟩
noncomputable def s50_1 (x0:ByteArray):St:=⟨tsOf [(0,(.dat 9 (.str x0)))],[],0⟩
noncomputable def s50_0 (x0:ByteArray) (x1:Bool):St:=⟨tsOf [(0,(.dat 9 (.str x0))),(11,(.dat 4 (.bool x1)))],[],0⟩
abbrev H50_3 (m M3:Nat) (rec3:ByteArray→Int→Option Bool):Prop:=∀x0 x1,l50 jn m w50_0 [] M3 (s50_6 x0 x1)=rec3 x0 x1
theorem ref01_wide_j6_eq m M3 rec3 (h3:H50_3 m M3 rec3) x0 x1:e50 jn m w50_1 [M3] (s50_6 x0 x1)=ref01_wide_j6 m rec3 x0 x1:=
 tre (g:=fun J=>(jj J 1 4 M3 (s50_6 x0 (IntKind.wrap .i64 (x1+1))) (l50 J m w50_0 [] M3))) (fun J=>by kernel_rfl) (by simp only[jj_eq,h3];rfl)
theorem ref01_wide_j5_eq m M3 rec3 (h3:H50_3 m M3 rec3) x0 x1 x2:e50 jn m w50_2 [M3] (s50_5 x0 x1 x2)=ref01_wide_j5 m rec3 x0 x1 x2:=
 tre (g:=fun J=>(bif x2 then
  some false
   else
  (jj J 0 5 0 (s50_6 x0 x1) (e50 J m w50_1 [M3])))) (fun J=>by kernel_rfl) (by simp only[jj_eq,ref01_wide_j6_eq m M3 rec3 h3];rfl)
theorem ref01_wide_j4_eq m M3 rec3 (h3:H50_3 m M3 rec3) x0 x1:e50 jn m w50_3 [M3] (s50_6 x0 x1)=ref01_wide_j4 m rec3 x0 x1:=
 tre (g:=fun J=>((idxS x0 x1).bind fun v0=>
  (bif (decide (v0<32)) then
  (jj J 0 7 0 (s50_5 x0 x1 true) (e50 J m w50_2 [M3]))
  else
  ((idxS x0 x1).bind fun v1=>
  (jj J 0 7 0 (s50_5 x0 x1 (decide (126<v1))) (e50 J m w50_2 [M3])))))) (fun J=>by kernel_rfl) (by simp only[jj_eq,ref01_wide_j5_eq m M3 rec3 h3];rfl)
theorem ref01_wide_j7_eq m:e50 jn m [1,1,1] [] s50_7=ref01_wide_j7 m:=
 tre (g:=fun J=>some true) (fun J=>by kernel_rfl) (by rfl)
theorem ref01_wide_l3_eq m:∀M3 x0 x1,l50 jn m w50_0 [] M3 (s50_6 x0 x1)=ref01_wide_l3 m M3 x0 x1
 |0,_,_=>rfl
 | M3+1,x0,x1=>
   trl (g:=fun J=>(bif (decide (x1<(ByteArray.size x0:Int))) then
  (jj J 0 6 0 (s50_6 x0 x1) (e50 J m w50_3 [M3]))
   else
  (jj J 0 8 0 s50_7 (e50 J m [1,1,1] [])))) (fun J=>by kernel_rfl) (by simp only[jj_eq,ref01_wide_j4_eq m M3 (ref01_wide_l3 m M3) (ref01_wide_l3_eq m M3),ref01_wide_j7_eq m];rfl)
theorem ref01_wide_j2_eq m x0 x1:e50 jn m [1,1,0,1] [] (s50_6 x0 x1)=ref01_wide_j2 m x0 x1:=
 tre (g:=fun J=>(jj J 1 4 (Nat.succ m) (s50_6 x0 x1) (l50 J m w50_0 [] (Nat.succ m)))) (fun J=>by kernel_rfl) (by simp only[jj_eq,ref01_wide_l3_eq m];rfl)
theorem ref01_wide_j1_eq m x0:e50 jn m [1,1] [] (s50_1 x0)=ref01_wide_j1 m x0:=
 tre (g:=fun J=>(jj J 0 4 0 (s50_6 x0 0) (e50 J m [1,1,0,1] []))) (fun J=>by kernel_rfl) (by simp only[jj_eq,ref01_wide_j2_eq m];rfl)
theorem ref01_wide_j0_eq m x0 x1:e50 jn m [1,0,1] [] (s50_0 x0 x1)=ref01_wide_j0 m x0 x1:=
 tre (g:=fun J=>(bif x1 then
  some false
   else
  (jj J 0 3 0 (s50_1 x0) (e50 J m [1,1] [])))) (fun J=>by kernel_rfl) (by simp only[jj_eq,ref01_wide_j1_eq m];rfl)
theorem ref01_wide_eq m a0:e50 jn m [] [] ⟨[(.dat 9 (.str a0))],[],0⟩=ref01_wide (m+1) a0:=
 tre (g:=fun J=>(bif (decide ((ByteArray.size a0:Int)<1)) then
  (jj J 0 2 0 (s50_0 a0 true) (e50 J m [1,0,1] []))
   else
  (jj J 0 2 0 (s50_0 a0 (decide (128<(ByteArray.size a0:Int)))) (e50 J m [1,0,1] [])))) (fun J=>by kernel_rfl) (by simp only[jj_eq,ref01_wide_j0_eq m];rfl)
def w35_6:List Nat:=[1,1,1,1,1]
def w35_5:List Nat:=[1,1,1,1,1,1]
def w35_7:List Nat:=[1,1,1,1,0,1]
def w35_3:List Nat:=w35_5++[1]
def w35_4:List Nat:=w35_5++[0,1]
def w35_0:List Nat:=w35_4++[0]
def w35_2:List Nat:=w35_0++[0,1]
def w35_1:List Nat:=w35_2++[1]
noncomputable def e35 (J:Nat→Nat→Nat→St→Option Bool→Option Bool) (m:Nat) (p ms:List Nat) (σ:St):=evAt Tryz.prog env (ct m) J (m+1) 70 138 Tryz.f70 d5 p ms σ
noncomputable def l35 (J:Nat→Nat→Nat→St→Option Bool→Option Bool) (m:Nat) (p ms:List Nat) (M:Nat) (σ:St):=loopAt Tryz.prog env (ct m) J (m+1) 70 138 Tryz.f70 d5 p ms M σ
noncomputable def s35_10 (x0:Bool) (x1:Int) (x2:Dt):St:=⟨tsOf [(1,(.dat 4 (.bool x0))),(2,(.ptr 0 [] 0)),(7,(.dat 3 (.int x1)))],[(.box 33 (.dat 33 x2))],0⟩
noncomputable def s35_11 (x0:Bool) (x1:Dt):St:=⟨tsOf [(1,(.dat 4 (.bool x0))),(2,(.ptr 0 [] 0))],[(.box 33 (.dat 33 x1))],0⟩
noncomputable def s35_4 (x0 x1:Bool) (x2:Dt):St:=⟨tsOf [(1,(.dat 4 (.bool x0))),(2,(.ptr 0 [] 0)),(79,(.dat 4 (.bool x1)))],[(.box 33 (.dat 33 x2))],0⟩
noncomputable def s35_3 (x0 x1 x2:Bool) (x3:Dt):St:=⟨tsOf [(1,(.dat 4 (.bool x0))),(2,(.ptr 0 [] 0)),(5,(.dat 4 (.bool x1))),(6,(.dat 4 (.bool x2)))],[(.box 33 (.dat 33 x3))],0⟩
noncomputable def s35_2 (x0 x1:Bool) (x2:Dt):St:=⟨tsOf [(1,(.dat 4 (.bool x0))),(2,(.ptr 0 [] 0)),(5,(.dat 4 (.bool x1)))],[(.box 33 (.dat 33 x2))],0⟩
noncomputable def s35_0 (x0 x1:Bool) (x2:Dt):St:=⟨tsOf [(1,(.dat 4 (.bool x0))),(2,(.ptr 0 [] 0)),(27,(.dat 4 (.bool x1)))],[(.box 33 (.dat 33 x2))],0⟩
abbrev H35_8 (m M8:Nat) (rec8:Bool→Int→Dt→Option Bool):Prop:=∀x0 x1 x2,l35 jn m w35_0 [] M8 (s35_10 x0 x1 x2)=rec8 x0 x1 x2
theorem ref01_formed_j10_eq m M8 rec8 (h8:H35_8 m M8 rec8) x0 x1 x2:e35 jn m w35_1 [M8] (s35_10 x0 x1 x2)=ref01_formed_j10 m (ref01_formed m) (ref01_fields m) rec8 x0 x1 x2:=
 tre (g:=fun J=>(jj J 1 19 M8 (s35_10 x0 (IntKind.wrap .i64 (x1+1)) x2) (l35 J m w35_0 [] M8))) (fun J=>by kernel_rfl) (by simp only[jj_eq,h8];rfl)
theorem ref01_formed_j9_eq m M8 rec8 (h8:H35_8 m M8 rec8) x0 x1 x2:e35 jn m w35_2 [M8] (s35_10 x0 x1 x2)=ref01_formed_j9 m (ref01_formed m) (ref01_fields m) rec8 x0 x1 x2:=
 tre (g:=fun J=>((idx (Dt.L x2 3) x1).bind fun v1=>
  ((ref01_formed m v1 x0).bind fun r2=>
  (bif (Bool.not r2) then
  some false
  else
  (jj J 0 20 0 (s35_10 x0 x1 x2) (e35 J m w35_1 [M8])))))) (fun J=>by kernel_rfl) (by simp only[jj_eq,ref01_formed_j10_eq m M8 rec8 h8];rfl)
theorem ref01_formed_j11_eq m x0 x1:e35 jn m w35_3 [] (s35_11 x0 x1)=ref01_formed_j11 m (ref01_formed m) (ref01_fields m) x0 x1:=
 tre (g:=fun J=>((ref01_fields m x1 x0).bind fun r3=>
  some r3)) (fun J=>by kernel_rfl) (by rfl)
theorem ref01_formed_l8_eq m:∀M8 x0 x1 x2,l35 jn m w35_0 [] M8 (s35_10 x0 x1 x2)=ref01_formed_l8 m (ref01_formed m) (ref01_fields m) M8 x0 x1 x2
 |0,_,_,_=>rfl
 | M8+1,x0,x1,x2=>
   trl (g:=fun J=>(bif (decide (x1<(List.length (Dt.L x2 3):Int))) then
  (jj J 0 21 0 (s35_10 x0 x1 x2) (e35 J m w35_2 [M8]))
   else
  (jj J 0 23 0 (s35_11 x0 x2) (e35 J m w35_3 [])))) (fun J=>by kernel_rfl) (by simp only[jj_eq,ref01_formed_j9_eq m M8 (ref01_formed_l8 m (ref01_formed m) (ref01_fields m) M8) (ref01_formed_l8_eq m M8),ref01_formed_j11_eq m];rfl)
theorem ref01_formed_j7_eq m x0 x1 x2:e35 jn m w35_4 [] (s35_10 x0 x1 x2)=ref01_formed_j7 m (ref01_formed m) (ref01_fields m) x0 x1 x2:=
 tre (g:=fun J=>(jj J 1 19 (Nat.succ m) (s35_10 x0 x1 x2) (l35 J m w35_0 [] (Nat.succ m)))) (fun J=>by kernel_rfl) (by simp only[jj_eq,ref01_formed_l8_eq m];rfl)
theorem ref01_formed_j6_eq m x0 x1:e35 jn m w35_5 [] (s35_11 x0 x1)=ref01_formed_j6 m (ref01_formed m) (ref01_fields m) x0 x1:=
 tre (g:=fun J=>(jj J 0 19 0 (s35_10 x0 0 x1) (e35 J m w35_4 []))) (fun J=>by kernel_rfl) (by simp only[jj_eq,ref01_formed_j7_eq m];rfl)
theorem ref01_formed_j5_eq m x0 x1:e35 jn m w35_6 [] (s35_11 x0 x1)=ref01_formed_j5 m (ref01_formed m) (ref01_fields m) x0 x1:=
 tre (g:=fun J=>(bif ((Dt.I x1 0)==9) then
  (bif ((Dt.I x1 1)==0) then
  some true
  else
  some ((Dt.I x1 1)==1))
   else
  (bif ((Dt.I x1 0)==10) then
  some (decide (0≤(Dt.I x1 1)))
  else
  (bif ((Dt.I x1 0)==4) then
  (bif (decide ((ByteArray.size (Dt.S x1 2):Int)≤4096)) then
  ((ref01_UTF8 m (Dt.S x1 2)).bind fun r0=>
  some r0)
  else
  some false)
  else
  (bif ((Dt.I x1 0)==7) then
  some (decide ((ByteArray.size (Dt.S x1 2):Int)≤4096))
  else
  (bif ((Dt.I x1 0)==8) then
  some ((ByteArray.size (Dt.S x1 2):Int)==12)
  else
  (jj J 0 18 0 (s35_11 x0 x1) (e35 J m w35_5 [])))))))) (fun J=>by kernel_rfl) (by simp only[jj_eq,ref01_formed_j6_eq m];rfl)
theorem ref01_formed_j4_eq m x0 x1 x2:e35 jn m w35_7 [] (s35_4 x0 x1 x2)=ref01_formed_j4 m (ref01_formed m) (ref01_fields m) x0 x1 x2:=
 tre (g:=fun J=>(bif x1 then
  some false
   else
  (jj J 0 7 0 (s35_11 x0 x2) (e35 J m w35_6 [])))) (fun J=>by kernel_rfl) (by simp only[jj_eq,ref01_formed_j5_eq m];rfl)
theorem ref01_formed_j3_eq m x0 x1 x2 x3:e35 jn m [1,1,1,1] [] (s35_3 x0 x1 x2 x3)=ref01_formed_j3 m (ref01_formed m) (ref01_fields m) x0 x1 x2 x3:=
 tre (g:=fun J=>(bif (Bool.not x1) then
  (bif (Bool.not ((ByteArray.toList (Dt.S x3 2))==[])) then
  (jj J 0 6 0 (s35_4 x0 true x3) (e35 J m w35_7 []))
  else
  (bif (Bool.not x2) then
  (bif ((Dt.I x3 1) !=0) then
  (jj J 0 6 0 (s35_4 x0 true x3) (e35 J m w35_7 []))
  else
  (bif (decide ((Dt.I x3 0)<1)) then
  (jj J 0 6 0 (s35_4 x0 true x3) (e35 J m w35_7 []))
  else
  (jj J 0 6 0 (s35_4 x0 (decide (11<(Dt.I x3 0))) x3) (e35 J m w35_7 []))))
  else
  (bif (decide ((Dt.I x3 0)<1)) then
  (jj J 0 6 0 (s35_4 x0 true x3) (e35 J m w35_7 []))
  else
  (jj J 0 6 0 (s35_4 x0 (decide (11<(Dt.I x3 0))) x3) (e35 J m w35_7 [])))))
   else
  (bif (Bool.not x2) then
  (bif ((Dt.I x3 1) !=0) then
  (jj J 0 6 0 (s35_4 x0 true x3) (e35 J m w35_7 []))
  else
  (bif (decide ((Dt.I x3 0)<1)) then
  (jj J 0 6 0 (s35_4 x0 true x3) (e35 J m w35_7 []))
  else
  (jj J 0 6 0 (s35_4 x0 (decide (11<(Dt.I x3 0))) x3) (e35 J m w35_7 []))))
  else
  (bif (decide ((Dt.I x3 0)<1)) then
  (jj J 0 6 0 (s35_4 x0 true x3) (e35 J m w35_7 []))
  else
  (jj J 0 6 0 (s35_4 x0 (decide (11<(Dt.I x3 0))) x3) (e35 J m w35_7 [])))))) (fun J=>by kernel_rfl) (by simp only[jj_eq,ref01_formed_j4_eq m];rfl)
theorem ref01_formed_j2_eq m x0 x1 x2:e35 jn m [1,1,1] [] (s35_2 x0 x1 x2)=ref01_formed_j2 m (ref01_formed m) (ref01_fields m) x0 x1 x2:=
 tre (g:=fun J=>(bif ((Dt.I x2 0)==3) then
  (jj J 0 5 0 (s35_3 x0 x1 true x2) (e35 J m [1,1,1,1] []))
   else
  (bif ((Dt.I x2 0)==9) then
  (jj J 0 5 0 (s35_3 x0 x1 true x2) (e35 J m [1,1,1,1] []))
  else
  (jj J 0 5 0 (s35_3 x0 x1 ((Dt.I x2 0)==10) x2) (e35 J m [1,1,1,1] []))))) (fun J=>by kernel_rfl) (by simp only[jj_eq,ref01_formed_j3_eq m];rfl)
theorem ref01_formed_j1_eq m x0 x1:e35 jn m [1,1] [] (s35_11 x0 x1)=ref01_formed_j1 m (ref01_formed m) (ref01_fields m) x0 x1:=
 tre (g:=fun J=>(bif ((Dt.I x1 0)==4) then
  (jj J 0 4 0 (s35_2 x0 true x1) (e35 J m [1,1,1] []))
   else
  (bif ((Dt.I x1 0)==7) then
  (jj J 0 4 0 (s35_2 x0 true x1) (e35 J m [1,1,1] []))
  else
  (jj J 0 4 0 (s35_2 x0 ((Dt.I x1 0)==8) x1) (e35 J m [1,1,1] []))))) (fun J=>by kernel_rfl) (by simp only[jj_eq,ref01_formed_j2_eq m];rfl)
theorem ref01_formed_j0_eq m x0 x1 x2:e35 jn m [1,0,1] [] (s35_0 x0 x1 x2)=ref01_formed_j0 m (ref01_formed m) (ref01_fields m) x0 x1 x2:=
 tre (g:=fun J=>(bif x1 then
  some false
   else
  (jj J 0 3 0 (s35_11 x0 x2) (e35 J m [1,1] [])))) (fun J=>by kernel_rfl) (by simp only[jj_eq,ref01_formed_j1_eq m];rfl)
theorem ref01_formed_eq m a0 a1:e35 jn m [] [] ⟨[(.dat 33 a0),(.dat 4 (.bool a1))],[],0⟩=ref01_formed (m+1) a0 a1:=
 tre (g:=fun J=>(bif ((Dt.I a0 0) !=6) then
  (bif (decide (0<(List.length (Dt.L a0 3):Int))) then
  (jj J 0 2 0 (s35_0 a1 true a0) (e35 J m [1,0,1] []))
  else
  (bif ((Dt.I a0 0) !=5) then
  (jj J 0 2 0 (s35_0 a1 (decide (0<(List.length (Dt.L a0 4):Int))) a0) (e35 J m [1,0,1] []))
  else
  (jj J 0 2 0 (s35_0 a1 false a0) (e35 J m [1,0,1] []))))
   else
  (bif ((Dt.I a0 0) !=5) then
  (jj J 0 2 0 (s35_0 a1 (decide (0<(List.length (Dt.L a0 4):Int))) a0) (e35 J m [1,0,1] []))
  else
  (jj J 0 2 0 (s35_0 a1 false a0) (e35 J m [1,0,1] []))))) (fun J=>by kernel_rfl) (by simp only[jj_eq,ref01_formed_j0_eq m];rfl)
def w45_7:List Nat:=[1,0,1,0,0,1]
def w45_3:List Nat:=w45_7++[1]
def w45_5:List Nat:=w45_7++[0,0,1,1]
def w45_4:List Nat:=w45_5++[1]
def w45_6:List Nat:=w45_7++[0,0,1,0,1]
def w45_0:List Nat:=w45_4++[0]
def w45_2:List Nat:=w45_0++[0,1]
def w45_1:List Nat:=w45_2++[1]
noncomputable def e45 (J:Nat→Nat→Nat→St→Option Bool→Option Bool) (m:Nat) (p ms:List Nat) (σ:St):=evAt Tryz.prog env (ct m) J (m+1) 115 58 Tryz.f115 d5 p ms σ
noncomputable def l45 (J:Nat→Nat→Nat→St→Option Bool→Option Bool) (m:Nat) (p ms:List Nat) (M:Nat) (σ:St):=loopAt Tryz.prog env (ct m) J (m+1) 115 58 Tryz.f115 d5 p ms M σ
noncomputable def s45_8 (x0:Bool) (x1 x2:Int) (x3 x4:Dt):St:=⟨tsOf [(1,(.dat 4 (.bool x0))),(2,(.ptr 0 [] 0)),(5,(.dat 3 (.int x1))),(6,(.ptr 1 [] 0)),(7,(.dat 3 (.int x2)))],[(.box 33 (.dat 33 x3)),(.box 57 (.dat 57 x4))],0⟩
noncomputable def s45_9 (x0:Bool) (x1:Int) (x2:Dt):St:=⟨tsOf [(1,(.dat 4 (.bool x0))),(2,(.ptr 0 [] 0)),(5,(.dat 3 (.int x1)))],[(.box 33 (.dat 33 x2))],0⟩
noncomputable def s45_4 (x0:Bool) (x1:Int) (x2 x3:Dt):St:=⟨tsOf [(1,(.dat 4 (.bool x0))),(2,(.ptr 0 [] 0)),(5,(.dat 3 (.int x1))),(6,(.ptr 1 [] 0))],[(.box 33 (.dat 33 x2)),(.box 57 (.dat 57 x3))],0⟩
noncomputable def s45_3 (x0:Bool) (x1:Int) (x2:Bool) (x3 x4:Dt):St:=⟨tsOf [(1,(.dat 4 (.bool x0))),(2,(.ptr 0 [] 0)),(5,(.dat 3 (.int x1))),(6,(.ptr 1 [] 0)),(43,(.dat 4 (.bool x2)))],[(.box 33 (.dat 33 x3)),(.box 57 (.dat 57 x4))],0⟩
noncomputable def s45_10:St:=⟨tsOf [],[],0⟩
abbrev H45_1 (m M1:Nat) (rec1:Bool→Int→Dt→Option Bool):Prop:=∀x0 x1 x2,l45 jn m [1,0,1,0] [] M1 (s45_9 x0 x1 x2)=rec1 x0 x1 x2
abbrev H45_6 (m M1 M6:Nat) (rec6:Bool→Int→Int→Dt→Dt→Option Bool):Prop:=∀x0 x1 x2 x3 x4,l45 jn m w45_0 [M1] M6 (s45_8 x0 x1 x2 x3 x4)=rec6 x0 x1 x2 x3 x4
theorem ref01_fields_j8_eq m M1 rec1 (h1:H45_1 m M1 rec1) M6 rec6 (h6:H45_6 m M1 M6 rec6) x0 x1 x2 x3 x4:e45 jn m w45_1 [M1,M6] (s45_8 x0 x1 x2 x3 x4)=ref01_fields_j8 m (ref01_formed m) rec1 rec6 x0 x1 x2 x3 x4:=
 tre (g:=fun J=>(jj J 1 8 M6 (s45_8 x0 x1 (IntKind.wrap .i64 (x2+1)) x3 x4) (l45 J m w45_0 [M1] M6))) (fun J=>by kernel_rfl) (by simp only[jj_eq,h6];rfl)
theorem ref01_fields_j7_eq m M1 rec1 (h1:H45_1 m M1 rec1) M6 rec6 (h6:H45_6 m M1 M6 rec6) x0 x1 x2 x3 x4:e45 jn m w45_2 [M1,M6] (s45_8 x0 x1 x2 x3 x4)=ref01_fields_j7 m (ref01_formed m) rec1 rec6 x0 x1 x2 x3 x4:=
 tre (g:=fun J=>((idx (Dt.L x3 4) x2).bind fun v2=>
  (bif ((ByteArray.toList (Dt.S v2 0))==(ByteArray.toList (Dt.S x4 0))) then
  some false
  else
  (jj J 0 9 0 (s45_8 x0 x1 x2 x3 x4) (e45 J m w45_1 [M1,M6]))))) (fun J=>by kernel_rfl) (by simp only[jj_eq,ref01_fields_j8_eq m M1 rec1 h1 M6 rec6 h6];rfl)
theorem ref01_fields_j9_eq m M1 rec1 (h1:H45_1 m M1 rec1) x0 x1 x2:e45 jn m w45_3 [M1] (s45_9 x0 x1 x2)=ref01_fields_j9 m (ref01_formed m) rec1 x0 x1 x2:=
 tre (g:=fun J=>(jj J 1 2 M1 (s45_9 x0 (IntKind.wrap .i64 (x1+1)) x2) (l45 J m [1,0,1,0] [] M1))) (fun J=>by kernel_rfl) (by simp only[jj_eq,h1];rfl)
theorem ref01_fields_l6_eq m M1 rec1 (h1:H45_1 m M1 rec1):∀M6 x0 x1 x2 x3 x4,l45 jn m w45_0 [M1] M6 (s45_8 x0 x1 x2 x3 x4)=ref01_fields_l6 m (ref01_formed m) rec1 M6 x0 x1 x2 x3 x4
 |0,_,_,_,_,_=>rfl
 | M6+1,x0,x1,x2,x3,x4=>
   trl (g:=fun J=>(bif (decide (x2<x1)) then
  (jj J 0 10 0 (s45_8 x0 x1 x2 x3 x4) (e45 J m w45_2 [M1,M6]))
   else
  (jj J 0 3 0 (s45_9 x0 x1 x3) (e45 J m w45_3 [M1])))) (fun J=>by kernel_rfl) (by simp only[jj_eq,ref01_fields_j7_eq m M1 rec1 h1 M6 (ref01_fields_l6 m (ref01_formed m) rec1 M6) (ref01_fields_l6_eq m M1 rec1 h1 M6),ref01_fields_j9_eq m M1 rec1 h1];rfl)
theorem ref01_fields_j5_eq m M1 rec1 (h1:H45_1 m M1 rec1) x0 x1 x2 x3 x4:e45 jn m w45_4 [M1] (s45_8 x0 x1 x2 x3 x4)=ref01_fields_j5 m (ref01_formed m) rec1 x0 x1 x2 x3 x4:=
 tre (g:=fun J=>(jj J 1 8 (Nat.succ m) (s45_8 x0 x1 x2 x3 x4) (l45 J m w45_0 [M1] (Nat.succ m)))) (fun J=>by kernel_rfl) (by simp only[jj_eq,ref01_fields_l6_eq m M1 rec1 h1];rfl)
theorem ref01_fields_j4_eq m M1 rec1 (h1:H45_1 m M1 rec1) x0 x1 x2 x3:e45 jn m w45_5 [M1] (s45_4 x0 x1 x2 x3)=ref01_fields_j4 m (ref01_formed m) rec1 x0 x1 x2 x3:=
 tre (g:=fun J=>(jj J 0 8 0 (s45_8 x0 x1 0 x2 x3) (e45 J m w45_4 [M1]))) (fun J=>by kernel_rfl) (by simp only[jj_eq,ref01_fields_j5_eq m M1 rec1 h1];rfl)
theorem ref01_fields_j3_eq m M1 rec1 (h1:H45_1 m M1 rec1) x0 x1 x2 x3 x4:e45 jn m w45_6 [M1] (s45_3 x0 x1 x2 x3 x4)=ref01_fields_j3 m (ref01_formed m) rec1 x0 x1 x2 x3 x4:=
 tre (g:=fun J=>(bif x2 then
  some false
   else
  (jj J 0 7 0 (s45_4 x0 x1 x3 x4) (e45 J m w45_5 [M1])))) (fun J=>by kernel_rfl) (by simp only[jj_eq,ref01_fields_j4_eq m M1 rec1 h1];rfl)
theorem ref01_fields_j2_eq m M1 rec1 (h1:H45_1 m M1 rec1) x0 x1 x2:e45 jn m w45_7 [M1] (s45_9 x0 x1 x2)=ref01_fields_j2 m (ref01_formed m) rec1 x0 x1 x2:=
 tre (g:=fun J=>((idx (Dt.L x2 4) x1).bind fun v0=>
  (bif x0 then
  ((ref01_Name m (Dt.S v0 0)).bind fun r1=>
  (bif (Bool.not r1) then
  (jj J 0 6 0 (s45_3 x0 x1 true x2 v0) (e45 J m w45_6 [M1]))
  else
  (bif (Bool.not x0) then
  ((ref01_wide m (Dt.S v0 0)).bind fun r3=>
  (bif (Bool.not r3) then
  (jj J 0 6 0 (s45_3 x0 x1 true x2 v0) (e45 J m w45_6 [M1]))
  else
  ((ref01_formed m (Dt.fld v0 1) x0).bind fun r4=>
  (jj J 0 6 0 (s45_3 x0 x1 (Bool.not r4) x2 v0) (e45 J m w45_6 [M1])))))
  else
  ((ref01_formed m (Dt.fld v0 1) x0).bind fun r5=>
  (jj J 0 6 0 (s45_3 x0 x1 (Bool.not r5) x2 v0) (e45 J m w45_6 [M1]))))))
  else
  (bif (Bool.not x0) then
  ((ref01_wide m (Dt.S v0 0)).bind fun r6=>
  (bif (Bool.not r6) then
  (jj J 0 6 0 (s45_3 x0 x1 true x2 v0) (e45 J m w45_6 [M1]))
  else
  ((ref01_formed m (Dt.fld v0 1) x0).bind fun r7=>
  (jj J 0 6 0 (s45_3 x0 x1 (Bool.not r7) x2 v0) (e45 J m w45_6 [M1])))))
  else
  ((ref01_formed m (Dt.fld v0 1) x0).bind fun r8=>
  (jj J 0 6 0 (s45_3 x0 x1 (Bool.not r8) x2 v0) (e45 J m w45_6 [M1]))))))) (fun J=>by kernel_rfl) (by simp only[jj_eq,ref01_fields_j3_eq m M1 rec1 h1];rfl)
theorem ref01_fields_j10_eq m:e45 jn m [1,1] [] s45_10=ref01_fields_j10 m (ref01_formed m):=
 tre (g:=fun J=>some true) (fun J=>by kernel_rfl) (by rfl)
theorem ref01_fields_l1_eq m:∀M1 x0 x1 x2,l45 jn m [1,0,1,0] [] M1 (s45_9 x0 x1 x2)=ref01_fields_l1 m (ref01_formed m) M1 x0 x1 x2
 |0,_,_,_=>rfl
 | M1+1,x0,x1,x2=>
   trl (g:=fun J=>(bif (decide (x1<(List.length (Dt.L x2 4):Int))) then
  (jj J 0 4 0 (s45_9 x0 x1 x2) (e45 J m w45_7 [M1]))
   else
  (jj J 0 12 0 s45_10 (e45 J m [1,1] [])))) (fun J=>by kernel_rfl) (by simp only[jj_eq,ref01_fields_j2_eq m M1 (ref01_fields_l1 m (ref01_formed m) M1) (ref01_fields_l1_eq m M1),ref01_fields_j10_eq m];rfl)
theorem ref01_fields_j0_eq m x0 x1 x2:e45 jn m [1,0,1] [] (s45_9 x0 x1 x2)=ref01_fields_j0 m (ref01_formed m) x0 x1 x2:=
 tre (g:=fun J=>(jj J 1 2 (Nat.succ m) (s45_9 x0 x1 x2) (l45 J m [1,0,1,0] [] (Nat.succ m)))) (fun J=>by kernel_rfl) (by simp only[jj_eq,ref01_fields_l1_eq m];rfl)
theorem ref01_fields_eq m a0 a1:e45 jn m [] [] ⟨[(.dat 33 a0),(.dat 4 (.bool a1))],[],0⟩=ref01_fields (m+1) a0 a1:=
 tre (g:=fun J=>(jj J 0 2 0 (s45_9 a1 0 a0) (e45 J m [1,0,1] []))) (fun J=>by kernel_rfl) (by simp only[jj_eq,ref01_fields_j0_eq m];rfl)
noncomputable def e20 (J:Nat→Nat→Nat→St→Option Bool→Option Bool) (m:Nat) (p ms:List Nat) (σ:St):=evAt Tryz.prog env (ct m) J (m+1) 24 15 Tryz.f24 d5 p ms σ
noncomputable def l20 (J:Nat→Nat→Nat→St→Option Bool→Option Bool) (m:Nat) (p ms:List Nat) (M:Nat) (σ:St):=loopAt Tryz.prog env (ct m) J (m+1) 24 15 Tryz.f24 d5 p ms M σ
theorem ref01_Valid_eq m a0:e20 jn m [] [] ⟨[(.dat 33 a0)],[],0⟩=ref01_Valid (m+1) a0:=
 tre (g:=fun J=>((ref01_Depth m a0).bind fun r0=>
  (bif (decide (r0≤16)) then
  ((ref01_Nodes m a0).bind fun r1=>
  (bif (decide (r1≤1024)) then
  ((ref01_formed m a0 true).bind fun r2=>
  some r2)
  else
  some false))
  else
  some false))) (fun J=>by kernel_rfl) (by rfl)
noncomputable def e10 (J:Nat→Nat→Nat→St→Option Bool→Option Bool) (m:Nat) (p ms:List Nat) (σ:St):=evAt Tryz.prog env (ct m) J (m+1) 41 11 Tryz.f41 d5 p ms σ
noncomputable def l10 (J:Nat→Nat→Nat→St→Option Bool→Option Bool) (m:Nat) (p ms:List Nat) (M:Nat) (σ:St):=loopAt Tryz.prog env (ct m) J (m+1) 41 11 Tryz.f41 d5 p ms M σ
theorem law36_valid_1_eq m a0:e10 jn m [] [] ⟨[(.dat 33 a0)],[],0⟩=law36_valid_1 (m+1) a0:=
 tre (g:=fun J=>(bif ((Dt.I a0 0) !=5) then
  some true
   else
  ((ref01_Valid m a0).bind fun r0=>
  some (Bool.not r0)))) (fun J=>by kernel_rfl) (by rfl)
def w9_1:List Nat:=[1,0,1,0,0,1,1]
def w9_0:List Nat:=w9_1++[1]
noncomputable def e9 (J:Nat→Nat→Nat→St→Option Int→Option Int) (m:Nat) (p ms:List Nat) (σ:St):=evAt Tryz.prog env (ct m) J (m+1) 67 19 Tryz.f67 d36 p ms σ
noncomputable def l9 (J:Nat→Nat→Nat→St→Option Int→Option Int) (m:Nat) (p ms:List Nat) (M:Nat) (σ:St):=loopAt Tryz.prog env (ct m) J (m+1) 67 19 Tryz.f67 d36 p ms M σ
noncomputable def s9_3 (x0:List Dt) (x1 x2:Int):St:=⟨tsOf [(0,(.dat 23 (.lst x0))),(1,(.fn 41 [])),(7,(.dat 3 (.int x1))),(8,(.dat 3 (.int x2)))],[],0⟩
noncomputable def s9_4:St:=⟨tsOf [],[],0⟩
abbrev H9_1 (m M1:Nat) (rec1:List Dt→Int→Int→Option Int):Prop:=∀x0 x1 x2,l9 jn m [1,0,1,0] [] M1 (s9_3 x0 x1 x2)=rec1 x0 x1 x2
theorem i9_j3_eq m M1 rec1 (h1:H9_1 m M1 rec1) x0 x1 x2:e9 jn m w9_0 [M1] (s9_3 x0 x1 x2)=i9_j3 m rec1 x0 x1 x2:=
 tre (g:=fun J=>(jj J 1 2 M1 (s9_3 x0 x1 (IntKind.wrap .i64 (x2+1))) (l9 J m [1,0,1,0] [] M1))) (fun J=>by kernel_rfl) (by simp only[jj_eq,h1];rfl)
theorem i9_j2_eq m M1 rec1 (h1:H9_1 m M1 rec1) x0 x1 x2:e9 jn m w9_1 [M1] (s9_3 x0 x1 x2)=i9_j2 m rec1 x0 x1 x2:=
 tre (g:=fun J=>((idx x0 x2).bind fun v0=>
  ((law36_valid_1 m v0).bind fun r1=>
  (bif r1 then
  some x2
  else
  (jj J 0 6 0 (s9_3 x0 x1 x2) (e9 J m w9_0 [M1])))))) (fun J=>by kernel_rfl) (by simp only[jj_eq,i9_j3_eq m M1 rec1 h1];rfl)
theorem i9_j4_eq m:e9 jn m [1,1] [] s9_4=i9_j4 m:=
 tre (g:=fun J=>some (-1)) (fun J=>by kernel_rfl) (by rfl)
theorem i9_l1_eq m:∀M1 x0 x1 x2,l9 jn m [1,0,1,0] [] M1 (s9_3 x0 x1 x2)=i9_l1 m M1 x0 x1 x2
 |0,_,_,_=>rfl
 | M1+1,x0,x1,x2=>
   trl (g:=fun J=>(bif (decide (x2<x1)) then
  (jj J 0 3 0 (s9_3 x0 x1 x2) (e9 J m w9_1 [M1]))
   else
  (jj J 0 7 0 s9_4 (e9 J m [1,1] [])))) (fun J=>by kernel_rfl) (by simp only[jj_eq,i9_j2_eq m M1 (i9_l1 m M1) (i9_l1_eq m M1),i9_j4_eq m];rfl)
theorem i9_j0_eq m x0 x1 x2:e9 jn m [1,0,1] [] (s9_3 x0 x1 x2)=i9_j0 m x0 x1 x2:=
 tre (g:=fun J=>(jj J 1 2 (Nat.succ m) (s9_3 x0 x1 x2) (l9 J m [1,0,1,0] [] (Nat.succ m)))) (fun J=>by kernel_rfl) (by simp only[jj_eq,i9_l1_eq m];rfl)
theorem i9_eq m a0:e9 jn m [] [] ⟨[(.dat 23 (.lst a0)),(.fn 41 [])],[],0⟩=i9 (m+1) a0:=
 tre (g:=fun J=>(jj J 0 2 0 (s9_3 a0 (List.length a0:Int) 0) (e9 J m [1,0,1] []))) (fun J=>by kernel_rfl) (by simp only[jj_eq,i9_j0_eq m];rfl)
noncomputable def e8 (J:Nat→Nat→Nat→St→Option Bool→Option Bool) (m:Nat) (p ms:List Nat) (σ:St):=evAt Tryz.prog env (ct m) J (m+1) 22 9 Tryz.f22 d5 p ms σ
noncomputable def l8 (J:Nat→Nat→Nat→St→Option Bool→Option Bool) (m:Nat) (p ms:List Nat) (M:Nat) (σ:St):=loopAt Tryz.prog env (ct m) J (m+1) 22 9 Tryz.f22 d5 p ms M σ
theorem i8_eq m a0:e8 jn m [] [] ⟨[(.dat 23 (.lst a0)),(.fn 41 [])],[],0⟩=i8 (m+1) a0:=
 tre (g:=fun J=>((i9 m a0).bind fun r0=>
  some (decide (0≤r0)))) (fun J=>by kernel_rfl) (by rfl)
noncomputable def e1 (J:Nat→Nat→Nat→St→Option Bool→Option Bool) (m:Nat) (p ms:List Nat) (σ:St):=evAt Tryz.prog env (ct m) J (m+1) 10 11 Tryz.f10 d5 p ms σ
noncomputable def l1 (J:Nat→Nat→Nat→St→Option Bool→Option Bool) (m:Nat) (p ms:List Nat) (M:Nat) (σ:St):=loopAt Tryz.prog env (ct m) J (m+1) 10 11 Tryz.f10 d5 p ms M σ
theorem law36_valid_eq m a0:e1 jn m [] [] ⟨[(.dat 23 (.lst a0))],[],0⟩=law36_valid (m+1) a0:=
 tre (g:=fun J=>(bif (decide ((List.length a0:Int)≤30)) then
  ((i8 m a0).bind fun r0=>
  some (Bool.not r0))
   else
  some false)) (fun J=>by kernel_rfl) (by rfl)
noncomputable def e0 (J:Nat→Nat→Nat→St→Option Bool→Option Bool) (m:Nat) (p ms:List Nat) (σ:St):=evAt Tryz.prog env (ct m) J (m+1) 3 37 Tryz.f3 d5 p ms σ
noncomputable def l0 (J:Nat→Nat→Nat→St→Option Bool→Option Bool) (m:Nat) (p ms:List Nat) (M:Nat) (σ:St):=loopAt Tryz.prog env (ct m) J (m+1) 3 37 Tryz.f3 d5 p ms M σ
noncomputable def s0_1 (x0:List Dt) (x1:ByteArray) (x2:Bool) (x3:List Dt):St:=⟨tsOf [(0,(.dat 22 (.lst x0))),(1,(.dat 9 (.str x1))),(2,(.dat 4 (.bool x2))),(3,(.dat 23 (.lst x3)))],[],0⟩
noncomputable def s0_0 (x0:List Dt) (x1:ByteArray) (x2:Bool) (x3:List Dt) (x4:Bool):St:=⟨tsOf [(0,(.dat 22 (.lst x0))),(1,(.dat 9 (.str x1))),(2,(.dat 4 (.bool x2))),(3,(.dat 23 (.lst x3))),(21,(.dat 4 (.bool x4)))],[],0⟩
theorem law36_ReshapeUnwind_j1_eq m x0 x1 x2 x3:e0 jn m [1,1] [] (s0_1 x0 x1 x2 x3)=law36_ReshapeUnwind_j1 m x0 x1 x2 x3:=
 tre (g:=fun J=>((reshape_Unwind m x0 x1 x2 x3).bind fun r2=>
  ((ref36_Unwind m x0 x1 x2 x3).bind fun r3=>
  ((law03_SameList m r2 r3).bind fun r4=>
  (bif r4 then
  ((awakeC).bind fun r5=>
  some r5)
  else
  some false))))) (fun J=>by kernel_rfl) (by rfl)
theorem law36_ReshapeUnwind_j0_eq m x0 x1 x2 x3 x4:e0 jn m [1,0,1] [] (s0_0 x0 x1 x2 x3 x4)=law36_ReshapeUnwind_j0 m x0 x1 x2 x3 x4:=
 tre (g:=fun J=>(bif x4 then
  ((awakeC).bind fun r1=>
  some r1)
   else
  (jj J 0 3 0 (s0_1 x0 x1 x2 x3) (e0 J m [1,1] [])))) (fun J=>by kernel_rfl) (by simp only[jj_eq,law36_ReshapeUnwind_j1_eq m];rfl)
theorem law36_ReshapeUnwind_eq m a0 a1 a2 a3:e0 jn m [] [] ⟨[(.dat 22 (.lst a0)),(.dat 9 (.str a1)),(.dat 4 (.bool a2)),(.dat 23 (.lst a3))],[],0⟩=law36_ReshapeUnwind (m+1) a0 a1 a2 a3:=
 tre (g:=fun J=>((law36_valid m a3).bind fun r0=>
  (bif (Bool.not r0) then
  (jj J 0 2 0 (s0_0 a0 a1 a2 a3 true) (e0 J m [1,0,1] []))
  else
  ((ref04_Valid m a0).bind fun r6=>
  (bif (Bool.not r6) then
  (jj J 0 2 0 (s0_0 a0 a1 a2 a3 true) (e0 J m [1,0,1] []))
  else
  ((law36_named m a1).bind fun r7=>
  (jj J 0 2 0 (s0_0 a0 a1 a2 a3 (Bool.not r7)) (e0 J m [1,0,1] [])))))))) (fun J=>by kernel_rfl) (by simp only[jj_eq,law36_ReshapeUnwind_j0_eq m];rfl)
end Go.Proofs.YtameompfdamfpaaGreatDoor
