/- Generated: each function's run in the abstract machine is its shallow function. -/
import Derived.Test.YtfneddmmeadacaaGreatDoorCt
import Derived.Test.YtfneddmmeadacaaGreatDoorAmEnv
import Derived.KernelRfl
set_option linter.unusedVariables false
set_option linter.unusedSimpArgs false
namespace Go.Proofs.YtfneddmmeadacaaGreatDoor
open Go.Am
set_option maxRecDepth 100000
def w74_0:List Nat:=[1,1,0,1,0]
def w74_3:List Nat:=[1,1,0,1,0,0,1]
def w74_1:List Nat:=w74_3++[1]
def w74_2:List Nat:=w74_3++[0,0,1]
noncomputable def e74 (J:Nat→Nat→Nat→St→Option Bool→Option Bool) (m:Nat) (p ms:List Nat) (σ:St):=evAt Tryz.prog env (ct m) J (m+1) 102 39 Tryz.f102 d13 p ms σ
noncomputable def l74 (J:Nat→Nat→Nat→St→Option Bool→Option Bool) (m:Nat) (p ms:List Nat) (M:Nat) (σ:St):=loopAt Tryz.prog env (ct m) J (m+1) 102 39 Tryz.f102 d13 p ms M σ
noncomputable def s74_6 (x0:ByteArray) (x1:Int):St:=⟨tsOf [(0,(.dat 9 (.str x0))),(3,(.dat 3 (.int x1)))],[],0⟩
noncomputable def s74_5 (x0:ByteArray) (x1:Int) (x2:Bool):St:=⟨tsOf [(0,(.dat 9 (.str x0))),(3,(.dat 3 (.int x1))),(38,(.dat 4 (.bool x2)))],[],0⟩
noncomputable def s74_7:St:=⟨tsOf [],[],0⟩
noncomputable def s74_1 (x0:ByteArray):St:=⟨tsOf [(0,(.dat 9 (.str x0)))],[],0⟩
noncomputable def s74_0 (x0:ByteArray) (x1:Bool):St:=⟨tsOf [(0,(.dat 9 (.str x0))),(16,(.dat 4 (.bool x1)))],[],0⟩
abbrev H74_3 (m M3:Nat) (rec3:ByteArray→Int→Option Bool):Prop:=∀x0 x1,l74 jn m w74_0 [] M3 (s74_6 x0 x1)=rec3 x0 x1
theorem ref01_Name_j6_eq m M3 rec3 (h3:H74_3 m M3 rec3) x0 x1:e74 jn m w74_1 [M3] (s74_6 x0 x1)=ref01_Name_j6 m rec3 x0 x1:=
 tre (g:=fun J=>(jj J 1 4 M3 (s74_6 x0 (IntKind.wrap .i64 (x1+1))) (l74 J m w74_0 [] M3))) (fun J=>by kernel_rfl) (by simp only[jj_eq,h3];rfl)
theorem ref01_Name_j5_eq m M3 rec3 (h3:H74_3 m M3 rec3) x0 x1 x2:e74 jn m w74_2 [M3] (s74_5 x0 x1 x2)=ref01_Name_j5 m rec3 x0 x1 x2:=
 tre (g:=fun J=>(bif x2 then
  some false
   else
  (jj J 0 5 0 (s74_6 x0 x1) (e74 J m w74_1 [M3])))) (fun J=>by kernel_rfl) (by simp only[jj_eq,ref01_Name_j6_eq m M3 rec3 h3];rfl)
theorem ref01_Name_j4_eq m M3 rec3 (h3:H74_3 m M3 rec3) x0 x1:e74 jn m w74_3 [M3] (s74_6 x0 x1)=ref01_Name_j4 m rec3 x0 x1:=
 tre (g:=fun J=>((idxS x0 x1).bind fun v0=>
  (bif (decide (v0<33)) then
  (jj J 0 7 0 (s74_5 x0 x1 true) (e74 J m w74_2 [M3]))
  else
  ((idxS x0 x1).bind fun v1=>
  (bif (decide (126<v1)) then
  (jj J 0 7 0 (s74_5 x0 x1 true) (e74 J m w74_2 [M3]))
  else
  ((idxS x0 x1).bind fun v2=>
  (jj J 0 7 0 (s74_5 x0 x1 (v2==46)) (e74 J m w74_2 [M3])))))))) (fun J=>by kernel_rfl) (by simp only[jj_eq,ref01_Name_j5_eq m M3 rec3 h3];rfl)
theorem ref01_Name_j7_eq m:e74 jn m [1,1,1] [] s74_7=ref01_Name_j7 m:=
 tre (g:=fun J=>some true) (fun J=>by kernel_rfl) (by rfl)
theorem ref01_Name_l3_eq m:∀M3 x0 x1,l74 jn m w74_0 [] M3 (s74_6 x0 x1)=ref01_Name_l3 m M3 x0 x1
 |0,_,_=>rfl
 | M3+1,x0,x1=>
   trl (g:=fun J=>(bif (decide (x1<(ByteArray.size x0:Int))) then
  (jj J 0 6 0 (s74_6 x0 x1) (e74 J m w74_3 [M3]))
   else
  (jj J 0 8 0 s74_7 (e74 J m [1,1,1] [])))) (fun J=>by kernel_rfl) (by simp only[jj_eq,ref01_Name_j4_eq m M3 (ref01_Name_l3 m M3) (ref01_Name_l3_eq m M3),ref01_Name_j7_eq m];rfl)
theorem ref01_Name_j2_eq m x0 x1:e74 jn m [1,1,0,1] [] (s74_6 x0 x1)=ref01_Name_j2 m x0 x1:=
 tre (g:=fun J=>(jj J 1 4 (Nat.succ m) (s74_6 x0 x1) (l74 J m w74_0 [] (Nat.succ m)))) (fun J=>by kernel_rfl) (by simp only[jj_eq,ref01_Name_l3_eq m];rfl)
theorem ref01_Name_j1_eq m x0:e74 jn m [1,1] [] (s74_1 x0)=ref01_Name_j1 m x0:=
 tre (g:=fun J=>(jj J 0 4 0 (s74_6 x0 0) (e74 J m [1,1,0,1] []))) (fun J=>by kernel_rfl) (by simp only[jj_eq,ref01_Name_j2_eq m];rfl)
theorem ref01_Name_j0_eq m x0 x1:e74 jn m [1,0,1] [] (s74_0 x0 x1)=ref01_Name_j0 m x0 x1:=
 tre (g:=fun J=>(bif x1 then
  some false
   else
  (jj J 0 3 0 (s74_1 x0) (e74 J m [1,1] [])))) (fun J=>by kernel_rfl) (by simp only[jj_eq,ref01_Name_j1_eq m];rfl)
theorem ref01_Name_eq m a0:e74 jn m [] [] ⟨[(.dat 9 (.str a0))],[],0⟩=ref01_Name (m+1) a0:=
 tre (g:=fun J=>(bif (decide ((ByteArray.size a0:Int)<1)) then
  (jj J 0 2 0 (s74_0 a0 true) (e74 J m [1,0,1] []))
   else
  (bif (decide (32<(ByteArray.size a0:Int))) then
  (jj J 0 2 0 (s74_0 a0 true) (e74 J m [1,0,1] []))
  else
  ((idxS a0 0).bind fun v3=>
  (jj J 0 2 0 (s74_0 a0 (v3==36)) (e74 J m [1,0,1] [])))))) (fun J=>by kernel_rfl) (by simp only[jj_eq,ref01_Name_j0_eq m];rfl)
def w67_6:List Nat:=[1,0,1,0,0,1]
def w67_3:List Nat:=w67_6++[1]
def w67_5:List Nat:=w67_6++[0,0,1]
def w67_4:List Nat:=w67_5++[1]
def w67_0:List Nat:=w67_4++[0]
def w67_2:List Nat:=w67_0++[0,1]
def w67_1:List Nat:=w67_2++[1]
noncomputable def e67 (J:Nat→Nat→Nat→St→Option Bool→Option Bool) (m:Nat) (p ms:List Nat) (σ:St):=evAt Tryz.prog env (ct m) J (m+1) 105 31 Tryz.f105 d13 p ms σ
noncomputable def l67 (J:Nat→Nat→Nat→St→Option Bool→Option Bool) (m:Nat) (p ms:List Nat) (M:Nat) (σ:St):=loopAt Tryz.prog env (ct m) J (m+1) 105 31 Tryz.f105 d13 p ms M σ
noncomputable def s67_7 (x0:List Dt) (x1 x2:Int):St:=⟨tsOf [(0,(.dat 28 (.lst x0))),(3,(.dat 3 (.int x1))),(4,(.dat 3 (.int x2)))],[],0⟩
noncomputable def s67_8 (x0:List Dt) (x1:Int):St:=⟨tsOf [(0,(.dat 28 (.lst x0))),(3,(.dat 3 (.int x1)))],[],0⟩
noncomputable def s67_9:St:=⟨tsOf [],[],0⟩
abbrev H67_1 (m M1:Nat) (rec1:List Dt→Int→Option Bool):Prop:=∀x0 x1,l67 jn m [1,0,1,0] [] M1 (s67_8 x0 x1)=rec1 x0 x1
abbrev H67_5 (m M1 M5:Nat) (rec5:List Dt→Int→Int→Option Bool):Prop:=∀x0 x1 x2,l67 jn m w67_0 [M1] M5 (s67_7 x0 x1 x2)=rec5 x0 x1 x2
theorem ref14_different_j7_eq m M1 rec1 (h1:H67_1 m M1 rec1) M5 rec5 (h5:H67_5 m M1 M5 rec5) x0 x1 x2:e67 jn m w67_1 [M1,M5] (s67_7 x0 x1 x2)=ref14_different_j7 m rec1 rec5 x0 x1 x2:=
 tre (g:=fun J=>(jj J 1 7 M5 (s67_7 x0 x1 (IntKind.wrap .i64 (x2+1))) (l67 J m w67_0 [M1] M5))) (fun J=>by kernel_rfl) (by simp only[jj_eq,h5];rfl)
theorem ref14_different_j6_eq m M1 rec1 (h1:H67_1 m M1 rec1) M5 rec5 (h5:H67_5 m M1 M5 rec5) x0 x1 x2:e67 jn m w67_2 [M1,M5] (s67_7 x0 x1 x2)=ref14_different_j6 m rec1 rec5 x0 x1 x2:=
 tre (g:=fun J=>((idx x0 x2).bind fun v2=>
  ((idx x0 x1).bind fun v3=>
  (bif ((ByteArray.toList (Dt.toStr v2))==(ByteArray.toList (Dt.toStr v3))) then
  some false
  else
  (jj J 0 8 0 (s67_7 x0 x1 x2) (e67 J m w67_1 [M1,M5])))))) (fun J=>by kernel_rfl) (by simp only[jj_eq,ref14_different_j7_eq m M1 rec1 h1 M5 rec5 h5];rfl)
theorem ref14_different_j8_eq m M1 rec1 (h1:H67_1 m M1 rec1) x0 x1:e67 jn m w67_3 [M1] (s67_8 x0 x1)=ref14_different_j8 m rec1 x0 x1:=
 tre (g:=fun J=>(jj J 1 2 M1 (s67_8 x0 (IntKind.wrap .i64 (x1+1))) (l67 J m [1,0,1,0] [] M1))) (fun J=>by kernel_rfl) (by simp only[jj_eq,h1];rfl)
theorem ref14_different_l5_eq m M1 rec1 (h1:H67_1 m M1 rec1):∀M5 x0 x1 x2,l67 jn m w67_0 [M1] M5 (s67_7 x0 x1 x2)=ref14_different_l5 m rec1 M5 x0 x1 x2
 |0,_,_,_=>rfl
 | M5+1,x0,x1,x2=>
   trl (g:=fun J=>(bif (decide (x2<x1)) then
  (jj J 0 9 0 (s67_7 x0 x1 x2) (e67 J m w67_2 [M1,M5]))
   else
  (jj J 0 3 0 (s67_8 x0 x1) (e67 J m w67_3 [M1])))) (fun J=>by kernel_rfl) (by simp only[jj_eq,ref14_different_j6_eq m M1 rec1 h1 M5 (ref14_different_l5 m rec1 M5) (ref14_different_l5_eq m M1 rec1 h1 M5),ref14_different_j8_eq m M1 rec1 h1];rfl)
theorem ref14_different_j4_eq m M1 rec1 (h1:H67_1 m M1 rec1) x0 x1 x2:e67 jn m w67_4 [M1] (s67_7 x0 x1 x2)=ref14_different_j4 m rec1 x0 x1 x2:=
 tre (g:=fun J=>(jj J 1 7 (Nat.succ m) (s67_7 x0 x1 x2) (l67 J m w67_0 [M1] (Nat.succ m)))) (fun J=>by kernel_rfl) (by simp only[jj_eq,ref14_different_l5_eq m M1 rec1 h1];rfl)
theorem ref14_different_j3_eq m M1 rec1 (h1:H67_1 m M1 rec1) x0 x1:e67 jn m w67_5 [M1] (s67_8 x0 x1)=ref14_different_j3 m rec1 x0 x1:=
 tre (g:=fun J=>(jj J 0 7 0 (s67_7 x0 x1 0) (e67 J m w67_4 [M1]))) (fun J=>by kernel_rfl) (by simp only[jj_eq,ref14_different_j4_eq m M1 rec1 h1];rfl)
theorem ref14_different_j2_eq m M1 rec1 (h1:H67_1 m M1 rec1) x0 x1:e67 jn m w67_6 [M1] (s67_8 x0 x1)=ref14_different_j2 m rec1 x0 x1:=
 tre (g:=fun J=>((idx x0 x1).bind fun v0=>
  ((ref01_Name m (Dt.toStr v0)).bind fun r1=>
  (bif (Bool.not r1) then
  some false
  else
  (jj J 0 6 0 (s67_8 x0 x1) (e67 J m w67_5 [M1])))))) (fun J=>by kernel_rfl) (by simp only[jj_eq,ref14_different_j3_eq m M1 rec1 h1];rfl)
theorem ref14_different_j9_eq m:e67 jn m [1,1] [] s67_9=ref14_different_j9 m:=
 tre (g:=fun J=>some true) (fun J=>by kernel_rfl) (by rfl)
theorem ref14_different_l1_eq m:∀M1 x0 x1,l67 jn m [1,0,1,0] [] M1 (s67_8 x0 x1)=ref14_different_l1 m M1 x0 x1
 |0,_,_=>rfl
 | M1+1,x0,x1=>
   trl (g:=fun J=>(bif (decide (x1<(List.length x0:Int))) then
  (jj J 0 4 0 (s67_8 x0 x1) (e67 J m w67_6 [M1]))
   else
  (jj J 0 11 0 s67_9 (e67 J m [1,1] [])))) (fun J=>by kernel_rfl) (by simp only[jj_eq,ref14_different_j2_eq m M1 (ref14_different_l1 m M1) (ref14_different_l1_eq m M1),ref14_different_j9_eq m];rfl)
theorem ref14_different_j0_eq m x0 x1:e67 jn m [1,0,1] [] (s67_8 x0 x1)=ref14_different_j0 m x0 x1:=
 tre (g:=fun J=>(jj J 1 2 (Nat.succ m) (s67_8 x0 x1) (l67 J m [1,0,1,0] [] (Nat.succ m)))) (fun J=>by kernel_rfl) (by simp only[jj_eq,ref14_different_l1_eq m];rfl)
theorem ref14_different_eq m a0:e67 jn m [] [] ⟨[(.dat 28 (.lst a0))],[],0⟩=ref14_different (m+1) a0:=
 tre (g:=fun J=>(jj J 0 2 0 (s67_8 a0 0) (e67 J m [1,0,1] []))) (fun J=>by kernel_rfl) (by simp only[jj_eq,ref14_different_j0_eq m];rfl)
def w75_0:List Nat:=[1,1,0,1,0]
def w75_7:List Nat:=[1,1,1,0,1]
def w75_3:List Nat:=[1,1,1,0,1,0]
def w75_2:List Nat:=[1,1,0,1,0,0,1]
def w75_1:List Nat:=w75_2++[1]
def w75_6:List Nat:=w75_3++[0,1]
def w75_4:List Nat:=w75_6++[1]
def w75_5:List Nat:=w75_6++[0,0,1]
noncomputable def e75 (J:Nat→Nat→Nat→St→Option Bool→Option Bool) (m:Nat) (p ms:List Nat) (σ:St):=evAt Tryz.prog env (ct m) J (m+1) 26 99 Tryz.f26 d13 p ms σ
noncomputable def l75 (J:Nat→Nat→Nat→St→Option Bool→Option Bool) (m:Nat) (p ms:List Nat) (M:Nat) (σ:St):=loopAt Tryz.prog env (ct m) J (m+1) 26 99 Tryz.f26 d13 p ms M σ
noncomputable def s75_5 (x0:Int) (x1 x2:Dt):St:=⟨tsOf [(2,(.ptr 0 [] 0)),(3,(.ptr 1 [] 0)),(5,(.dat 3 (.int x0)))],[(.box 25 (.dat 25 x1)),(.box 25 (.dat 25 x2))],0⟩
noncomputable def s75_11 (x0:Int) (x1 x2:Dt):St:=⟨tsOf [(2,(.ptr 0 [] 0)),(3,(.ptr 1 [] 0)),(6,(.dat 3 (.int x0)))],[(.box 25 (.dat 25 x1)),(.box 25 (.dat 25 x2))],0⟩
noncomputable def s75_10 (x0:Int) (x1:Bool) (x2 x3:Dt):St:=⟨tsOf [(2,(.ptr 0 [] 0)),(3,(.ptr 1 [] 0)),(6,(.dat 3 (.int x0))),(98,(.dat 4 (.bool x1)))],[(.box 25 (.dat 25 x2)),(.box 25 (.dat 25 x3))],0⟩
noncomputable def s75_12:St:=⟨tsOf [],[],0⟩
noncomputable def s75_6 (x0 x1:Dt):St:=⟨tsOf [(2,(.ptr 0 [] 0)),(3,(.ptr 1 [] 0))],[(.box 25 (.dat 25 x0)),(.box 25 (.dat 25 x1))],0⟩
noncomputable def s75_0 (x0:Bool) (x1 x2:Dt):St:=⟨tsOf [(2,(.ptr 0 [] 0)),(3,(.ptr 1 [] 0)),(43,(.dat 4 (.bool x0)))],[(.box 25 (.dat 25 x1)),(.box 25 (.dat 25 x2))],0⟩
abbrev H75_3 (m M3:Nat) (rec3:Int→Dt→Dt→Option Bool):Prop:=∀x0 x1 x2,l75 jn m w75_0 [] M3 (s75_5 x0 x1 x2)=rec3 x0 x1 x2
theorem ref01_Same_j5_eq m M3 rec3 (h3:H75_3 m M3 rec3) x0 x1 x2:e75 jn m w75_1 [M3] (s75_5 x0 x1 x2)=ref01_Same_j5 m (ref01_Same m) rec3 x0 x1 x2:=
 tre (g:=fun J=>(jj J 1 4 M3 (s75_5 (IntKind.wrap .i64 (x0+1)) x1 x2) (l75 J m w75_0 [] M3))) (fun J=>by kernel_rfl) (by simp only[jj_eq,h3];rfl)
theorem ref01_Same_j4_eq m M3 rec3 (h3:H75_3 m M3 rec3) x0 x1 x2:e75 jn m w75_2 [M3] (s75_5 x0 x1 x2)=ref01_Same_j4 m (ref01_Same m) rec3 x0 x1 x2:=
 tre (g:=fun J=>((idx (Dt.L x1 3) x0).bind fun v0=>
  ((idx (Dt.L x2 3) x0).bind fun v1=>
  ((ref01_Same m v0 v1).bind fun r2=>
  (bif (Bool.not r2) then
  some false
  else
  (jj J 0 5 0 (s75_5 x0 x1 x2) (e75 J m w75_1 [M3]))))))) (fun J=>by kernel_rfl) (by simp only[jj_eq,ref01_Same_j5_eq m M3 rec3 h3];rfl)
abbrev H75_8 (m M8:Nat) (rec8:Int→Dt→Dt→Option Bool):Prop:=∀x0 x1 x2,l75 jn m w75_3 [] M8 (s75_11 x0 x1 x2)=rec8 x0 x1 x2
theorem ref01_Same_j11_eq m M8 rec8 (h8:H75_8 m M8 rec8) x0 x1 x2:e75 jn m w75_4 [M8] (s75_11 x0 x1 x2)=ref01_Same_j11 m (ref01_Same m) rec8 x0 x1 x2:=
 tre (g:=fun J=>(jj J 1 9 M8 (s75_11 (IntKind.wrap .i64 (x0+1)) x1 x2) (l75 J m w75_3 [] M8))) (fun J=>by kernel_rfl) (by simp only[jj_eq,h8];rfl)
theorem ref01_Same_j10_eq m M8 rec8 (h8:H75_8 m M8 rec8) x0 x1 x2 x3:e75 jn m w75_5 [M8] (s75_10 x0 x1 x2 x3)=ref01_Same_j10 m (ref01_Same m) rec8 x0 x1 x2 x3:=
 tre (g:=fun J=>(bif x1 then
  some false
   else
  (jj J 0 10 0 (s75_11 x0 x2 x3) (e75 J m w75_4 [M8])))) (fun J=>by kernel_rfl) (by simp only[jj_eq,ref01_Same_j11_eq m M8 rec8 h8];rfl)
theorem ref01_Same_j9_eq m M8 rec8 (h8:H75_8 m M8 rec8) x0 x1 x2:e75 jn m w75_6 [M8] (s75_11 x0 x1 x2)=ref01_Same_j9 m (ref01_Same m) rec8 x0 x1 x2:=
 tre (g:=fun J=>((idx (Dt.L x1 4) x0).bind fun v3=>
  ((idx (Dt.L x2 4) x0).bind fun v4=>
  (bif (Bool.not ((ByteArray.toList (Dt.S v3 0))==(ByteArray.toList (Dt.S v4 0)))) then
  (jj J 0 12 0 (s75_10 x0 true x1 x2) (e75 J m w75_5 [M8]))
  else
  ((idx (Dt.L x1 4) x0).bind fun v5=>
  ((idx (Dt.L x2 4) x0).bind fun v6=>
  ((ref01_Same m (Dt.fld v5 1) (Dt.fld v6 1)).bind fun r7=>
  (jj J 0 12 0 (s75_10 x0 (Bool.not r7) x1 x2) (e75 J m w75_5 [M8]))))))))) (fun J=>by kernel_rfl) (by simp only[jj_eq,ref01_Same_j10_eq m M8 rec8 h8];rfl)
theorem ref01_Same_j12_eq m:e75 jn m [1,1,1,1] [] s75_12=ref01_Same_j12 m (ref01_Same m):=
 tre (g:=fun J=>some true) (fun J=>by kernel_rfl) (by rfl)
theorem ref01_Same_l8_eq m:∀M8 x0 x1 x2,l75 jn m w75_3 [] M8 (s75_11 x0 x1 x2)=ref01_Same_l8 m (ref01_Same m) M8 x0 x1 x2
 |0,_,_,_=>rfl
 | M8+1,x0,x1,x2=>
   trl (g:=fun J=>(bif (decide (x0<(List.length (Dt.L x1 4):Int))) then
  (jj J 0 11 0 (s75_11 x0 x1 x2) (e75 J m w75_6 [M8]))
   else
  (jj J 0 13 0 s75_12 (e75 J m [1,1,1,1] [])))) (fun J=>by kernel_rfl) (by simp only[jj_eq,ref01_Same_j9_eq m M8 (ref01_Same_l8 m (ref01_Same m) M8) (ref01_Same_l8_eq m M8),ref01_Same_j12_eq m];rfl)
theorem ref01_Same_j7_eq m x0 x1 x2:e75 jn m w75_7 [] (s75_11 x0 x1 x2)=ref01_Same_j7 m (ref01_Same m) x0 x1 x2:=
 tre (g:=fun J=>(jj J 1 9 (Nat.succ m) (s75_11 x0 x1 x2) (l75 J m w75_3 [] (Nat.succ m)))) (fun J=>by kernel_rfl) (by simp only[jj_eq,ref01_Same_l8_eq m];rfl)
theorem ref01_Same_j6_eq m x0 x1:e75 jn m [1,1,1] [] (s75_6 x0 x1)=ref01_Same_j6 m (ref01_Same m) x0 x1:=
 tre (g:=fun J=>(jj J 0 9 0 (s75_11 0 x0 x1) (e75 J m w75_7 []))) (fun J=>by kernel_rfl) (by simp only[jj_eq,ref01_Same_j7_eq m];rfl)
theorem ref01_Same_l3_eq m:∀M3 x0 x1 x2,l75 jn m w75_0 [] M3 (s75_5 x0 x1 x2)=ref01_Same_l3 m (ref01_Same m) M3 x0 x1 x2
 |0,_,_,_=>rfl
 | M3+1,x0,x1,x2=>
   trl (g:=fun J=>(bif (decide (x0<(List.length (Dt.L x1 3):Int))) then
  (jj J 0 6 0 (s75_5 x0 x1 x2) (e75 J m w75_2 [M3]))
   else
  (jj J 0 8 0 (s75_6 x1 x2) (e75 J m [1,1,1] [])))) (fun J=>by kernel_rfl) (by simp only[jj_eq,ref01_Same_j4_eq m M3 (ref01_Same_l3 m (ref01_Same m) M3) (ref01_Same_l3_eq m M3),ref01_Same_j6_eq m];rfl)
theorem ref01_Same_j2_eq m x0 x1 x2:e75 jn m [1,1,0,1] [] (s75_5 x0 x1 x2)=ref01_Same_j2 m (ref01_Same m) x0 x1 x2:=
 tre (g:=fun J=>(jj J 1 4 (Nat.succ m) (s75_5 x0 x1 x2) (l75 J m w75_0 [] (Nat.succ m)))) (fun J=>by kernel_rfl) (by simp only[jj_eq,ref01_Same_l3_eq m];rfl)
theorem ref01_Same_j1_eq m x0 x1:e75 jn m [1,1] [] (s75_6 x0 x1)=ref01_Same_j1 m (ref01_Same m) x0 x1:=
 tre (g:=fun J=>(jj J 0 4 0 (s75_5 0 x0 x1) (e75 J m [1,1,0,1] []))) (fun J=>by kernel_rfl) (by simp only[jj_eq,ref01_Same_j2_eq m];rfl)
theorem ref01_Same_j0_eq m x0 x1 x2:e75 jn m [1,0,1] [] (s75_0 x0 x1 x2)=ref01_Same_j0 m (ref01_Same m) x0 x1 x2:=
 tre (g:=fun J=>(bif x0 then
  some false
   else
  (jj J 0 3 0 (s75_6 x1 x2) (e75 J m [1,1] [])))) (fun J=>by kernel_rfl) (by simp only[jj_eq,ref01_Same_j1_eq m];rfl)
theorem ref01_Same_eq m a0 a1:e75 jn m [] [] ⟨[(.dat 25 a0),(.dat 25 a1)],[],0⟩=ref01_Same (m+1) a0 a1:=
 tre (g:=fun J=>(bif ((Dt.I a0 0) !=(Dt.I a1 0)) then
  (jj J 0 2 0 (s75_0 true a0 a1) (e75 J m [1,0,1] []))
   else
  (bif ((Dt.I a0 1) !=(Dt.I a1 1)) then
  (jj J 0 2 0 (s75_0 true a0 a1) (e75 J m [1,0,1] []))
  else
  (bif (Bool.not ((ByteArray.toList (Dt.S a0 2))==(ByteArray.toList (Dt.S a1 2)))) then
  (jj J 0 2 0 (s75_0 true a0 a1) (e75 J m [1,0,1] []))
  else
  (bif ((List.length (Dt.L a0 3):Int) !=(List.length (Dt.L a1 3):Int)) then
  (jj J 0 2 0 (s75_0 true a0 a1) (e75 J m [1,0,1] []))
  else
  (jj J 0 2 0 (s75_0 ((List.length (Dt.L a0 4):Int) !=(List.length (Dt.L a1 4):Int)) a0 a1) (e75 J m [1,0,1] []))))))) (fun J=>by kernel_rfl) (by simp only[jj_eq,ref01_Same_j0_eq m];rfl)
def w83_0:List Nat:=[1,1,0,1,0]
def w83_3:List Nat:=[1,1,0,1,0,0,1,1]
def w83_1:List Nat:=w83_3++[1]
def w83_2:List Nat:=w83_3++[0,0,1,1]
noncomputable def e83 (J:Nat→Nat→Nat→St→Option Bool→Option Bool) (m:Nat) (p ms:List Nat) (σ:St):=evAt Tryz.prog env (ct m) J (m+1) 116 39 Tryz.f116 d13 p ms σ
noncomputable def l83 (J:Nat→Nat→Nat→St→Option Bool→Option Bool) (m:Nat) (p ms:List Nat) (M:Nat) (σ:St):=loopAt Tryz.prog env (ct m) J (m+1) 116 39 Tryz.f116 d13 p ms M σ
noncomputable def s83_6 (x0:ByteArray) (x1 x2:Int):St:=⟨tsOf [(0,(.dat 9 (.str x0))),(18,(.dat 3 (.int x1))),(19,(.dat 3 (.int x2)))],[],0⟩
noncomputable def s83_5 (x0:ByteArray) (x1 x2:Int) (x3:Bool):St:=⟨tsOf [(0,(.dat 9 (.str x0))),(18,(.dat 3 (.int x1))),(19,(.dat 3 (.int x2))),(37,(.dat 4 (.bool x3)))],[],0⟩
noncomputable def s83_7:St:=⟨tsOf [],[],0⟩
noncomputable def s83_1 (x0:ByteArray):St:=⟨tsOf [(0,(.dat 9 (.str x0)))],[],0⟩
noncomputable def s83_0 (x0:ByteArray) (x1:Bool):St:=⟨tsOf [(0,(.dat 9 (.str x0))),(16,(.dat 4 (.bool x1)))],[],0⟩
abbrev H83_3 (m M3:Nat) (rec3:ByteArray→Int→Int→Option Bool):Prop:=∀x0 x1 x2,l83 jn m w83_0 [] M3 (s83_6 x0 x1 x2)=rec3 x0 x1 x2
theorem value_isName_j6_eq m M3 rec3 (h3:H83_3 m M3 rec3) x0 x1 x2:e83 jn m w83_1 [M3] (s83_6 x0 x1 x2)=value_isName_j6 m rec3 x0 x1 x2:=
 tre (g:=fun J=>(jj J 1 4 M3 (s83_6 x0 x1 (IntKind.wrap .i64 (x2+1))) (l83 J m w83_0 [] M3))) (fun J=>by kernel_rfl) (by simp only[jj_eq,h3];rfl)
theorem value_isName_j5_eq m M3 rec3 (h3:H83_3 m M3 rec3) x0 x1 x2 x3:e83 jn m w83_2 [M3] (s83_5 x0 x1 x2 x3)=value_isName_j5 m rec3 x0 x1 x2 x3:=
 tre (g:=fun J=>(bif x3 then
  some false
   else
  (jj J 0 8 0 (s83_6 x0 x1 x2) (e83 J m w83_1 [M3])))) (fun J=>by kernel_rfl) (by simp only[jj_eq,value_isName_j6_eq m M3 rec3 h3];rfl)
theorem value_isName_j4_eq m M3 rec3 (h3:H83_3 m M3 rec3) x0 x1 x2:e83 jn m w83_3 [M3] (s83_6 x0 x1 x2)=value_isName_j4 m rec3 x0 x1 x2:=
 tre (g:=fun J=>((idxS x0 x2).bind fun v0=>
  (bif (decide (v0<33)) then
  (jj J 0 7 0 (s83_5 x0 x1 x2 true) (e83 J m w83_2 [M3]))
  else
  ((idxS x0 x2).bind fun v1=>
  (bif (decide (126<v1)) then
  (jj J 0 7 0 (s83_5 x0 x1 x2 true) (e83 J m w83_2 [M3]))
  else
  ((idxS x0 x2).bind fun v2=>
  (jj J 0 7 0 (s83_5 x0 x1 x2 (v2==46)) (e83 J m w83_2 [M3])))))))) (fun J=>by kernel_rfl) (by simp only[jj_eq,value_isName_j5_eq m M3 rec3 h3];rfl)
theorem value_isName_j7_eq m:e83 jn m [1,1,1] [] s83_7=value_isName_j7 m:=
 tre (g:=fun J=>some true) (fun J=>by kernel_rfl) (by rfl)
theorem value_isName_l3_eq m:∀M3 x0 x1 x2,l83 jn m w83_0 [] M3 (s83_6 x0 x1 x2)=value_isName_l3 m M3 x0 x1 x2
 |0,_,_,_=>rfl
 | M3+1,x0,x1,x2=>
   trl (g:=fun J=>(bif (decide (x2<x1)) then
  (jj J 0 5 0 (s83_6 x0 x1 x2) (e83 J m w83_3 [M3]))
   else
  (jj J 0 9 0 s83_7 (e83 J m [1,1,1] [])))) (fun J=>by kernel_rfl) (by simp only[jj_eq,value_isName_j4_eq m M3 (value_isName_l3 m M3) (value_isName_l3_eq m M3),value_isName_j7_eq m];rfl)
theorem value_isName_j2_eq m x0 x1 x2:e83 jn m [1,1,0,1] [] (s83_6 x0 x1 x2)=value_isName_j2 m x0 x1 x2:=
 tre (g:=fun J=>(jj J 1 4 (Nat.succ m) (s83_6 x0 x1 x2) (l83 J m w83_0 [] (Nat.succ m)))) (fun J=>by kernel_rfl) (by simp only[jj_eq,value_isName_l3_eq m];rfl)
theorem value_isName_j1_eq m x0:e83 jn m [1,1] [] (s83_1 x0)=value_isName_j1 m x0:=
 tre (g:=fun J=>(jj J 0 4 0 (s83_6 x0 (ByteArray.size x0:Int) 0) (e83 J m [1,1,0,1] []))) (fun J=>by kernel_rfl) (by simp only[jj_eq,value_isName_j2_eq m];rfl)
theorem value_isName_j0_eq m x0 x1:e83 jn m [1,0,1] [] (s83_0 x0 x1)=value_isName_j0 m x0 x1:=
 tre (g:=fun J=>(bif x1 then
  some false
   else
  (jj J 0 3 0 (s83_1 x0) (e83 J m [1,1] [])))) (fun J=>by kernel_rfl) (by simp only[jj_eq,value_isName_j1_eq m];rfl)
theorem value_isName_eq m a0:e83 jn m [] [] ⟨[(.dat 9 (.str a0))],[],0⟩=value_isName (m+1) a0:=
 tre (g:=fun J=>(bif (decide ((ByteArray.size a0:Int)<1)) then
  (jj J 0 2 0 (s83_0 a0 true) (e83 J m [1,0,1] []))
   else
  (bif (decide (32<(ByteArray.size a0:Int))) then
  (jj J 0 2 0 (s83_0 a0 true) (e83 J m [1,0,1] []))
  else
  ((idxS a0 0).bind fun v3=>
  (jj J 0 2 0 (s83_0 a0 (v3==36)) (e83 J m [1,0,1] [])))))) (fun J=>by kernel_rfl) (by simp only[jj_eq,value_isName_j0_eq m];rfl)
def w66_7:List Nat:=[1,1,1,1,1]
def w66_9:List Nat:=[1,1,1,0,1]
def w66_5:List Nat:=[1,1,1,1,1,1]
def w66_8:List Nat:=[1,1,1,1,0,1]
def w66_6:List Nat:=[1,1,1,1,1,0,1,0,1]
def w66_3:List Nat:=w66_6++[1,1,1,1,1,1,1,1,1,1,1,1,0,1]
def w66_4:List Nat:=w66_6++[1,1,1,1,1,1,1,1,1,1,1,1,0,0,1]
def w66_0:List Nat:=w66_4++[0]
def w66_2:List Nat:=w66_0++[0,1,1]
def w66_1:List Nat:=w66_2++[1]
noncomputable def e66 (J:Nat→Nat→Nat→St→Option Bool→Option Bool) (m:Nat) (p ms:List Nat) (σ:St):=evAt Tryz.prog env (ct m) J (m+1) 65 132 Tryz.f65 d13 p ms σ
noncomputable def l66 (J:Nat→Nat→Nat→St→Option Bool→Option Bool) (m:Nat) (p ms:List Nat) (M:Nat) (σ:St):=loopAt Tryz.prog env (ct m) J (m+1) 65 132 Tryz.f65 d13 p ms M σ
noncomputable def s66_10 (x0:List Dt) (x1 x2:Int):St:=⟨tsOf [(117,(.dat 22 (.lst x0))),(118,(.dat 3 (.int x1))),(119,(.dat 3 (.int x2)))],[],0⟩
noncomputable def s66_11:St:=⟨tsOf [],[],0⟩
noncomputable def s66_6 (x0:Int) (x1:Bool) (x2:Dt):St:=⟨tsOf [(1,(.ptr 0 [] 0)),(70,(.dat 3 (.int x0))),(71,(.dat 4 (.bool x1)))],[(.box 25 (.dat 25 x2))],0⟩
noncomputable def s66_5 (x0:Dt):St:=⟨tsOf [(1,(.ptr 0 [] 0))],[(.box 25 (.dat 25 x0))],0⟩
noncomputable def s66_4 (x0:Bool) (x1:Dt):St:=⟨tsOf [(1,(.ptr 0 [] 0)),(68,(.dat 4 (.bool x0)))],[(.box 25 (.dat 25 x1))],0⟩
noncomputable def s66_2 (x0:Bool) (x1:Dt):St:=⟨tsOf [(1,(.ptr 0 [] 0)),(48,(.dat 4 (.bool x0)))],[(.box 25 (.dat 25 x1))],0⟩
noncomputable def s66_1 (x0 x1:Bool) (x2:Dt):St:=⟨tsOf [(1,(.ptr 0 [] 0)),(3,(.dat 4 (.bool x0))),(4,(.dat 4 (.bool x1)))],[(.box 25 (.dat 25 x2))],0⟩
noncomputable def s66_0 (x0:Bool) (x1:Dt):St:=⟨tsOf [(1,(.ptr 0 [] 0)),(3,(.dat 4 (.bool x0)))],[(.box 25 (.dat 25 x1))],0⟩
abbrev H66_8 (m M8:Nat) (rec8:List Dt→Int→Int→Option Bool):Prop:=∀x0 x1 x2,l66 jn m w66_0 [] M8 (s66_10 x0 x1 x2)=rec8 x0 x1 x2
theorem value_sound_j10_eq m M8 rec8 (h8:H66_8 m M8 rec8) x0 x1 x2:e66 jn m w66_1 [M8] (s66_10 x0 x1 x2)=value_sound_j10 m (value_sound m) (value_soundFields m) rec8 x0 x1 x2:=
 tre (g:=fun J=>(jj J 1 25 M8 (s66_10 x0 x1 (IntKind.wrap .i64 (x2+1))) (l66 J m w66_0 [] M8))) (fun J=>by kernel_rfl) (by simp only[jj_eq,h8];rfl)
theorem value_sound_j9_eq m M8 rec8 (h8:H66_8 m M8 rec8) x0 x1 x2:e66 jn m w66_2 [M8] (s66_10 x0 x1 x2)=value_sound_j9 m (value_sound m) (value_soundFields m) rec8 x0 x1 x2:=
 tre (g:=fun J=>((idx x0 x2).bind fun v1=>
  ((value_sound m v1).bind fun r2=>
  (bif (Bool.not r2) then
  some false
  else
  (jj J 0 29 0 (s66_10 x0 x1 x2) (e66 J m w66_1 [M8])))))) (fun J=>by kernel_rfl) (by simp only[jj_eq,value_sound_j10_eq m M8 rec8 h8];rfl)
theorem value_sound_j11_eq m:e66 jn m w66_3 [] s66_11=value_sound_j11 m (value_sound m) (value_soundFields m):=
 tre (g:=fun J=>some true) (fun J=>by kernel_rfl) (by rfl)
theorem value_sound_l8_eq m:∀M8 x0 x1 x2,l66 jn m w66_0 [] M8 (s66_10 x0 x1 x2)=value_sound_l8 m (value_sound m) (value_soundFields m) M8 x0 x1 x2
 |0,_,_,_=>rfl
 | M8+1,x0,x1,x2=>
   trl (g:=fun J=>(bif (decide (x2<x1)) then
  (jj J 0 26 0 (s66_10 x0 x1 x2) (e66 J m w66_2 [M8]))
   else
  (jj J 0 30 0 s66_11 (e66 J m w66_3 [])))) (fun J=>by kernel_rfl) (by simp only[jj_eq,value_sound_j9_eq m M8 (value_sound_l8 m (value_sound m) (value_soundFields m) M8) (value_sound_l8_eq m M8),value_sound_j11_eq m];rfl)
theorem value_sound_j7_eq m x0 x1 x2:e66 jn m w66_4 [] (s66_10 x0 x1 x2)=value_sound_j7 m (value_sound m) (value_soundFields m) x0 x1 x2:=
 tre (g:=fun J=>(jj J 1 25 (Nat.succ m) (s66_10 x0 x1 x2) (l66 J m w66_0 [] (Nat.succ m)))) (fun J=>by kernel_rfl) (by simp only[jj_eq,value_sound_l8_eq m];rfl)
theorem value_sound_j12_eq m:e66 jn m w66_5 [] s66_11=value_sound_j12 m (value_sound m) (value_soundFields m):=
 tre (g:=fun J=>some false) (fun J=>by kernel_rfl) (by rfl)
theorem value_sound_j6_eq m x0 x1 x2:e66 jn m w66_6 [] (s66_6 x0 x1 x2)=value_sound_j6 m (value_sound m) (value_soundFields m) x0 x1 x2:=
 tre (g:=fun J=>(bif x1 then
  some true
   else
  (bif (x0==9) then
  (bif ((Dt.I x2 1)==0) then
  some true
  else
  some ((Dt.I x2 1)==1))
  else
  (bif (x0==10) then
  some (decide (0≤(Dt.I x2 1)))
  else
  (bif (x0==4) then
  (bif (decide ((ByteArray.size (Dt.S x2 2):Int)≤4096)) then
  ((utf8_ValidString (Dt.S x2 2)).bind fun r0=>
  some r0)
  else
  some false)
  else
  (bif (x0==7) then
  some (decide ((ByteArray.size (Dt.S x2 2):Int)≤4096))
  else
  (bif (x0==8) then
  some ((ByteArray.size (Dt.S x2 2):Int)==12)
  else
  (bif (x0==6) then
  (jj J 0 25 0 (s66_10 (Dt.L x2 3) (List.length (Dt.L x2 3):Int) 0) (e66 J m w66_4 []))
  else
  (bif (x0==5) then
  ((value_soundFields m (Dt.L x2 4)).bind fun r3=>
  some r3)
  else
  (jj J 0 33 0 s66_11 (e66 J m w66_5 []))))))))))) (fun J=>by kernel_rfl) (by simp only[jj_eq,value_sound_j7_eq m,value_sound_j12_eq m];rfl)
theorem value_sound_j5_eq m x0:e66 jn m w66_7 [] (s66_5 x0)=value_sound_j5 m (value_sound m) (value_soundFields m) x0:=
 tre (g:=fun J=>(bif ((Dt.I x0 0)==1) then
  (jj J 0 12 0 (s66_6 (Dt.I x0 0) ((Dt.I x0 0)==1) x0) (e66 J m w66_6 []))
   else
  (bif ((Dt.I x0 0)==2) then
  (jj J 0 12 0 (s66_6 (Dt.I x0 0) ((Dt.I x0 0)==2) x0) (e66 J m w66_6 []))
  else
  (bif ((Dt.I x0 0)==11) then
  (jj J 0 12 0 (s66_6 (Dt.I x0 0) ((Dt.I x0 0)==11) x0) (e66 J m w66_6 []))
  else
  (jj J 0 12 0 (s66_6 (Dt.I x0 0) ((Dt.I x0 0)==3) x0) (e66 J m w66_6 [])))))) (fun J=>by kernel_rfl) (by simp only[jj_eq,value_sound_j6_eq m];rfl)
theorem value_sound_j4_eq m x0 x1:e66 jn m w66_8 [] (s66_4 x0 x1)=value_sound_j4 m (value_sound m) (value_soundFields m) x0 x1:=
 tre (g:=fun J=>(bif x0 then
  some false
   else
  (jj J 0 7 0 (s66_5 x1) (e66 J m w66_7 [])))) (fun J=>by kernel_rfl) (by simp only[jj_eq,value_sound_j5_eq m];rfl)
theorem value_sound_j3_eq m x0:e66 jn m [1,1,1,1] [] (s66_5 x0)=value_sound_j3 m (value_sound m) (value_soundFields m) x0:=
 tre (g:=fun J=>(bif ((Dt.I x0 0) !=6) then
  (bif (decide (0<(List.length (Dt.L x0 3):Int))) then
  (jj J 0 6 0 (s66_4 true x0) (e66 J m w66_8 []))
  else
  (bif ((Dt.I x0 0) !=5) then
  (jj J 0 6 0 (s66_4 (decide (0<(List.length (Dt.L x0 4):Int))) x0) (e66 J m w66_8 []))
  else
  (jj J 0 6 0 (s66_4 false x0) (e66 J m w66_8 []))))
   else
  (bif ((Dt.I x0 0) !=5) then
  (jj J 0 6 0 (s66_4 (decide (0<(List.length (Dt.L x0 4):Int))) x0) (e66 J m w66_8 []))
  else
  (jj J 0 6 0 (s66_4 false x0) (e66 J m w66_8 []))))) (fun J=>by kernel_rfl) (by simp only[jj_eq,value_sound_j4_eq m];rfl)
theorem value_sound_j2_eq m x0 x1:e66 jn m w66_9 [] (s66_2 x0 x1)=value_sound_j2 m (value_sound m) (value_soundFields m) x0 x1:=
 tre (g:=fun J=>(bif x0 then
  some false
   else
  (jj J 0 5 0 (s66_5 x1) (e66 J m [1,1,1,1] [])))) (fun J=>by kernel_rfl) (by simp only[jj_eq,value_sound_j3_eq m];rfl)
theorem value_sound_j1_eq m x0 x1 x2:e66 jn m [1,1,1] [] (s66_1 x0 x1 x2)=value_sound_j1 m (value_sound m) (value_soundFields m) x0 x1 x2:=
 tre (g:=fun J=>(bif (Bool.not x0) then
  (bif ((Dt.I x2 1) !=0) then
  (jj J 0 4 0 (s66_2 true x2) (e66 J m w66_9 []))
  else
  (bif (Bool.not x1) then
  (jj J 0 4 0 (s66_2 (Bool.not ((ByteArray.toList (Dt.S x2 2))==[])) x2) (e66 J m w66_9 []))
  else
  (jj J 0 4 0 (s66_2 false x2) (e66 J m w66_9 []))))
   else
  (bif (Bool.not x1) then
  (jj J 0 4 0 (s66_2 (Bool.not ((ByteArray.toList (Dt.S x2 2))==[])) x2) (e66 J m w66_9 []))
  else
  (jj J 0 4 0 (s66_2 false x2) (e66 J m w66_9 []))))) (fun J=>by kernel_rfl) (by simp only[jj_eq,value_sound_j2_eq m];rfl)
theorem value_sound_j0_eq m x0 x1:e66 jn m [1,1] [] (s66_0 x0 x1)=value_sound_j0 m (value_sound m) (value_soundFields m) x0 x1:=
 tre (g:=fun J=>(bif ((Dt.I x1 0)==4) then
  (jj J 0 3 0 (s66_1 x0 true x1) (e66 J m [1,1,1] []))
   else
  (bif ((Dt.I x1 0)==7) then
  (jj J 0 3 0 (s66_1 x0 true x1) (e66 J m [1,1,1] []))
  else
  (jj J 0 3 0 (s66_1 x0 ((Dt.I x1 0)==8) x1) (e66 J m [1,1,1] []))))) (fun J=>by kernel_rfl) (by simp only[jj_eq,value_sound_j1_eq m];rfl)
theorem value_sound_eq m a0:e66 jn m [] [] ⟨[(.dat 25 a0)],[],0⟩=value_sound (m+1) a0:=
 tre (g:=fun J=>(bif ((Dt.I a0 0)==3) then
  (jj J 0 2 0 (s66_0 true a0) (e66 J m [1,1] []))
   else
  (bif ((Dt.I a0 0)==9) then
  (jj J 0 2 0 (s66_0 true a0) (e66 J m [1,1] []))
  else
  (jj J 0 2 0 (s66_0 ((Dt.I a0 0)==10) a0) (e66 J m [1,1] []))))) (fun J=>by kernel_rfl) (by simp only[jj_eq,value_sound_j0_eq m];rfl)
def w73_0:List Nat:=[1,1,0,1,0]
def w73_4:List Nat:=[1,1,0,1,0,0,1,1]
def w73_1:List Nat:=w73_4++[1]
def w73_2:List Nat:=w73_4++[0,0,1,1]
def w73_3:List Nat:=w73_4++[0,0,1,0,1]
noncomputable def e73 (J:Nat→Nat→Nat→St→Option Bool→Option Bool) (m:Nat) (p ms:List Nat) (σ:St):=evAt Tryz.prog env (ct m) J (m+1) 98 33 Tryz.f98 d13 p ms σ
noncomputable def l73 (J:Nat→Nat→Nat→St→Option Bool→Option Bool) (m:Nat) (p ms:List Nat) (M:Nat) (σ:St):=loopAt Tryz.prog env (ct m) J (m+1) 98 33 Tryz.f98 d13 p ms M σ
noncomputable def s73_5 (x0:List Dt) (x1 x2:Int) (x3:List Dt):St:=⟨tsOf [(3,(.row 0)),(7,(.dat 23 (.lst x0))),(8,(.dat 3 (.int x1))),(9,(.dat 3 (.int x2)))],[(.map 93 x3)],0⟩
noncomputable def s73_4 (x0:List Dt) (x1 x2:Int) (x3:List Dt) (x4:Dt):St:=⟨tsOf [(3,(.row 0)),(5,(.ptr 1 [] 0)),(7,(.dat 23 (.lst x0))),(8,(.dat 3 (.int x1))),(9,(.dat 3 (.int x2)))],[(.map 93 x3),(.box 53 (.dat 53 x4))],0⟩
noncomputable def s73_3 (x0:List Dt) (x1 x2:Int) (x3:Bool) (x4:List Dt) (x5:Dt):St:=⟨tsOf [(3,(.row 0)),(5,(.ptr 1 [] 0)),(7,(.dat 23 (.lst x0))),(8,(.dat 3 (.int x1))),(9,(.dat 3 (.int x2))),(28,(.dat 4 (.bool x3)))],[(.map 93 x4),(.box 53 (.dat 53 x5))],0⟩
noncomputable def s73_6:St:=⟨tsOf [],[],0⟩
abbrev H73_1 (m M1:Nat) (rec1:List Dt→Int→Int→List Dt→Option Bool):Prop:=∀x0 x1 x2 x3,l73 jn m w73_0 [] M1 (s73_5 x0 x1 x2 x3)=rec1 x0 x1 x2 x3
theorem value_soundFields_j5_eq m M1 rec1 (h1:H73_1 m M1 rec1) x0 x1 x2 x3:e73 jn m w73_1 [M1] (s73_5 x0 x1 x2 x3)=value_soundFields_j5 m (value_sound m) rec1 x0 x1 x2 x3:=
 tre (g:=fun J=>(jj J 1 3 M1 (s73_5 x0 x1 (IntKind.wrap .i64 (x2+1)) x3) (l73 J m w73_0 [] M1))) (fun J=>by kernel_rfl) (by simp only[jj_eq,h1];rfl)
theorem value_soundFields_j4_eq m M1 rec1 (h1:H73_1 m M1 rec1) x0 x1 x2 x3 x4:e73 jn m w73_2 [M1] (s73_4 x0 x1 x2 x3 x4)=value_soundFields_j4 m (value_sound m) rec1 x0 x1 x2 x3 x4:=
 tre (g:=fun J=>(jj J 0 8 0 (s73_5 x0 x1 x2 (mput x3 (Dt.S x4 0) (Dt.bool true))) (e73 J m w73_1 [M1]))) (fun J=>by kernel_rfl) (by simp only[jj_eq,value_soundFields_j5_eq m M1 rec1 h1];rfl)
theorem value_soundFields_j3_eq m M1 rec1 (h1:H73_1 m M1 rec1) x0 x1 x2 x3 x4 x5:e73 jn m w73_3 [M1] (s73_3 x0 x1 x2 x3 x4 x5)=value_soundFields_j3 m (value_sound m) rec1 x0 x1 x2 x3 x4 x5:=
 tre (g:=fun J=>(bif x3 then
  some false
   else
  (jj J 0 7 0 (s73_4 x0 x1 x2 x4 x5) (e73 J m w73_2 [M1])))) (fun J=>by kernel_rfl) (by simp only[jj_eq,value_soundFields_j4_eq m M1 rec1 h1];rfl)
theorem value_soundFields_j2_eq m M1 rec1 (h1:H73_1 m M1 rec1) x0 x1 x2 x3:e73 jn m w73_4 [M1] (s73_5 x0 x1 x2 x3)=value_soundFields_j2 m (value_sound m) rec1 x0 x1 x2 x3:=
 tre (g:=fun J=>((idx x0 x2).bind fun v0=>
  ((value_isName m (Dt.S v0 0)).bind fun r1=>
  (bif (Bool.not r1) then
  (jj J 0 6 0 (s73_3 x0 x1 x2 true x3 v0) (e73 J m w73_3 [M1]))
  else
  (bif (Dt.toBool (mgetD x3 (Dt.S v0 0) (Dt.bool false))) then
  (jj J 0 6 0 (s73_3 x0 x1 x2 true x3 v0) (e73 J m w73_3 [M1]))
  else
  ((value_sound m (Dt.fld v0 1)).bind fun r2=>
  (jj J 0 6 0 (s73_3 x0 x1 x2 (Bool.not r2) x3 v0) (e73 J m w73_3 [M1])))))))) (fun J=>by kernel_rfl) (by simp only[jj_eq,value_soundFields_j3_eq m M1 rec1 h1];rfl)
theorem value_soundFields_j6_eq m:e73 jn m [1,1,1] [] s73_6=value_soundFields_j6 m (value_sound m):=
 tre (g:=fun J=>some true) (fun J=>by kernel_rfl) (by rfl)
theorem value_soundFields_l1_eq m:∀M1 x0 x1 x2 x3,l73 jn m w73_0 [] M1 (s73_5 x0 x1 x2 x3)=value_soundFields_l1 m (value_sound m) M1 x0 x1 x2 x3
 |0,_,_,_,_=>rfl
 | M1+1,x0,x1,x2,x3=>
   trl (g:=fun J=>(bif (decide (x2<x1)) then
  (jj J 0 4 0 (s73_5 x0 x1 x2 x3) (e73 J m w73_4 [M1]))
   else
  (jj J 0 9 0 s73_6 (e73 J m [1,1,1] [])))) (fun J=>by kernel_rfl) (by simp only[jj_eq,value_soundFields_j2_eq m M1 (value_soundFields_l1 m (value_sound m) M1) (value_soundFields_l1_eq m M1),value_soundFields_j6_eq m];rfl)
theorem value_soundFields_j0_eq m x0 x1 x2 x3:e73 jn m [1,1,0,1] [] (s73_5 x0 x1 x2 x3)=value_soundFields_j0 m (value_sound m) x0 x1 x2 x3:=
 tre (g:=fun J=>(jj J 1 3 (Nat.succ m) (s73_5 x0 x1 x2 x3) (l73 J m w73_0 [] (Nat.succ m)))) (fun J=>by kernel_rfl) (by simp only[jj_eq,value_soundFields_l1_eq m];rfl)
theorem value_soundFields_eq m a0:e73 jn m [] [] ⟨[(.dat 23 (.lst a0))],[],0⟩=value_soundFields (m+1) a0:=
 tre (g:=fun J=>(jj J 0 3 0 (s73_5 a0 (List.length a0:Int) 0 []) (e73 J m [1,1,0,1] []))) (fun J=>by kernel_rfl) (by simp only[jj_eq,value_soundFields_j0_eq m];rfl)
noncomputable def e56 (J:Nat→Nat→Nat→St→Option Bool→Option Bool) (m:Nat) (p ms:List Nat) (σ:St):=evAt Tryz.prog env (ct m) J (m+1) 36 15 Tryz.f36 d13 p ms σ
noncomputable def l56 (J:Nat→Nat→Nat→St→Option Bool→Option Bool) (m:Nat) (p ms:List Nat) (M:Nat) (σ:St):=loopAt Tryz.prog env (ct m) J (m+1) 36 15 Tryz.f36 d13 p ms M σ
theorem value_Valid_eq m a0:e56 jn m [] [] ⟨[(.dat 25 a0)],[],0⟩=value_Valid (m+1) a0:=
 tre (g:=fun J=>((value_Nodes m a0).bind fun r0=>
  (bif (decide (r0≤1024)) then
  ((value_Depth m a0).bind fun r1=>
  (bif (decide (r1≤16)) then
  ((value_sound m a0).bind fun r2=>
  some r2)
  else
  some false))
  else
  some false))) (fun J=>by kernel_rfl) (by rfl)
noncomputable def e55 (J:Nat→Nat→Nat→St→Option Bool→Option Bool) (m:Nat) (p ms:List Nat) (σ:St):=evAt Tryz.prog env (ct m) J (m+1) 93 33 Tryz.f93 d13 p ms σ
noncomputable def l55 (J:Nat→Nat→Nat→St→Option Bool→Option Bool) (m:Nat) (p ms:List Nat) (M:Nat) (σ:St):=loopAt Tryz.prog env (ct m) J (m+1) 93 33 Tryz.f93 d13 p ms M σ
noncomputable def s55_0 (x0:Dt):St:=⟨tsOf [(3,(.ptr 0 [] 0))],[(.box 25 (.dat 25 x0))],0⟩
theorem schema_bound_j0_eq m x0:e55 jn m [1,1] [] (s55_0 x0)=schema_bound_j0 m x0:=
 tre (g:=fun J=>(bif ((Dt.I x0 0)==0) then
  (bif ((Dt.I x0 1)==0) then
  (bif ((ByteArray.toList (Dt.S x0 2))==[]) then
  (bif ((List.length (Dt.L x0 3):Int)==0) then
  some ((List.length (Dt.L x0 4):Int)==0)
  else
  some false)
  else
  some false)
  else
  some false)
   else
  some false)) (fun J=>by kernel_rfl) (by rfl)
theorem schema_bound_eq m a0 a1:e55 jn m [] [] ⟨[(.dat 4 (.bool a0)),(.dat 25 a1)],[],0⟩=schema_bound (m+1) a0 a1:=
 tre (g:=fun J=>(bif a0 then
  ((value_Valid m a1).bind fun r0=>
  some r0)
   else
  (jj J 0 3 0 (s55_0 a1) (e55 J m [1,1] [])))) (fun J=>by kernel_rfl) (by simp only[jj_eq,schema_bound_j0_eq m];rfl)
def w33_0:List Nat:=[1,1,0,1,0]
def w33_19:List Nat:=[1,1,1,1,1]
def w33_17:List Nat:=[1,1,1,1,1,1]
def w33_20:List Nat:=[1,1,1,1,0,1]
def w33_5:List Nat:=w33_20++[0]
def w33_15:List Nat:=w33_17++[1]
def w33_18:List Nat:=[1,1,1,1,1,0,1]
def w33_4:List Nat:=[1,1,0,1,0,0,1,1]
def w33_13:List Nat:=w33_15++[1]
def w33_16:List Nat:=w33_17++[0,1]
def w33_1:List Nat:=w33_4++[1]
def w33_14:List Nat:=w33_15++[0,1]
def w33_9:List Nat:=w33_5++[0,1,1]
def w33_10:List Nat:=w33_14++[0]
def w33_6:List Nat:=w33_9++[1]
def w33_2:List Nat:=w33_4++[0,0,1,1]
def w33_3:List Nat:=w33_4++[0,0,1,0,1]
def w33_12:List Nat:=w33_10++[0,1,1]
def w33_7:List Nat:=w33_9++[0,0,1,1]
def w33_11:List Nat:=w33_12++[1]
def w33_8:List Nat:=w33_9++[0,0,1,0,1]
noncomputable def e33 (J:Nat→Nat→Nat→St→Option Int→Option Int) (m:Nat) (p ms:List Nat) (σ:St):=evAt Tryz.prog env (ct m) J (m+1) 61 97 Tryz.f61 d33 p ms σ
noncomputable def l33 (J:Nat→Nat→Nat→St→Option Int→Option Int) (m:Nat) (p ms:List Nat) (M:Nat) (σ:St):=loopAt Tryz.prog env (ct m) J (m+1) 61 97 Tryz.f61 d33 p ms M σ
noncomputable def s33_5 (x0:List Dt) (x1 x2:Int) (x3:Dt) (x4:List Dt):St:=⟨tsOf [(1,(.ptr 0 [] 0)),(3,(.row 1)),(13,(.dat 28 (.lst x0))),(14,(.dat 3 (.int x1))),(15,(.dat 3 (.int x2)))],[(.box 32 (.dat 32 x3)),(.map 93 x4)],0⟩
noncomputable def s33_4 (x0:ByteArray) (x1:List Dt) (x2 x3:Int) (x4:Dt) (x5:List Dt):St:=⟨tsOf [(1,(.ptr 0 [] 0)),(3,(.row 1)),(5,(.dat 9 (.str x0))),(13,(.dat 28 (.lst x1))),(14,(.dat 3 (.int x2))),(15,(.dat 3 (.int x3)))],[(.box 32 (.dat 32 x4)),(.map 93 x5)],0⟩
noncomputable def s33_3 (x0:ByteArray) (x1:List Dt) (x2 x3:Int) (x4:Bool) (x5:Dt) (x6:List Dt):St:=⟨tsOf [(1,(.ptr 0 [] 0)),(3,(.row 1)),(5,(.dat 9 (.str x0))),(13,(.dat 28 (.lst x1))),(14,(.dat 3 (.int x2))),(15,(.dat 3 (.int x3))),(26,(.dat 4 (.bool x4)))],[(.box 32 (.dat 32 x5)),(.map 93 x6)],0⟩
noncomputable def s33_12 (x0:List Dt) (x1 x2:Int) (x3:Dt) (x4:List Dt):St:=⟨tsOf [(1,(.ptr 0 [] 0)),(6,(.row 1)),(32,(.dat 29 (.lst x0))),(33,(.dat 3 (.int x1))),(34,(.dat 3 (.int x2)))],[(.box 32 (.dat 32 x3)),(.map 93 x4)],0⟩
noncomputable def s33_11 (x0:List Dt) (x1 x2:Int) (x3:Dt) (x4:List Dt) (x5:Dt):St:=⟨tsOf [(1,(.ptr 0 [] 0)),(6,(.row 1)),(8,(.ptr 2 [] 0)),(32,(.dat 29 (.lst x0))),(33,(.dat 3 (.int x1))),(34,(.dat 3 (.int x2)))],[(.box 32 (.dat 32 x3)),(.map 93 x4),(.box 64 (.dat 64 x5))],0⟩
noncomputable def s33_10 (x0:List Dt) (x1 x2:Int) (x3:Bool) (x4:Dt) (x5:List Dt) (x6:Dt):St:=⟨tsOf [(1,(.ptr 0 [] 0)),(6,(.row 1)),(8,(.ptr 2 [] 0)),(32,(.dat 29 (.lst x0))),(33,(.dat 3 (.int x1))),(34,(.dat 3 (.int x2))),(47,(.dat 4 (.bool x3)))],[(.box 32 (.dat 32 x4)),(.map 93 x5),(.box 64 (.dat 64 x6))],0⟩
noncomputable def s33_21 (x0:List Dt) (x1 x2:Int):St:=⟨tsOf [(87,(.dat 22 (.lst x0))),(88,(.dat 3 (.int x1))),(89,(.dat 3 (.int x2)))],[],0⟩
noncomputable def s33_22:St:=⟨tsOf [],[],0⟩
noncomputable def s33_17 (x0:Dt):St:=⟨tsOf [(1,(.ptr 0 [] 0))],[(.box 32 (.dat 32 x0))],0⟩
noncomputable def s33_16 (x0:Bool) (x1:Dt):St:=⟨tsOf [(1,(.ptr 0 [] 0)),(85,(.dat 4 (.bool x0)))],[(.box 32 (.dat 32 x1))],0⟩
noncomputable def s33_14 (x0:Bool) (x1:Dt):St:=⟨tsOf [(1,(.ptr 0 [] 0)),(71,(.dat 4 (.bool x0)))],[(.box 32 (.dat 32 x1))],0⟩
abbrev H33_1 (m M1:Nat) (rec1:List Dt→Int→Int→Dt→List Dt→Option Int):Prop:=∀x0 x1 x2 x3 x4,l33 jn m w33_0 [] M1 (s33_5 x0 x1 x2 x3 x4)=rec1 x0 x1 x2 x3 x4
theorem schema_checkOne_j5_eq m M1 rec1 (h1:H33_1 m M1 rec1) x0 x1 x2 x3 x4:e33 jn m w33_1 [M1] (s33_5 x0 x1 x2 x3 x4)=schema_checkOne_j5 m rec1 x0 x1 x2 x3 x4:=
 tre (g:=fun J=>(jj J 1 3 M1 (s33_5 x0 x1 (IntKind.wrap .i64 (x2+1)) x3 x4) (l33 J m w33_0 [] M1))) (fun J=>by kernel_rfl) (by simp only[jj_eq,h1];rfl)
theorem schema_checkOne_j4_eq m M1 rec1 (h1:H33_1 m M1 rec1) x0 x1 x2 x3 x4 x5:e33 jn m w33_2 [M1] (s33_4 x0 x1 x2 x3 x4 x5)=schema_checkOne_j4 m rec1 x0 x1 x2 x3 x4 x5:=
 tre (g:=fun J=>(jj J 0 8 0 (s33_5 x1 x2 x3 x4 (mput x5 x0 (Dt.bool true))) (e33 J m w33_1 [M1]))) (fun J=>by kernel_rfl) (by simp only[jj_eq,schema_checkOne_j5_eq m M1 rec1 h1];rfl)
theorem schema_checkOne_j3_eq m M1 rec1 (h1:H33_1 m M1 rec1) x0 x1 x2 x3 x4 x5 x6:e33 jn m w33_3 [M1] (s33_3 x0 x1 x2 x3 x4 x5 x6)=schema_checkOne_j3 m rec1 x0 x1 x2 x3 x4 x5 x6:=
 tre (g:=fun J=>(bif x4 then
  some 9
   else
  (jj J 0 7 0 (s33_4 x0 x1 x2 x3 x5 x6) (e33 J m w33_2 [M1])))) (fun J=>by kernel_rfl) (by simp only[jj_eq,schema_checkOne_j4_eq m M1 rec1 h1];rfl)
theorem schema_checkOne_j2_eq m M1 rec1 (h1:H33_1 m M1 rec1) x0 x1 x2 x3 x4:e33 jn m w33_4 [M1] (s33_5 x0 x1 x2 x3 x4)=schema_checkOne_j2 m rec1 x0 x1 x2 x3 x4:=
 tre (g:=fun J=>((idx x0 x2).bind fun v0=>
  ((schema_isName m (Dt.toStr v0)).bind fun r1=>
  (bif (Bool.not r1) then
  (jj J 0 6 0 (s33_3 (Dt.toStr v0) x0 x1 x2 true x3 x4) (e33 J m w33_3 [M1]))
  else
  (jj J 0 6 0 (s33_3 (Dt.toStr v0) x0 x1 x2 (Dt.toBool (mgetD x4 (Dt.toStr v0) (Dt.bool false))) x3 x4) (e33 J m w33_3 [M1])))))) (fun J=>by kernel_rfl) (by simp only[jj_eq,schema_checkOne_j3_eq m M1 rec1 h1];rfl)
abbrev H33_8 (m M8:Nat) (rec8:List Dt→Int→Int→Dt→List Dt→Option Int):Prop:=∀x0 x1 x2 x3 x4,l33 jn m w33_5 [] M8 (s33_12 x0 x1 x2 x3 x4)=rec8 x0 x1 x2 x3 x4
theorem schema_checkOne_j12_eq m M8 rec8 (h8:H33_8 m M8 rec8) x0 x1 x2 x3 x4:e33 jn m w33_6 [M8] (s33_12 x0 x1 x2 x3 x4)=schema_checkOne_j12 m rec8 x0 x1 x2 x3 x4:=
 tre (g:=fun J=>(jj J 1 11 M8 (s33_12 x0 x1 (IntKind.wrap .i64 (x2+1)) x3 x4) (l33 J m w33_5 [] M8))) (fun J=>by kernel_rfl) (by simp only[jj_eq,h8];rfl)
theorem schema_checkOne_j11_eq m M8 rec8 (h8:H33_8 m M8 rec8) x0 x1 x2 x3 x4 x5:e33 jn m w33_7 [M8] (s33_11 x0 x1 x2 x3 x4 x5)=schema_checkOne_j11 m rec8 x0 x1 x2 x3 x4 x5:=
 tre (g:=fun J=>(jj J 0 16 0 (s33_12 x0 x1 x2 x3 (mput x4 (Dt.S x5 0) (Dt.bool true))) (e33 J m w33_6 [M8]))) (fun J=>by kernel_rfl) (by simp only[jj_eq,schema_checkOne_j12_eq m M8 rec8 h8];rfl)
theorem schema_checkOne_j10_eq m M8 rec8 (h8:H33_8 m M8 rec8) x0 x1 x2 x3 x4 x5 x6:e33 jn m w33_8 [M8] (s33_10 x0 x1 x2 x3 x4 x5 x6)=schema_checkOne_j10 m rec8 x0 x1 x2 x3 x4 x5 x6:=
 tre (g:=fun J=>(bif x3 then
  some 9
   else
  (jj J 0 15 0 (s33_11 x0 x1 x2 x4 x5 x6) (e33 J m w33_7 [M8])))) (fun J=>by kernel_rfl) (by simp only[jj_eq,schema_checkOne_j11_eq m M8 rec8 h8];rfl)
theorem schema_checkOne_j9_eq m M8 rec8 (h8:H33_8 m M8 rec8) x0 x1 x2 x3 x4:e33 jn m w33_9 [M8] (s33_12 x0 x1 x2 x3 x4)=schema_checkOne_j9 m rec8 x0 x1 x2 x3 x4:=
 tre (g:=fun J=>((idx x0 x2).bind fun v2=>
  ((schema_isName m (Dt.S v2 0)).bind fun r3=>
  (bif (Bool.not r3) then
  (jj J 0 14 0 (s33_10 x0 x1 x2 true x3 x4 v2) (e33 J m w33_8 [M8]))
  else
  (jj J 0 14 0 (s33_10 x0 x1 x2 (Dt.toBool (mgetD x4 (Dt.S v2 0) (Dt.bool false))) x3 x4 v2) (e33 J m w33_8 [M8])))))) (fun J=>by kernel_rfl) (by simp only[jj_eq,schema_checkOne_j10_eq m M8 rec8 h8];rfl)
abbrev H33_19 (m M19:Nat) (rec19:List Dt→Int→Int→Option Int):Prop:=∀x0 x1 x2,l33 jn m w33_10 [] M19 (s33_21 x0 x1 x2)=rec19 x0 x1 x2
theorem schema_checkOne_j21_eq m M19 rec19 (h19:H33_19 m M19 rec19) x0 x1 x2:e33 jn m w33_11 [M19] (s33_21 x0 x1 x2)=schema_checkOne_j21 m rec19 x0 x1 x2:=
 tre (g:=fun J=>(jj J 1 22 M19 (s33_21 x0 x1 (IntKind.wrap .i64 (x2+1))) (l33 J m w33_10 [] M19))) (fun J=>by kernel_rfl) (by simp only[jj_eq,h19];rfl)
theorem schema_checkOne_j20_eq m M19 rec19 (h19:H33_19 m M19 rec19) x0 x1 x2:e33 jn m w33_12 [M19] (s33_21 x0 x1 x2)=schema_checkOne_j20 m rec19 x0 x1 x2:=
 tre (g:=fun J=>((idx x0 x2).bind fun v5=>
  ((value_Valid m v5).bind fun r6=>
  (bif (Bool.not r6) then
  some 8
  else
  (jj J 0 26 0 (s33_21 x0 x1 x2) (e33 J m w33_11 [M19])))))) (fun J=>by kernel_rfl) (by simp only[jj_eq,schema_checkOne_j21_eq m M19 rec19 h19];rfl)
theorem schema_checkOne_j22_eq m:e33 jn m w33_13 [] s33_22=schema_checkOne_j22 m:=
 tre (g:=fun J=>some 0) (fun J=>by kernel_rfl) (by rfl)
theorem schema_checkOne_l19_eq m:∀M19 x0 x1 x2,l33 jn m w33_10 [] M19 (s33_21 x0 x1 x2)=schema_checkOne_l19 m M19 x0 x1 x2
 |0,_,_,_=>rfl
 | M19+1,x0,x1,x2=>
   trl (g:=fun J=>(bif (decide (x2<x1)) then
  (jj J 0 23 0 (s33_21 x0 x1 x2) (e33 J m w33_12 [M19]))
   else
  (jj J 0 27 0 s33_22 (e33 J m w33_13 [])))) (fun J=>by kernel_rfl) (by simp only[jj_eq,schema_checkOne_j20_eq m M19 (schema_checkOne_l19 m M19) (schema_checkOne_l19_eq m M19),schema_checkOne_j22_eq m];rfl)
theorem schema_checkOne_j18_eq m x0 x1 x2:e33 jn m w33_14 [] (s33_21 x0 x1 x2)=schema_checkOne_j18 m x0 x1 x2:=
 tre (g:=fun J=>(jj J 1 22 (Nat.succ m) (s33_21 x0 x1 x2) (l33 J m w33_10 [] (Nat.succ m)))) (fun J=>by kernel_rfl) (by simp only[jj_eq,schema_checkOne_l19_eq m];rfl)
theorem schema_checkOne_j17_eq m x0:e33 jn m w33_15 [] (s33_17 x0)=schema_checkOne_j17 m x0:=
 tre (g:=fun J=>(jj J 0 22 0 (s33_21 (Dt.L x0 5) (List.length (Dt.L x0 5):Int) 0) (e33 J m w33_14 []))) (fun J=>by kernel_rfl) (by simp only[jj_eq,schema_checkOne_j18_eq m];rfl)
theorem schema_checkOne_j16_eq m x0 x1:e33 jn m w33_16 [] (s33_16 x0 x1)=schema_checkOne_j16 m x0 x1:=
 tre (g:=fun J=>(bif x0 then
  some 8
   else
  (jj J 0 21 0 (s33_17 x1) (e33 J m w33_15 [])))) (fun J=>by kernel_rfl) (by simp only[jj_eq,schema_checkOne_j17_eq m];rfl)
theorem schema_checkOne_j15_eq m x0:e33 jn m w33_17 [] (s33_17 x0)=schema_checkOne_j15 m x0:=
 tre (g:=fun J=>((schema_bound m (Dt.B x0 1) (Dt.fld x0 2)).bind fun r4=>
  (bif (Bool.not r4) then
  (jj J 0 20 0 (s33_16 true x0) (e33 J m w33_16 []))
  else
  ((schema_bound m (Dt.B x0 3) (Dt.fld x0 4)).bind fun r7=>
  (jj J 0 20 0 (s33_16 (Bool.not r7) x0) (e33 J m w33_16 [])))))) (fun J=>by kernel_rfl) (by simp only[jj_eq,schema_checkOne_j16_eq m];rfl)
theorem schema_checkOne_j14_eq m x0 x1:e33 jn m w33_18 [] (s33_14 x0 x1)=schema_checkOne_j14 m x0 x1:=
 tre (g:=fun J=>(bif x0 then
  some 1
   else
  (jj J 0 19 0 (s33_17 x1) (e33 J m w33_17 [])))) (fun J=>by kernel_rfl) (by simp only[jj_eq,schema_checkOne_j15_eq m];rfl)
theorem schema_checkOne_j13_eq m x0:e33 jn m w33_19 [] (s33_17 x0)=schema_checkOne_j13 m x0:=
 tre (g:=fun J=>(bif ((bicI IntKind.i64 (Dt.I x0 0) 4094) !=0) then
  (jj J 0 18 0 (s33_14 true x0) (e33 J m w33_18 []))
   else
  (bif (decide ((Dt.I x0 6)<0)) then
  (jj J 0 18 0 (s33_14 true x0) (e33 J m w33_18 []))
  else
  (bif (decide ((Dt.I x0 7)<(-1))) then
  (jj J 0 18 0 (s33_14 true x0) (e33 J m w33_18 []))
  else
  (jj J 0 18 0 (s33_14 (decide (1<(List.length (Dt.L x0 11):Int))) x0) (e33 J m w33_18 [])))))) (fun J=>by kernel_rfl) (by simp only[jj_eq,schema_checkOne_j14_eq m];rfl)
theorem schema_checkOne_l8_eq m:∀M8 x0 x1 x2 x3 x4,l33 jn m w33_5 [] M8 (s33_12 x0 x1 x2 x3 x4)=schema_checkOne_l8 m M8 x0 x1 x2 x3 x4
 |0,_,_,_,_,_=>rfl
 | M8+1,x0,x1,x2,x3,x4=>
   trl (g:=fun J=>(bif (decide (x2<x1)) then
  (jj J 0 12 0 (s33_12 x0 x1 x2 x3 x4) (e33 J m w33_9 [M8]))
   else
  (jj J 0 17 0 (s33_17 x3) (e33 J m w33_19 [])))) (fun J=>by kernel_rfl) (by simp only[jj_eq,schema_checkOne_j9_eq m M8 (schema_checkOne_l8 m M8) (schema_checkOne_l8_eq m M8),schema_checkOne_j13_eq m];rfl)
theorem schema_checkOne_j7_eq m x0 x1 x2 x3 x4:e33 jn m w33_20 [] (s33_12 x0 x1 x2 x3 x4)=schema_checkOne_j7 m x0 x1 x2 x3 x4:=
 tre (g:=fun J=>(jj J 1 11 (Nat.succ m) (s33_12 x0 x1 x2 x3 x4) (l33 J m w33_5 [] (Nat.succ m)))) (fun J=>by kernel_rfl) (by simp only[jj_eq,schema_checkOne_l8_eq m];rfl)
theorem schema_checkOne_j6_eq m x0:e33 jn m [1,1,1] [] (s33_17 x0)=schema_checkOne_j6 m x0:=
 tre (g:=fun J=>(jj J 0 11 0 (s33_12 (Dt.L x0 9) (List.length (Dt.L x0 9):Int) 0 x0 []) (e33 J m w33_20 []))) (fun J=>by kernel_rfl) (by simp only[jj_eq,schema_checkOne_j7_eq m];rfl)
theorem schema_checkOne_l1_eq m:∀M1 x0 x1 x2 x3 x4,l33 jn m w33_0 [] M1 (s33_5 x0 x1 x2 x3 x4)=schema_checkOne_l1 m M1 x0 x1 x2 x3 x4
 |0,_,_,_,_,_=>rfl
 | M1+1,x0,x1,x2,x3,x4=>
   trl (g:=fun J=>(bif (decide (x2<x1)) then
  (jj J 0 4 0 (s33_5 x0 x1 x2 x3 x4) (e33 J m w33_4 [M1]))
   else
  (jj J 0 9 0 (s33_17 x3) (e33 J m [1,1,1] [])))) (fun J=>by kernel_rfl) (by simp only[jj_eq,schema_checkOne_j2_eq m M1 (schema_checkOne_l1 m M1) (schema_checkOne_l1_eq m M1),schema_checkOne_j6_eq m];rfl)
theorem schema_checkOne_j0_eq m x0 x1 x2 x3 x4:e33 jn m [1,1,0,1] [] (s33_5 x0 x1 x2 x3 x4)=schema_checkOne_j0 m x0 x1 x2 x3 x4:=
 tre (g:=fun J=>(jj J 1 3 (Nat.succ m) (s33_5 x0 x1 x2 x3 x4) (l33 J m w33_0 [] (Nat.succ m)))) (fun J=>by kernel_rfl) (by simp only[jj_eq,schema_checkOne_l1_eq m];rfl)
theorem schema_checkOne_eq m a0:e33 jn m [] [] ⟨[(.dat 32 a0)],[],0⟩=schema_checkOne (m+1) a0:=
 tre (g:=fun J=>(jj J 0 3 0 (s33_5 (Dt.L a0 8) (List.length (Dt.L a0 8):Int) 0 a0 []) (e33 J m [1,1,0,1] []))) (fun J=>by kernel_rfl) (by simp only[jj_eq,schema_checkOne_j0_eq m];rfl)
def w32_8:List Nat:=[1,1,1,1,1]
def w32_6:List Nat:=[1,1,1,1,1,1]
def w32_9:List Nat:=[1,1,1,1,0,1]
def w32_0:List Nat:=w32_9++[0]
def w32_7:List Nat:=[1,1,1,1,1,0,1]
def w32_3:List Nat:=w32_7++[0]
def w32_2:List Nat:=w32_0++[0,1,1]
def w32_1:List Nat:=w32_2++[1]
def w32_5:List Nat:=w32_3++[0,1,1]
def w32_4:List Nat:=w32_5++[1]
noncomputable def e32 (J:Nat→Nat→Nat→St→Option (Int×Int)→Option (Int×Int)) (m:Nat) (p ms:List Nat) (σ:St):=evAt Tryz.prog env (ct m) J (m+1) 32 65 Tryz.f32 d32 p ms σ
noncomputable def l32 (J:Nat→Nat→Nat→St→Option (Int×Int)→Option (Int×Int)) (m:Nat) (p ms:List Nat) (M:Nat) (σ:St):=loopAt Tryz.prog env (ct m) J (m+1) 32 65 Tryz.f32 d32 p ms M σ
noncomputable def s32_6 (x0:Int) (x1:List Dt) (x2 x3 x4:Int) (x5:Dt):St:=⟨tsOf [(1,(.dat 3 (.int x0))),(2,(.ptr 0 [] 0)),(3,(.ptr 1 [] 0)),(33,(.dat 29 (.lst x1))),(34,(.dat 3 (.int x2))),(35,(.dat 3 (.int x3)))],[(.box 3 (.dat 3 (.int x4))),(.box 32 (.dat 32 x5))],1⟩
noncomputable def s32_11 (x0:Int) (x1:List Dt) (x2 x3 x4:Int):St:=⟨tsOf [(1,(.dat 3 (.int x0))),(2,(.ptr 0 [] 0)),(50,(.dat 30 (.lst x1))),(51,(.dat 3 (.int x2))),(52,(.dat 3 (.int x3)))],[(.box 3 (.dat 3 (.int x4)))],1⟩
noncomputable def s32_12 (x0:Int):St:=⟨tsOf [],[(.box 3 (.dat 3 (.int x0)))],1⟩
noncomputable def s32_7 (x0 x1:Int) (x2:Dt):St:=⟨tsOf [(1,(.dat 3 (.int x0))),(2,(.ptr 0 [] 0)),(3,(.ptr 1 [] 0))],[(.box 3 (.dat 3 (.int x1))),(.box 32 (.dat 32 x2))],1⟩
noncomputable def s32_0 (x0:Int) (x1:Bool) (x2:Int) (x3:Dt):St:=⟨tsOf [(1,(.dat 3 (.int x0))),(2,(.ptr 0 [] 0)),(3,(.ptr 1 [] 0)),(21,(.dat 4 (.bool x1)))],[(.box 3 (.dat 3 (.int x2))),(.box 32 (.dat 32 x3))],1⟩
abbrev H32_4 (m M4:Nat) (rec4:Int→List Dt→Int→Int→Int→Dt→Option (Int×Int)):Prop:=∀x0 x1 x2 x3 x4 x5,l32 jn m w32_0 [] M4 (s32_6 x0 x1 x2 x3 x4 x5)=rec4 x0 x1 x2 x3 x4 x5
theorem i32_j6_eq m M4 rec4 (h4:H32_4 m M4 rec4) x0 x1 x2 x3 x4 x5:e32 jn m w32_1 [M4] (s32_6 x0 x1 x2 x3 x4 x5)=i32_j6 m (i32 m) rec4 x0 x1 x2 x3 x4 x5:=
 tre (g:=fun J=>(jj J 1 8 M4 (s32_6 x0 x1 x2 (IntKind.wrap .i64 (x3+1)) x4 x5) (l32 J m w32_0 [] M4))) (fun J=>by kernel_rfl) (by simp only[jj_eq,h4];rfl)
theorem i32_j5_eq m M4 rec4 (h4:H32_4 m M4 rec4) x0 x1 x2 x3 x4 x5:e32 jn m w32_2 [M4] (s32_6 x0 x1 x2 x3 x4 x5)=i32_j5 m (i32 m) rec4 x0 x1 x2 x3 x4 x5:=
 tre (g:=fun J=>((idx x1 x3).bind fun v1=>
  ((i32 m (Dt.fld v1 1) (IntKind.wrap .i64 (x0+1)) x4).bind fun r2=>
  (bif (r2.1 !=0) then
  some (r2.1,r2.2)
  else
  (jj J 0 13 0 (s32_6 x0 x1 x2 x3 r2.2 x5) (e32 J m w32_1 [M4])))))) (fun J=>by kernel_rfl) (by simp only[jj_eq,i32_j6_eq m M4 rec4 h4];rfl)
abbrev H32_9 (m M9:Nat) (rec9:Int→List Dt→Int→Int→Int→Option (Int×Int)):Prop:=∀x0 x1 x2 x3 x4,l32 jn m w32_3 [] M9 (s32_11 x0 x1 x2 x3 x4)=rec9 x0 x1 x2 x3 x4
theorem i32_j11_eq m M9 rec9 (h9:H32_9 m M9 rec9) x0 x1 x2 x3 x4:e32 jn m w32_4 [M9] (s32_11 x0 x1 x2 x3 x4)=i32_j11 m (i32 m) rec9 x0 x1 x2 x3 x4:=
 tre (g:=fun J=>(jj J 1 15 M9 (s32_11 x0 x1 x2 (IntKind.wrap .i64 (x3+1)) x4) (l32 J m w32_3 [] M9))) (fun J=>by kernel_rfl) (by simp only[jj_eq,h9];rfl)
theorem i32_j10_eq m M9 rec9 (h9:H32_9 m M9 rec9) x0 x1 x2 x3 x4:e32 jn m w32_5 [M9] (s32_11 x0 x1 x2 x3 x4)=i32_j10 m (i32 m) rec9 x0 x1 x2 x3 x4:=
 tre (g:=fun J=>((idx x1 x3).bind fun v3=>
  ((i32 m v3 (IntKind.wrap .i64 (x0+1)) x4).bind fun r4=>
  (bif (r4.1 !=0) then
  some (r4.1,r4.2)
  else
  (jj J 0 20 0 (s32_11 x0 x1 x2 x3 r4.2) (e32 J m w32_4 [M9])))))) (fun J=>by kernel_rfl) (by simp only[jj_eq,i32_j11_eq m M9 rec9 h9];rfl)
theorem i32_j12_eq m x0:e32 jn m w32_6 [] (s32_12 x0)=i32_j12 m (i32 m) x0:=
 tre (g:=fun J=>some (0,x0)) (fun J=>by kernel_rfl) (by rfl)
theorem i32_l9_eq m:∀M9 x0 x1 x2 x3 x4,l32 jn m w32_3 [] M9 (s32_11 x0 x1 x2 x3 x4)=i32_l9 m (i32 m) M9 x0 x1 x2 x3 x4
 |0,_,_,_,_,_=>rfl
 | M9+1,x0,x1,x2,x3,x4=>
   trl (g:=fun J=>(bif (decide (x3<x2)) then
  (jj J 0 16 0 (s32_11 x0 x1 x2 x3 x4) (e32 J m w32_5 [M9]))
   else
  (jj J 0 21 0 (s32_12 x4) (e32 J m w32_6 [])))) (fun J=>by kernel_rfl) (by simp only[jj_eq,i32_j10_eq m M9 (i32_l9 m (i32 m) M9) (i32_l9_eq m M9),i32_j12_eq m];rfl)
theorem i32_j8_eq m x0 x1 x2 x3 x4:e32 jn m w32_7 [] (s32_11 x0 x1 x2 x3 x4)=i32_j8 m (i32 m) x0 x1 x2 x3 x4:=
 tre (g:=fun J=>(jj J 1 15 (Nat.succ m) (s32_11 x0 x1 x2 x3 x4) (l32 J m w32_3 [] (Nat.succ m)))) (fun J=>by kernel_rfl) (by simp only[jj_eq,i32_l9_eq m];rfl)
theorem i32_j7_eq m x0 x1 x2:e32 jn m w32_8 [] (s32_7 x0 x1 x2)=i32_j7 m (i32 m) x0 x1 x2:=
 tre (g:=fun J=>(jj J 0 15 0 (s32_11 x0 (Dt.L x2 11) (List.length (Dt.L x2 11):Int) 0 x1) (e32 J m w32_7 []))) (fun J=>by kernel_rfl) (by simp only[jj_eq,i32_j8_eq m];rfl)
theorem i32_l4_eq m:∀M4 x0 x1 x2 x3 x4 x5,l32 jn m w32_0 [] M4 (s32_6 x0 x1 x2 x3 x4 x5)=i32_l4 m (i32 m) M4 x0 x1 x2 x3 x4 x5
 |0,_,_,_,_,_,_=>rfl
 | M4+1,x0,x1,x2,x3,x4,x5=>
   trl (g:=fun J=>(bif (decide (x3<x2)) then
  (jj J 0 9 0 (s32_6 x0 x1 x2 x3 x4 x5) (e32 J m w32_2 [M4]))
   else
  (jj J 0 14 0 (s32_7 x0 x4 x5) (e32 J m w32_8 [])))) (fun J=>by kernel_rfl) (by simp only[jj_eq,i32_j5_eq m M4 (i32_l4 m (i32 m) M4) (i32_l4_eq m M4),i32_j7_eq m];rfl)
theorem i32_j3_eq m x0 x1 x2 x3 x4 x5:e32 jn m w32_9 [] (s32_6 x0 x1 x2 x3 x4 x5)=i32_j3 m (i32 m) x0 x1 x2 x3 x4 x5:=
 tre (g:=fun J=>(jj J 1 8 (Nat.succ m) (s32_6 x0 x1 x2 x3 x4 x5) (l32 J m w32_0 [] (Nat.succ m)))) (fun J=>by kernel_rfl) (by simp only[jj_eq,i32_l4_eq m];rfl)
theorem i32_j2_eq m x0 x1 x2:e32 jn m [1,1,1,1] [] (s32_7 x0 x1 x2)=i32_j2 m (i32 m) x0 x1 x2:=
 tre (g:=fun J=>(jj J 0 8 0 (s32_6 x0 (Dt.L x2 9) (List.length (Dt.L x2 9):Int) 0 x1 x2) (e32 J m w32_9 []))) (fun J=>by kernel_rfl) (by simp only[jj_eq,i32_j3_eq m];rfl)
theorem i32_j1_eq m x0 x1 x2:e32 jn m [1,1] [] (s32_7 x0 x1 x2)=i32_j1 m (i32 m) x0 x1 x2:=
 tre (g:=fun J=>((schema_checkOne m x2).bind fun r0=>
  (bif (r0 !=0) then
  some (r0,(IntKind.wrap .i64 (x1+1)))
  else
  (jj J 0 7 0 (s32_7 x0 (IntKind.wrap .i64 (x1+1)) x2) (e32 J m [1,1,1,1] []))))) (fun J=>by kernel_rfl) (by simp only[jj_eq,i32_j2_eq m];rfl)
theorem i32_j0_eq m x0 x1 x2 x3:e32 jn m [1,0,1] [] (s32_0 x0 x1 x2 x3)=i32_j0 m (i32 m) x0 x1 x2 x3:=
 tre (g:=fun J=>(bif x1 then
  some (2,x2)
   else
  (jj J 0 3 0 (s32_7 x0 x2 x3) (e32 J m [1,1] [])))) (fun J=>by kernel_rfl) (by simp only[jj_eq,i32_j1_eq m];rfl)
theorem i32_eq m a0 a1 a2:e32 jn m [] [] ⟨[(.dat 32 a0),(.dat 3 (.int a1)),(.ptr 0 [] 0)],[(.box 3 (.dat 3 (.int a2)))],1⟩=i32 (m+1) a0 a1 a2:=
 tre (g:=fun J=>(bif (decide (16<a1)) then
  (jj J 0 2 0 (s32_0 a1 true a2 a0) (e32 J m [1,0,1] []))
   else
  (jj J 0 2 0 (s32_0 a1 (a2==64) a2 a0) (e32 J m [1,0,1] [])))) (fun J=>by kernel_rfl) (by simp only[jj_eq,i32_j0_eq m];rfl)
noncomputable def e11 (J:Nat→Nat→Nat→St→Option Int→Option Int) (m:Nat) (p ms:List Nat) (σ:St):=evAt Tryz.prog env (ct m) J (m+1) 20 6 Tryz.f20 d33 p ms σ
noncomputable def l11 (J:Nat→Nat→Nat→St→Option Int→Option Int) (m:Nat) (p ms:List Nat) (M:Nat) (σ:St):=loopAt Tryz.prog env (ct m) J (m+1) 20 6 Tryz.f20 d33 p ms M σ
theorem schema_Valid_eq m a0:e11 jn m [] [] ⟨[(.dat 32 a0)],[],0⟩=schema_Valid (m+1) a0:=
 tre (g:=fun J=>((i32 m a0 1 0).bind fun r0=>
  some r0.1)) (fun J=>by kernel_rfl) (by rfl)
noncomputable def e4 (J:Nat→Nat→Nat→St→Option (List Dt)→Option (List Dt)) (m:Nat) (p ms:List Nat) (σ:St):=evAt Tryz.prog env (ct m) J (m+1) 13 11 Tryz.f13 d29 p ms σ
noncomputable def l4 (J:Nat→Nat→Nat→St→Option (List Dt)→Option (List Dt)) (m:Nat) (p ms:List Nat) (M:Nat) (σ:St):=loopAt Tryz.prog env (ct m) J (m+1) 13 11 Tryz.f13 d29 p ms M σ
noncomputable def s4_0 (x0 x1:Dt):St:=⟨tsOf [(2,(.ptr 0 [] 0)),(3,(.ptr 1 [] 0))],[(.box 32 (.dat 32 x0)),(.box 25 (.dat 25 x1))],0⟩
theorem schema_Check_j0_eq m x0 x1:e4 jn m [1,1] [] (s4_0 x0 x1)=schema_Check_j0 m x0 x1:=
 tre (g:=fun J=>((i12 m x0 x1 [] []).bind fun r1=>
  some r1)) (fun J=>by kernel_rfl) (by rfl)
theorem schema_Check_eq m a0 a1:e4 jn m [] [] ⟨[(.dat 32 a0),(.dat 25 a1)],[],0⟩=schema_Check (m+1) a0 a1:=
 tre (g:=fun J=>((schema_Valid m a0).bind fun r0=>
  (bif (r0 !=0) then
  some []
  else
  (jj J 0 3 0 (s4_0 a0 a1) (e4 J m [1,1] []))))) (fun J=>by kernel_rfl) (by simp only[jj_eq,schema_Check_j0_eq m];rfl)
def w7_1:List Nat:=[1,1,1,1,1]
def w7_0:List Nat:=[1,1,1,1,1,1]
def w7_2:List Nat:=[1,1,1,1,0,1]
noncomputable def e7 (J:Nat→Nat→Nat→St→Option (Int×List Dt)→Option (Int×List Dt)) (m:Nat) (p ms:List Nat) (σ:St):=evAt Tryz.prog env (ct m) J (m+1) 15 44 Tryz.f15 d7 p ms σ
noncomputable def l7 (J:Nat→Nat→Nat→St→Option (Int×List Dt)→Option (Int×List Dt)) (m:Nat) (p ms:List Nat) (M:Nat) (σ:St):=loopAt Tryz.prog env (ct m) J (m+1) 15 44 Tryz.f15 d7 p ms M σ
noncomputable def s7_5:St:=⟨tsOf [],[],0⟩
noncomputable def s7_4 (x0:List Dt) (x1:Dt):St:=⟨tsOf [(3,(.ptr 0 [] 0)),(8,(.dat 40 (.lst x0)))],[(.box 44 (.dat 44 x1))],0⟩
noncomputable def s7_3 (x0:List Dt) (x1:Bool) (x2:Dt):St:=⟨tsOf [(3,(.ptr 0 [] 0)),(8,(.dat 40 (.lst x0))),(39,(.dat 4 (.bool x1)))],[(.box 44 (.dat 44 x2))],0⟩
noncomputable def s7_2 (x0:List Dt) (x1 x2:Dt):St:=⟨tsOf [(3,(.ptr 0 [] 0)),(4,(.ptr 1 [] 0)),(8,(.dat 40 (.lst x0)))],[(.box 44 (.dat 44 x1)),(.box 25 (.dat 25 x2))],0⟩
noncomputable def s7_1 (x0 x1 x2:Dt):St:=⟨tsOf [(3,(.ptr 0 [] 0)),(4,(.ptr 1 [] 0)),(5,(.ptr 2 [] 0))],[(.box 44 (.dat 44 x0)),(.box 25 (.dat 25 x1)),(.box 25 (.dat 25 x2))],0⟩
noncomputable def s7_0 (x0:Bool) (x1 x2 x3:Dt):St:=⟨tsOf [(3,(.ptr 0 [] 0)),(4,(.ptr 1 [] 0)),(5,(.ptr 2 [] 0)),(16,(.dat 4 (.bool x0)))],[(.box 44 (.dat 44 x1)),(.box 25 (.dat 25 x2)),(.box 25 (.dat 25 x3))],0⟩
theorem schema_Admit_j5_eq m:e7 jn m w7_0 [] s7_5=schema_Admit_j5 m:=
 tre (g:=fun J=>some (17,[])) (fun J=>by kernel_rfl) (by rfl)
theorem schema_Admit_j4_eq m x0 x1:e7 jn m w7_1 [] (s7_4 x0 x1)=schema_Admit_j4 m x0 x1:=
 tre (g:=fun J=>(bif ((Dt.I x1 4)==1) then
  some (0,x0)
   else
  (jj J 0 10 0 s7_5 (e7 J m w7_0 [])))) (fun J=>by kernel_rfl) (by simp only[jj_eq,schema_Admit_j5_eq m];rfl)
theorem schema_Admit_j3_eq m x0 x1 x2:e7 jn m w7_2 [] (s7_3 x0 x1 x2)=schema_Admit_j3 m x0 x1 x2:=
 tre (g:=fun J=>(bif x1 then
  some (0,[])
   else
  (jj J 0 8 0 (s7_4 x0 x2) (e7 J m w7_1 [])))) (fun J=>by kernel_rfl) (by simp only[jj_eq,schema_Admit_j4_eq m];rfl)
theorem schema_Admit_j2_eq m x0 x1 x2:e7 jn m [1,1,1,1] [] (s7_2 x0 x1 x2)=schema_Admit_j2 m x0 x1 x2:=
 tre (g:=fun J=>(bif ((Dt.I x1 3)==1) then
  (bif ((Dt.I x2 0)==5) then
  ((schema_Check m (Dt.fld x1 2) x2).bind fun r1=>
  (jj J 0 7 0 (s7_3 x0 (decide (0<(List.length r1:Int))) x1) (e7 J m w7_2 [])))
  else
  (jj J 0 7 0 (s7_3 x0 false x1) (e7 J m w7_2 [])))
   else
  (jj J 0 7 0 (s7_3 x0 false x1) (e7 J m w7_2 [])))) (fun J=>by kernel_rfl) (by simp only[jj_eq,schema_Admit_j3_eq m];rfl)
theorem schema_Admit_j1_eq m x0 x1 x2:e7 jn m [1,1] [] (s7_1 x0 x1 x2)=schema_Admit_j1 m x0 x1 x2:=
 tre (g:=fun J=>((schema_Check m (Dt.fld x0 2) x2).bind fun r0=>
  (bif ((List.length r0:Int)==0) then
  some (0,[])
  else
  (jj J 0 6 0 (s7_2 r0 x0 x1) (e7 J m [1,1,1,1] []))))) (fun J=>by kernel_rfl) (by simp only[jj_eq,schema_Admit_j2_eq m];rfl)
theorem schema_Admit_j0_eq m x0 x1 x2 x3:e7 jn m [1,0,1] [] (s7_0 x0 x1 x2 x3)=schema_Admit_j0 m x0 x1 x2 x3:=
 tre (g:=fun J=>(bif x0 then
  some (0,[])
   else
  (jj J 0 3 0 (s7_1 x1 x2 x3) (e7 J m [1,1] [])))) (fun J=>by kernel_rfl) (by simp only[jj_eq,schema_Admit_j1_eq m];rfl)
theorem schema_Admit_eq m a0 a1 a2:e7 jn m [] [] ⟨[(.dat 44 a0),(.dat 25 a1),(.dat 25 a2)],[],0⟩=schema_Admit (m+1) a0 a1 a2:=
 tre (g:=fun J=>(bif ((Dt.I a0 3) !=1) then
  (jj J 0 2 0 (s7_0 ((Dt.I a0 3) !=2) a0 a1 a2) (e7 J m [1,0,1] []))
   else
  (jj J 0 2 0 (s7_0 false a0 a1 a2) (e7 J m [1,0,1] [])))) (fun J=>by kernel_rfl) (by simp only[jj_eq,schema_Admit_j0_eq m];rfl)
def w88_7:List Nat:=[1,1,0,1,0,1]
def w88_0:List Nat:=w88_7++[0]
def w88_6:List Nat:=[1,1,1,0,1,0,1]
def w88_3:List Nat:=w88_6++[0]
def w88_2:List Nat:=w88_0++[0,1]
def w88_1:List Nat:=w88_2++[1]
def w88_5:List Nat:=w88_3++[0,1]
def w88_4:List Nat:=w88_5++[1]
noncomputable def e88 (J:Nat→Nat→Nat→St→Option (List Dt)→Option (List Dt)) (m:Nat) (p ms:List Nat) (σ:St):=evAt Tryz.prog env (ct m) J (m+1) 100 44 Tryz.f100 d88 p ms σ
noncomputable def l88 (J:Nat→Nat→Nat→St→Option (List Dt)→Option (List Dt)) (m:Nat) (p ms:List Nat) (M:Nat) (σ:St):=loopAt Tryz.prog env (ct m) J (m+1) 100 44 Tryz.f100 d88 p ms M σ
noncomputable def s88_3 (x0:Int) (x1:Dt) (x2:List Dt):St:=⟨tsOf [(1,(.ptr 0 [] 0)),(3,(.row 1)),(4,(.dat 3 (.int x0)))],[(.box 25 (.dat 25 x1)),(.row 22 x2)],0⟩
noncomputable def s88_8 (x0:Int) (x1:Dt) (x2:List Dt):St:=⟨tsOf [(1,(.ptr 0 [] 0)),(3,(.row 1)),(5,(.dat 3 (.int x0)))],[(.box 25 (.dat 25 x1)),(.row 22 x2)],0⟩
noncomputable def s88_9 (x0:List Dt):St:=⟨tsOf [(3,(.row 0))],[(.row 22 x0)],0⟩
noncomputable def s88_4 (x0:Dt) (x1:List Dt):St:=⟨tsOf [(1,(.ptr 0 [] 0)),(3,(.row 1))],[(.box 25 (.dat 25 x0)),(.row 22 x1)],0⟩
abbrev H88_1 (m M1:Nat) (rec1:Int→Dt→List Dt→Option (List Dt)):Prop:=∀x0 x1 x2,l88 jn m w88_0 [] M1 (s88_3 x0 x1 x2)=rec1 x0 x1 x2
theorem ref01_Parts_j3_eq m M1 rec1 (h1:H88_1 m M1 rec1) x0 x1 x2:e88 jn m w88_1 [M1] (s88_3 x0 x1 x2)=ref01_Parts_j3 m rec1 x0 x1 x2:=
 tre (g:=fun J=>(jj J 1 4 M1 (s88_3 (IntKind.wrap .i64 (x0+1)) x1 x2) (l88 J m w88_0 [] M1))) (fun J=>by kernel_rfl) (by simp only[jj_eq,h1];rfl)
theorem ref01_Parts_j2_eq m M1 rec1 (h1:H88_1 m M1 rec1) x0 x1 x2:e88 jn m w88_2 [M1] (s88_3 x0 x1 x2)=ref01_Parts_j2 m rec1 x0 x1 x2:=
 tre (g:=fun J=>((idx (Dt.L x1 3) x0).bind fun v0=>
  ((app x2 [v0]).bind fun v1=>
  (jj J 0 5 0 (s88_3 x0 x1 v1) (e88 J m w88_1 [M1]))))) (fun J=>by kernel_rfl) (by simp only[jj_eq,ref01_Parts_j3_eq m M1 rec1 h1];rfl)
abbrev H88_6 (m M6:Nat) (rec6:Int→Dt→List Dt→Option (List Dt)):Prop:=∀x0 x1 x2,l88 jn m w88_3 [] M6 (s88_8 x0 x1 x2)=rec6 x0 x1 x2
theorem ref01_Parts_j8_eq m M6 rec6 (h6:H88_6 m M6 rec6) x0 x1 x2:e88 jn m w88_4 [M6] (s88_8 x0 x1 x2)=ref01_Parts_j8 m rec6 x0 x1 x2:=
 tre (g:=fun J=>(jj J 1 9 M6 (s88_8 (IntKind.wrap .i64 (x0+1)) x1 x2) (l88 J m w88_3 [] M6))) (fun J=>by kernel_rfl) (by simp only[jj_eq,h6];rfl)
theorem ref01_Parts_j7_eq m M6 rec6 (h6:H88_6 m M6 rec6) x0 x1 x2:e88 jn m w88_5 [M6] (s88_8 x0 x1 x2)=ref01_Parts_j7 m rec6 x0 x1 x2:=
 tre (g:=fun J=>((idx (Dt.L x1 4) x0).bind fun v2=>
  ((app x2 [(Dt.fld v2 1)]).bind fun v3=>
  (jj J 0 10 0 (s88_8 x0 x1 v3) (e88 J m w88_4 [M6]))))) (fun J=>by kernel_rfl) (by simp only[jj_eq,ref01_Parts_j8_eq m M6 rec6 h6];rfl)
theorem ref01_Parts_j9_eq m x0:e88 jn m [1,1,1,1] [] (s88_9 x0)=ref01_Parts_j9 m x0:=
 tre (g:=fun J=>some x0) (fun J=>by kernel_rfl) (by rfl)
theorem ref01_Parts_l6_eq m:∀M6 x0 x1 x2,l88 jn m w88_3 [] M6 (s88_8 x0 x1 x2)=ref01_Parts_l6 m M6 x0 x1 x2
 |0,_,_,_=>rfl
 | M6+1,x0,x1,x2=>
   trl (g:=fun J=>(bif (decide (x0<(List.length (Dt.L x1 4):Int))) then
  (jj J 0 11 0 (s88_8 x0 x1 x2) (e88 J m w88_5 [M6]))
   else
  (jj J 0 12 0 (s88_9 x2) (e88 J m [1,1,1,1] [])))) (fun J=>by kernel_rfl) (by simp only[jj_eq,ref01_Parts_j7_eq m M6 (ref01_Parts_l6 m M6) (ref01_Parts_l6_eq m M6),ref01_Parts_j9_eq m];rfl)
theorem ref01_Parts_j5_eq m x0 x1 x2:e88 jn m w88_6 [] (s88_8 x0 x1 x2)=ref01_Parts_j5 m x0 x1 x2:=
 tre (g:=fun J=>(jj J 1 9 (Nat.succ m) (s88_8 x0 x1 x2) (l88 J m w88_3 [] (Nat.succ m)))) (fun J=>by kernel_rfl) (by simp only[jj_eq,ref01_Parts_l6_eq m];rfl)
theorem ref01_Parts_j4_eq m x0 x1:e88 jn m [1,1,1] [] (s88_4 x0 x1)=ref01_Parts_j4 m x0 x1:=
 tre (g:=fun J=>(bif ((Dt.I x0 0)==5) then
  (jj J 0 9 0 (s88_8 0 x0 x1) (e88 J m w88_6 []))
   else
  (jj J 0 12 0 (s88_9 x1) (e88 J m [1,1,1,1] [])))) (fun J=>by kernel_rfl) (by simp only[jj_eq,ref01_Parts_j5_eq m,ref01_Parts_j9_eq m];rfl)
theorem ref01_Parts_l1_eq m:∀M1 x0 x1 x2,l88 jn m w88_0 [] M1 (s88_3 x0 x1 x2)=ref01_Parts_l1 m M1 x0 x1 x2
 |0,_,_,_=>rfl
 | M1+1,x0,x1,x2=>
   trl (g:=fun J=>(bif (decide (x0<(List.length (Dt.L x1 3):Int))) then
  (jj J 0 6 0 (s88_3 x0 x1 x2) (e88 J m w88_2 [M1]))
   else
  (jj J 0 7 0 (s88_4 x1 x2) (e88 J m [1,1,1] [])))) (fun J=>by kernel_rfl) (by simp only[jj_eq,ref01_Parts_j2_eq m M1 (ref01_Parts_l1 m M1) (ref01_Parts_l1_eq m M1),ref01_Parts_j4_eq m];rfl)
theorem ref01_Parts_j0_eq m x0 x1 x2:e88 jn m w88_7 [] (s88_3 x0 x1 x2)=ref01_Parts_j0 m x0 x1 x2:=
 tre (g:=fun J=>(jj J 1 4 (Nat.succ m) (s88_3 x0 x1 x2) (l88 J m w88_0 [] (Nat.succ m)))) (fun J=>by kernel_rfl) (by simp only[jj_eq,ref01_Parts_l1_eq m];rfl)
theorem ref01_Parts_eq m a0:e88 jn m [] [] ⟨[(.dat 25 a0)],[],0⟩=ref01_Parts (m+1) a0:=
 tre (g:=fun J=>(bif ((Dt.I a0 0)==6) then
  (jj J 0 4 0 (s88_3 0 a0 []) (e88 J m w88_7 []))
   else
  (jj J 0 7 0 (s88_4 a0 []) (e88 J m [1,1,1] [])))) (fun J=>by kernel_rfl) (by simp only[jj_eq,ref01_Parts_j0_eq m,ref01_Parts_j4_eq m];rfl)
def w84_3:List Nat:=[1,1,1,1,1]
def w84_4:List Nat:=[1,1,1,1,0,1]
def w84_0:List Nat:=w84_4++[0]
def w84_2:List Nat:=w84_0++[0,1]
def w84_1:List Nat:=w84_2++[1]
noncomputable def e84 (J:Nat→Nat→Nat→St→Option Int→Option Int) (m:Nat) (p ms:List Nat) (σ:St):=evAt Tryz.prog env (ct m) J (m+1) 70 34 Tryz.f70 d9 p ms σ
noncomputable def l84 (J:Nat→Nat→Nat→St→Option Int→Option Int) (m:Nat) (p ms:List Nat) (M:Nat) (σ:St):=loopAt Tryz.prog env (ct m) J (m+1) 70 34 Tryz.f70 d9 p ms M σ
noncomputable def s84_5 (x0:Int) (x1:List Dt) (x2 x3:Int):St:=⟨tsOf [(1,(.dat 3 (.int x0))),(5,(.dat 22 (.lst x1))),(6,(.dat 3 (.int x2))),(7,(.dat 3 (.int x3)))],[],0⟩
noncomputable def s84_6 (x0:Int):St:=⟨tsOf [(6,(.dat 3 (.int x0)))],[],0⟩
noncomputable def s84_1 (x0:Int) (x1:List Dt):St:=⟨tsOf [(1,(.dat 3 (.int x0))),(5,(.dat 22 (.lst x1)))],[],0⟩
noncomputable def s84_0 (x0:Int) (x1:List Dt) (x2:Bool):St:=⟨tsOf [(1,(.dat 3 (.int x0))),(5,(.dat 22 (.lst x1))),(16,(.dat 4 (.bool x2)))],[],0⟩
abbrev H84_3 (m M3:Nat) (rec3:Int→List Dt→Int→Int→Option Int):Prop:=∀x0 x1 x2 x3,l84 jn m w84_0 [] M3 (s84_5 x0 x1 x2 x3)=rec3 x0 x1 x2 x3
theorem ref01_levels_j5_eq m M3 rec3 (h3:H84_3 m M3 rec3) x0 x1 x2 x3:e84 jn m w84_1 [M3] (s84_5 x0 x1 x2 x3)=ref01_levels_j5 m (ref01_levels m) rec3 x0 x1 x2 x3:=
 tre (g:=fun J=>(jj J 1 6 M3 (s84_5 x0 x1 x2 (IntKind.wrap .i64 (x3+1))) (l84 J m w84_0 [] M3))) (fun J=>by kernel_rfl) (by simp only[jj_eq,h3];rfl)
theorem ref01_levels_j4_eq m M3 rec3 (h3:H84_3 m M3 rec3) x0 x1 x2 x3:e84 jn m w84_2 [M3] (s84_5 x0 x1 x2 x3)=ref01_levels_j4 m (ref01_levels m) rec3 x0 x1 x2 x3:=
 tre (g:=fun J=>((idx x1 x3).bind fun v1=>
  ((ref01_levels m v1 (IntKind.wrap .i64 (x0-1))).bind fun r2=>
  (jj J 0 7 0 (s84_5 x0 x1 (bif (decide (x2<r2)) then r2 else x2) x3) (e84 J m w84_1 [M3]))))) (fun J=>by kernel_rfl) (by simp only[jj_eq,ref01_levels_j5_eq m M3 rec3 h3];rfl)
theorem ref01_levels_j6_eq m x0:e84 jn m w84_3 [] (s84_6 x0)=ref01_levels_j6 m (ref01_levels m) x0:=
 tre (g:=fun J=>some (IntKind.wrap .i64 (x0+1))) (fun J=>by kernel_rfl) (by rfl)
theorem ref01_levels_l3_eq m:∀M3 x0 x1 x2 x3,l84 jn m w84_0 [] M3 (s84_5 x0 x1 x2 x3)=ref01_levels_l3 m (ref01_levels m) M3 x0 x1 x2 x3
 |0,_,_,_,_=>rfl
 | M3+1,x0,x1,x2,x3=>
   trl (g:=fun J=>(bif (decide (x3<(List.length x1:Int))) then
  (jj J 0 8 0 (s84_5 x0 x1 x2 x3) (e84 J m w84_2 [M3]))
   else
  (jj J 0 9 0 (s84_6 x2) (e84 J m w84_3 [])))) (fun J=>by kernel_rfl) (by simp only[jj_eq,ref01_levels_j4_eq m M3 (ref01_levels_l3 m (ref01_levels m) M3) (ref01_levels_l3_eq m M3),ref01_levels_j6_eq m];rfl)
theorem ref01_levels_j2_eq m x0 x1 x2 x3:e84 jn m w84_4 [] (s84_5 x0 x1 x2 x3)=ref01_levels_j2 m (ref01_levels m) x0 x1 x2 x3:=
 tre (g:=fun J=>(jj J 1 6 (Nat.succ m) (s84_5 x0 x1 x2 x3) (l84 J m w84_0 [] (Nat.succ m)))) (fun J=>by kernel_rfl) (by simp only[jj_eq,ref01_levels_l3_eq m];rfl)
theorem ref01_levels_j1_eq m x0 x1:e84 jn m [1,1,1] [] (s84_1 x0 x1)=ref01_levels_j1 m (ref01_levels m) x0 x1:=
 tre (g:=fun J=>(jj J 0 6 0 (s84_5 x0 x1 0 0) (e84 J m w84_4 []))) (fun J=>by kernel_rfl) (by simp only[jj_eq,ref01_levels_j2_eq m];rfl)
theorem ref01_levels_j0_eq m x0 x1 x2:e84 jn m [1,1,0,1] [] (s84_0 x0 x1 x2)=ref01_levels_j0 m (ref01_levels m) x0 x1 x2:=
 tre (g:=fun J=>(bif x2 then
  some 1
   else
  (jj J 0 4 0 (s84_1 x0 x1) (e84 J m [1,1,1] [])))) (fun J=>by kernel_rfl) (by simp only[jj_eq,ref01_levels_j1_eq m];rfl)
theorem ref01_levels_eq m a0 a1:e84 jn m [] [] ⟨[(.dat 25 a0),(.dat 3 (.int a1))],[],0⟩=ref01_levels (m+1) a0 a1:=
 tre (g:=fun J=>((ref01_Parts m a0).bind fun r0=>
  (bif (decide (a1<2)) then
  (jj J 0 3 0 (s84_0 a1 r0 true) (e84 J m [1,1,0,1] []))
  else
  (jj J 0 3 0 (s84_0 a1 r0 ((List.length r0:Int)==0)) (e84 J m [1,1,0,1] []))))) (fun J=>by kernel_rfl) (by simp only[jj_eq,ref01_levels_j0_eq m];rfl)
noncomputable def e76 (J:Nat→Nat→Nat→St→Option Int→Option Int) (m:Nat) (p ms:List Nat) (σ:St):=evAt Tryz.prog env (ct m) J (m+1) 38 5 Tryz.f38 d9 p ms σ
noncomputable def l76 (J:Nat→Nat→Nat→St→Option Int→Option Int) (m:Nat) (p ms:List Nat) (M:Nat) (σ:St):=loopAt Tryz.prog env (ct m) J (m+1) 38 5 Tryz.f38 d9 p ms M σ
theorem ref01_Depth_eq m a0:e76 jn m [] [] ⟨[(.dat 25 a0)],[],0⟩=ref01_Depth (m+1) a0:=
 tre (g:=fun J=>((ref01_levels m a0 17).bind fun r0=>
  some r0)) (fun J=>by kernel_rfl) (by rfl)
def w85_3:List Nat:=[1,1,1,0,1]
def w85_0:List Nat:=[1,1,1,0,1,0]
def w85_2:List Nat:=w85_0++[0,1]
def w85_1:List Nat:=w85_2++[1]
noncomputable def e85 (J:Nat→Nat→Nat→St→Option Int→Option Int) (m:Nat) (p ms:List Nat) (σ:St):=evAt Tryz.prog env (ct m) J (m+1) 71 32 Tryz.f71 d9 p ms σ
noncomputable def l85 (J:Nat→Nat→Nat→St→Option Int→Option Int) (m:Nat) (p ms:List Nat) (M:Nat) (σ:St):=loopAt Tryz.prog env (ct m) J (m+1) 71 32 Tryz.f71 d9 p ms M σ
noncomputable def s85_3 (x0 x1:Int) (x2:List Dt) (x3:Int):St:=⟨tsOf [(1,(.dat 3 (.int x0))),(5,(.dat 3 (.int x1))),(6,(.dat 22 (.lst x2))),(7,(.dat 3 (.int x3)))],[],0⟩
noncomputable def s85_4 (x0:Int):St:=⟨tsOf [(5,(.dat 3 (.int x0)))],[],0⟩
abbrev H85_1 (m M1:Nat) (rec1:Int→Int→List Dt→Int→Option Int):Prop:=∀x0 x1 x2 x3,l85 jn m w85_0 [] M1 (s85_3 x0 x1 x2 x3)=rec1 x0 x1 x2 x3
theorem ref01_count_j3_eq m M1 rec1 (h1:H85_1 m M1 rec1) x0 x1 x2 x3:e85 jn m w85_1 [M1] (s85_3 x0 x1 x2 x3)=ref01_count_j3 m (ref01_count m) rec1 x0 x1 x2 x3:=
 tre (g:=fun J=>(jj J 1 4 M1 (s85_3 x0 x1 x2 (IntKind.wrap .i64 (x3+1))) (l85 J m w85_0 [] M1))) (fun J=>by kernel_rfl) (by simp only[jj_eq,h1];rfl)
theorem ref01_count_j2_eq m M1 rec1 (h1:H85_1 m M1 rec1) x0 x1 x2 x3:e85 jn m w85_2 [M1] (s85_3 x0 x1 x2 x3)=ref01_count_j2 m (ref01_count m) rec1 x0 x1 x2 x3:=
 tre (g:=fun J=>((idx x2 x3).bind fun v1=>
  ((ref01_count m v1 (IntKind.wrap .i64 (x0-x1))).bind fun r2=>
  (jj J 0 5 0 (s85_3 x0 (IntKind.wrap .i64 (x1+r2)) x2 x3) (e85 J m w85_1 [M1]))))) (fun J=>by kernel_rfl) (by simp only[jj_eq,ref01_count_j3_eq m M1 rec1 h1];rfl)
theorem ref01_count_j4_eq m x0:e85 jn m [1,1,1,1] [] (s85_4 x0)=ref01_count_j4 m (ref01_count m) x0:=
 tre (g:=fun J=>some x0) (fun J=>by kernel_rfl) (by rfl)
theorem ref01_count_l1_eq m:∀M1 x0 x1 x2 x3,l85 jn m w85_0 [] M1 (s85_3 x0 x1 x2 x3)=ref01_count_l1 m (ref01_count m) M1 x0 x1 x2 x3
 |0,_,_,_,_=>rfl
 | M1+1,x0,x1,x2,x3=>
   trl (g:=fun J=>(bif (decide (x3<(List.length x2:Int))) then
  (bif (decide (x1<x0)) then
  (jj J 0 6 0 (s85_3 x0 x1 x2 x3) (e85 J m w85_2 [M1]))
  else
  (jj J 0 7 0 (s85_4 x1) (e85 J m [1,1,1,1] [])))
   else
  (jj J 0 7 0 (s85_4 x1) (e85 J m [1,1,1,1] [])))) (fun J=>by kernel_rfl) (by simp only[jj_eq,ref01_count_j2_eq m M1 (ref01_count_l1 m (ref01_count m) M1) (ref01_count_l1_eq m M1),ref01_count_j4_eq m];rfl)
theorem ref01_count_j0_eq m x0 x1 x2 x3:e85 jn m w85_3 [] (s85_3 x0 x1 x2 x3)=ref01_count_j0 m (ref01_count m) x0 x1 x2 x3:=
 tre (g:=fun J=>(jj J 1 4 (Nat.succ m) (s85_3 x0 x1 x2 x3) (l85 J m w85_0 [] (Nat.succ m)))) (fun J=>by kernel_rfl) (by simp only[jj_eq,ref01_count_l1_eq m];rfl)
theorem ref01_count_eq m a0 a1:e85 jn m [] [] ⟨[(.dat 25 a0),(.dat 3 (.int a1))],[],0⟩=ref01_count (m+1) a0 a1:=
 tre (g:=fun J=>((ref01_Parts m a0).bind fun r0=>
  (jj J 0 4 0 (s85_3 a1 1 r0 0) (e85 J m w85_3 [])))) (fun J=>by kernel_rfl) (by simp only[jj_eq,ref01_count_j0_eq m];rfl)
noncomputable def e77 (J:Nat→Nat→Nat→St→Option Int→Option Int) (m:Nat) (p ms:List Nat) (σ:St):=evAt Tryz.prog env (ct m) J (m+1) 39 5 Tryz.f39 d9 p ms σ
noncomputable def l77 (J:Nat→Nat→Nat→St→Option Int→Option Int) (m:Nat) (p ms:List Nat) (M:Nat) (σ:St):=loopAt Tryz.prog env (ct m) J (m+1) 39 5 Tryz.f39 d9 p ms M σ
theorem ref01_Nodes_eq m a0:e77 jn m [] [] ⟨[(.dat 25 a0)],[],0⟩=ref01_Nodes (m+1) a0:=
 tre (g:=fun J=>((ref01_count m a0 1025).bind fun r0=>
  some r0)) (fun J=>by kernel_rfl) (by rfl)
def w89_0:List Nat:=[1,1,0,1,0]
def w89_3:List Nat:=[1,1,0,1,0,0,1]
def w89_1:List Nat:=w89_3++[1]
def w89_2:List Nat:=w89_3++[0,0,1]
noncomputable def e89 (J:Nat→Nat→Nat→St→Option Bool→Option Bool) (m:Nat) (p ms:List Nat) (σ:St):=evAt Tryz.prog env (ct m) J (m+1) 101 33 Tryz.f101 d13 p ms σ
noncomputable def l89 (J:Nat→Nat→Nat→St→Option Bool→Option Bool) (m:Nat) (p ms:List Nat) (M:Nat) (σ:St):=loopAt Tryz.prog env (ct m) J (m+1) 101 33 Tryz.f101 d13 p ms M σ
noncomputable def s89_5 (x0:ByteArray) (x1 x2 x3:Int):St:=⟨tsOf [(0,(.dat 9 (.str x0))),(1,(.dat 3 (.int x1))),(2,(.dat 3 (.int x2))),(7,(.dat 3 (.int x3)))],[],0⟩
noncomputable def s89_4 (x0:ByteArray) (x1 x2 x3:Int) (x4:Bool):St:=⟨tsOf [(0,(.dat 9 (.str x0))),(1,(.dat 3 (.int x1))),(2,(.dat 3 (.int x2))),(7,(.dat 3 (.int x3))),(32,(.dat 4 (.bool x4)))],[],0⟩
noncomputable def s89_6:St:=⟨tsOf [],[],0⟩
noncomputable def s89_0 (x0:ByteArray) (x1 x2:Int):St:=⟨tsOf [(0,(.dat 9 (.str x0))),(1,(.dat 3 (.int x1))),(2,(.dat 3 (.int x2)))],[],0⟩
abbrev H89_2 (m M2:Nat) (rec2:ByteArray→Int→Int→Int→Option Bool):Prop:=∀x0 x1 x2 x3,l89 jn m w89_0 [] M2 (s89_5 x0 x1 x2 x3)=rec2 x0 x1 x2 x3
theorem ref01_tail_j5_eq m M2 rec2 (h2:H89_2 m M2 rec2) x0 x1 x2 x3:e89 jn m w89_1 [M2] (s89_5 x0 x1 x2 x3)=ref01_tail_j5 m rec2 x0 x1 x2 x3:=
 tre (g:=fun J=>(jj J 1 4 M2 (s89_5 x0 x1 x2 (IntKind.wrap .i64 (x3+1))) (l89 J m w89_0 [] M2))) (fun J=>by kernel_rfl) (by simp only[jj_eq,h2];rfl)
theorem ref01_tail_j4_eq m M2 rec2 (h2:H89_2 m M2 rec2) x0 x1 x2 x3 x4:e89 jn m w89_2 [M2] (s89_4 x0 x1 x2 x3 x4)=ref01_tail_j4 m rec2 x0 x1 x2 x3 x4:=
 tre (g:=fun J=>(bif x4 then
  some false
   else
  (jj J 0 5 0 (s89_5 x0 x1 x2 x3) (e89 J m w89_1 [M2])))) (fun J=>by kernel_rfl) (by simp only[jj_eq,ref01_tail_j5_eq m M2 rec2 h2];rfl)
theorem ref01_tail_j3_eq m M2 rec2 (h2:H89_2 m M2 rec2) x0 x1 x2 x3:e89 jn m w89_3 [M2] (s89_5 x0 x1 x2 x3)=ref01_tail_j3 m rec2 x0 x1 x2 x3:=
 tre (g:=fun J=>((idxS x0 (IntKind.wrap .i64 (x1+x3))).bind fun v0=>
  (bif (decide (v0<128)) then
  (jj J 0 7 0 (s89_4 x0 x1 x2 x3 true) (e89 J m w89_2 [M2]))
  else
  ((idxS x0 (IntKind.wrap .i64 (x1+x3))).bind fun v1=>
  (jj J 0 7 0 (s89_4 x0 x1 x2 x3 (decide (191<v1))) (e89 J m w89_2 [M2])))))) (fun J=>by kernel_rfl) (by simp only[jj_eq,ref01_tail_j4_eq m M2 rec2 h2];rfl)
theorem ref01_tail_j6_eq m:e89 jn m [1,1,1] [] s89_6=ref01_tail_j6 m:=
 tre (g:=fun J=>some true) (fun J=>by kernel_rfl) (by rfl)
theorem ref01_tail_l2_eq m:∀M2 x0 x1 x2 x3,l89 jn m w89_0 [] M2 (s89_5 x0 x1 x2 x3)=ref01_tail_l2 m M2 x0 x1 x2 x3
 |0,_,_,_,_=>rfl
 | M2+1,x0,x1,x2,x3=>
   trl (g:=fun J=>(bif (decide (x3<x2)) then
  (jj J 0 6 0 (s89_5 x0 x1 x2 x3) (e89 J m w89_3 [M2]))
   else
  (jj J 0 8 0 s89_6 (e89 J m [1,1,1] [])))) (fun J=>by kernel_rfl) (by simp only[jj_eq,ref01_tail_j3_eq m M2 (ref01_tail_l2 m M2) (ref01_tail_l2_eq m M2),ref01_tail_j6_eq m];rfl)
theorem ref01_tail_j1_eq m x0 x1 x2 x3:e89 jn m [1,1,0,1] [] (s89_5 x0 x1 x2 x3)=ref01_tail_j1 m x0 x1 x2 x3:=
 tre (g:=fun J=>(jj J 1 4 (Nat.succ m) (s89_5 x0 x1 x2 x3) (l89 J m w89_0 [] (Nat.succ m)))) (fun J=>by kernel_rfl) (by simp only[jj_eq,ref01_tail_l2_eq m];rfl)
theorem ref01_tail_j0_eq m x0 x1 x2:e89 jn m [1,1] [] (s89_0 x0 x1 x2)=ref01_tail_j0 m x0 x1 x2:=
 tre (g:=fun J=>(jj J 0 4 0 (s89_5 x0 x1 x2 0) (e89 J m [1,1,0,1] []))) (fun J=>by kernel_rfl) (by simp only[jj_eq,ref01_tail_j1_eq m];rfl)
theorem ref01_tail_eq m a0 a1 a2:e89 jn m [] [] ⟨[(.dat 9 (.str a0)),(.dat 3 (.int a1)),(.dat 3 (.int a2))],[],0⟩=ref01_tail (m+1) a0 a1 a2:=
 tre (g:=fun J=>(bif (decide ((ByteArray.size a0:Int)<(IntKind.wrap .i64 (a1+a2)))) then
  some false
   else
  (jj J 0 3 0 (s89_0 a0 a1 a2) (e89 J m [1,1] [])))) (fun J=>by kernel_rfl) (by simp only[jj_eq,ref01_tail_j0_eq m];rfl)
def w86_7:List Nat:=[1,0,1,0,0,1]
def w86_3:List Nat:=w86_7++[0,1,1,1]
def w86_2:List Nat:=w86_3++[1]
def w86_0:List Nat:=w86_2++[1]
def w86_1:List Nat:=w86_2++[0,1]
def w86_6:List Nat:=w86_7++[0,1,1,0,0,1,1,1]
def w86_5:List Nat:=w86_6++[1,1]
def w86_4:List Nat:=w86_5++[1,1]
noncomputable def e86 (J:Nat→Nat→Nat→St→Option Bool→Option Bool) (m:Nat) (p ms:List Nat) (σ:St):=evAt Tryz.prog env (ct m) J (m+1) 72 89 Tryz.f72 d13 p ms σ
noncomputable def l86 (J:Nat→Nat→Nat→St→Option Bool→Option Bool) (m:Nat) (p ms:List Nat) (M:Nat) (σ:St):=loopAt Tryz.prog env (ct m) J (m+1) 72 89 Tryz.f72 d13 p ms M σ
noncomputable def s86_6 (x0:ByteArray) (x1 x2:Int):St:=⟨tsOf [(0,(.dat 9 (.str x0))),(3,(.dat 3 (.int x1))),(5,(.dat 3 (.int x2)))],[],0⟩
noncomputable def s86_5 (x0:ByteArray) (x1 x2:Int) (x3:Bool):St:=⟨tsOf [(0,(.dat 9 (.str x0))),(3,(.dat 3 (.int x1))),(5,(.dat 3 (.int x2))),(84,(.dat 4 (.bool x3)))],[],0⟩
noncomputable def s86_4 (x0:ByteArray) (x1 x2 x3:Int):St:=⟨tsOf [(0,(.dat 9 (.str x0))),(3,(.dat 3 (.int x1))),(4,(.dat 5 (.int x2))),(5,(.dat 3 (.int x3)))],[],0⟩
noncomputable def s86_9 (x0:ByteArray) (x1 x2:Int) (x3:Bool):St:=⟨tsOf [(0,(.dat 9 (.str x0))),(3,(.dat 3 (.int x1))),(4,(.dat 5 (.int x2))),(30,(.dat 4 (.bool x3)))],[],0⟩
noncomputable def s86_8 (x0:ByteArray) (x1 x2:Int) (x3:Bool):St:=⟨tsOf [(0,(.dat 9 (.str x0))),(3,(.dat 3 (.int x1))),(4,(.dat 5 (.int x2))),(23,(.dat 4 (.bool x3)))],[],0⟩
noncomputable def s86_7 (x0:ByteArray) (x1 x2:Int) (x3:Bool):St:=⟨tsOf [(0,(.dat 9 (.str x0))),(3,(.dat 3 (.int x1))),(4,(.dat 5 (.int x2))),(16,(.dat 4 (.bool x3)))],[],0⟩
noncomputable def s86_2 (x0:ByteArray) (x1:Int):St:=⟨tsOf [(0,(.dat 9 (.str x0))),(3,(.dat 3 (.int x1)))],[],0⟩
noncomputable def s86_10:St:=⟨tsOf [],[],0⟩
abbrev H86_1 (m M1:Nat) (rec1:ByteArray→Int→Option Bool):Prop:=∀x0 x1,l86 jn m [1,0,1,0] [] M1 (s86_2 x0 x1)=rec1 x0 x1
theorem ref01_UTF8_j6_eq m M1 rec1 (h1:H86_1 m M1 rec1) x0 x1 x2:e86 jn m w86_0 [M1] (s86_6 x0 x1 x2)=ref01_UTF8_j6 m rec1 x0 x1 x2:=
 tre (g:=fun J=>(jj J 1 2 M1 (s86_2 x0 (IntKind.wrap .i64 ((IntKind.wrap .i64 (x1+x2))+1))) (l86 J m [1,0,1,0] [] M1))) (fun J=>by kernel_rfl) (by simp only[jj_eq,h1];rfl)
theorem ref01_UTF8_j5_eq m M1 rec1 (h1:H86_1 m M1 rec1) x0 x1 x2 x3:e86 jn m w86_1 [M1] (s86_5 x0 x1 x2 x3)=ref01_UTF8_j5 m rec1 x0 x1 x2 x3:=
 tre (g:=fun J=>(bif x3 then
  some false
   else
  (jj J 0 17 0 (s86_6 x0 x1 x2) (e86 J m w86_0 [M1])))) (fun J=>by kernel_rfl) (by simp only[jj_eq,ref01_UTF8_j6_eq m M1 rec1 h1];rfl)
theorem ref01_UTF8_j4_eq m M1 rec1 (h1:H86_1 m M1 rec1) x0 x1 x2 x3:e86 jn m w86_2 [M1] (s86_4 x0 x1 x2 x3)=ref01_UTF8_j4 m rec1 x0 x1 x2 x3:=
 tre (g:=fun J=>(bif (x2==224) then
  ((idxS x0 (IntKind.wrap .i64 (x1+1))).bind fun v2=>
  (bif (decide (v2<160)) then
  (jj J 0 16 0 (s86_5 x0 x1 x3 true) (e86 J m w86_1 [M1]))
  else
  (bif (x2==237) then
  ((idxS x0 (IntKind.wrap .i64 (x1+1))).bind fun v3=>
  (bif (decide (159<v3)) then
  (jj J 0 16 0 (s86_5 x0 x1 x3 true) (e86 J m w86_1 [M1]))
  else
  (bif (x2==240) then
  ((idxS x0 (IntKind.wrap .i64 (x1+1))).bind fun v4=>
  (bif (decide (v4<144)) then
  (jj J 0 16 0 (s86_5 x0 x1 x3 true) (e86 J m w86_1 [M1]))
  else
  (bif (x2==244) then
  ((idxS x0 (IntKind.wrap .i64 (x1+1))).bind fun v5=>
  (jj J 0 16 0 (s86_5 x0 x1 x3 (decide (143<v5))) (e86 J m w86_1 [M1])))
  else
  (jj J 0 16 0 (s86_5 x0 x1 x3 false) (e86 J m w86_1 [M1])))))
  else
  (bif (x2==244) then
  ((idxS x0 (IntKind.wrap .i64 (x1+1))).bind fun v6=>
  (jj J 0 16 0 (s86_5 x0 x1 x3 (decide (143<v6))) (e86 J m w86_1 [M1])))
  else
  (jj J 0 16 0 (s86_5 x0 x1 x3 false) (e86 J m w86_1 [M1]))))))
  else
  (bif (x2==240) then
  ((idxS x0 (IntKind.wrap .i64 (x1+1))).bind fun v7=>
  (bif (decide (v7<144)) then
  (jj J 0 16 0 (s86_5 x0 x1 x3 true) (e86 J m w86_1 [M1]))
  else
  (bif (x2==244) then
  ((idxS x0 (IntKind.wrap .i64 (x1+1))).bind fun v8=>
  (jj J 0 16 0 (s86_5 x0 x1 x3 (decide (143<v8))) (e86 J m w86_1 [M1])))
  else
  (jj J 0 16 0 (s86_5 x0 x1 x3 false) (e86 J m w86_1 [M1])))))
  else
  (bif (x2==244) then
  ((idxS x0 (IntKind.wrap .i64 (x1+1))).bind fun v9=>
  (jj J 0 16 0 (s86_5 x0 x1 x3 (decide (143<v9))) (e86 J m w86_1 [M1])))
  else
  (jj J 0 16 0 (s86_5 x0 x1 x3 false) (e86 J m w86_1 [M1])))))))
   else
  (bif (x2==237) then
  ((idxS x0 (IntKind.wrap .i64 (x1+1))).bind fun v10=>
  (bif (decide (159<v10)) then
  (jj J 0 16 0 (s86_5 x0 x1 x3 true) (e86 J m w86_1 [M1]))
  else
  (bif (x2==240) then
  ((idxS x0 (IntKind.wrap .i64 (x1+1))).bind fun v11=>
  (bif (decide (v11<144)) then
  (jj J 0 16 0 (s86_5 x0 x1 x3 true) (e86 J m w86_1 [M1]))
  else
  (bif (x2==244) then
  ((idxS x0 (IntKind.wrap .i64 (x1+1))).bind fun v12=>
  (jj J 0 16 0 (s86_5 x0 x1 x3 (decide (143<v12))) (e86 J m w86_1 [M1])))
  else
  (jj J 0 16 0 (s86_5 x0 x1 x3 false) (e86 J m w86_1 [M1])))))
  else
  (bif (x2==244) then
  ((idxS x0 (IntKind.wrap .i64 (x1+1))).bind fun v13=>
  (jj J 0 16 0 (s86_5 x0 x1 x3 (decide (143<v13))) (e86 J m w86_1 [M1])))
  else
  (jj J 0 16 0 (s86_5 x0 x1 x3 false) (e86 J m w86_1 [M1]))))))
  else
  (bif (x2==240) then
  ((idxS x0 (IntKind.wrap .i64 (x1+1))).bind fun v14=>
  (bif (decide (v14<144)) then
  (jj J 0 16 0 (s86_5 x0 x1 x3 true) (e86 J m w86_1 [M1]))
  else
  (bif (x2==244) then
  ((idxS x0 (IntKind.wrap .i64 (x1+1))).bind fun v15=>
  (jj J 0 16 0 (s86_5 x0 x1 x3 (decide (143<v15))) (e86 J m w86_1 [M1])))
  else
  (jj J 0 16 0 (s86_5 x0 x1 x3 false) (e86 J m w86_1 [M1])))))
  else
  (bif (x2==244) then
  ((idxS x0 (IntKind.wrap .i64 (x1+1))).bind fun v16=>
  (jj J 0 16 0 (s86_5 x0 x1 x3 (decide (143<v16))) (e86 J m w86_1 [M1])))
  else
  (jj J 0 16 0 (s86_5 x0 x1 x3 false) (e86 J m w86_1 [M1]))))))) (fun J=>by kernel_rfl) (by simp only[jj_eq,ref01_UTF8_j5_eq m M1 rec1 h1];rfl)
theorem ref01_UTF8_j3_eq m M1 rec1 (h1:H86_1 m M1 rec1) x0 x1 x2 x3:e86 jn m w86_3 [M1] (s86_4 x0 x1 x2 x3)=ref01_UTF8_j3 m rec1 x0 x1 x2 x3:=
 tre (g:=fun J=>((ref01_tail m x0 (IntKind.wrap .i64 (x1+1)) x3).bind fun r1=>
  (bif (Bool.not r1) then
  some false
  else
  (jj J 0 15 0 (s86_4 x0 x1 x2 x3) (e86 J m w86_2 [M1]))))) (fun J=>by kernel_rfl) (by simp only[jj_eq,ref01_UTF8_j4_eq m M1 rec1 h1];rfl)
theorem ref01_UTF8_j9_eq m M1 rec1 (h1:H86_1 m M1 rec1) x0 x1 x2 x3:e86 jn m w86_4 [M1] (s86_9 x0 x1 x2 x3)=ref01_UTF8_j9 m rec1 x0 x1 x2 x3:=
 tre (g:=fun J=>(bif x3 then
  (jj J 0 13 0 (s86_4 x0 x1 x2 3) (e86 J m w86_3 [M1]))
   else
  some false)) (fun J=>by kernel_rfl) (by simp only[jj_eq,ref01_UTF8_j3_eq m M1 rec1 h1];rfl)
theorem ref01_UTF8_j8_eq m M1 rec1 (h1:H86_1 m M1 rec1) x0 x1 x2 x3:e86 jn m w86_5 [M1] (s86_8 x0 x1 x2 x3)=ref01_UTF8_j8 m rec1 x0 x1 x2 x3:=
 tre (g:=fun J=>(bif x3 then
  (jj J 0 13 0 (s86_4 x0 x1 x2 2) (e86 J m w86_3 [M1]))
   else
  (bif (decide (240≤x2)) then
  (jj J 0 12 0 (s86_9 x0 x1 x2 (decide (x2≤244))) (e86 J m w86_4 [M1]))
  else
  (jj J 0 12 0 (s86_9 x0 x1 x2 false) (e86 J m w86_4 [M1]))))) (fun J=>by kernel_rfl) (by simp only[jj_eq,ref01_UTF8_j3_eq m M1 rec1 h1,ref01_UTF8_j9_eq m M1 rec1 h1];rfl)
theorem ref01_UTF8_j7_eq m M1 rec1 (h1:H86_1 m M1 rec1) x0 x1 x2 x3:e86 jn m w86_6 [M1] (s86_7 x0 x1 x2 x3)=ref01_UTF8_j7 m rec1 x0 x1 x2 x3:=
 tre (g:=fun J=>(bif x3 then
  (jj J 0 13 0 (s86_4 x0 x1 x2 1) (e86 J m w86_3 [M1]))
   else
  (bif (decide (224≤x2)) then
  (jj J 0 10 0 (s86_8 x0 x1 x2 (decide (x2≤239))) (e86 J m w86_5 [M1]))
  else
  (jj J 0 10 0 (s86_8 x0 x1 x2 false) (e86 J m w86_5 [M1]))))) (fun J=>by kernel_rfl) (by simp only[jj_eq,ref01_UTF8_j3_eq m M1 rec1 h1,ref01_UTF8_j8_eq m M1 rec1 h1];rfl)
theorem ref01_UTF8_j2_eq m M1 rec1 (h1:H86_1 m M1 rec1) x0 x1:e86 jn m w86_7 [M1] (s86_2 x0 x1)=ref01_UTF8_j2 m rec1 x0 x1:=
 tre (g:=fun J=>((idxS x0 x1).bind fun v0=>
  (bif (decide (v0<128)) then
  (jj J 0 13 0 (s86_4 x0 x1 v0 0) (e86 J m w86_3 [M1]))
  else
  (bif (decide (194≤v0)) then
  (jj J 0 8 0 (s86_7 x0 x1 v0 (decide (v0≤223))) (e86 J m w86_6 [M1]))
  else
  (jj J 0 8 0 (s86_7 x0 x1 v0 false) (e86 J m w86_6 [M1])))))) (fun J=>by kernel_rfl) (by simp only[jj_eq,ref01_UTF8_j3_eq m M1 rec1 h1,ref01_UTF8_j7_eq m M1 rec1 h1];rfl)
theorem ref01_UTF8_j10_eq m:e86 jn m [1,1] [] s86_10=ref01_UTF8_j10 m:=
 tre (g:=fun J=>some true) (fun J=>by kernel_rfl) (by rfl)
theorem ref01_UTF8_l1_eq m:∀M1 x0 x1,l86 jn m [1,0,1,0] [] M1 (s86_2 x0 x1)=ref01_UTF8_l1 m M1 x0 x1
 |0,_,_=>rfl
 | M1+1,x0,x1=>
   trl (g:=fun J=>(bif (decide (x1<(ByteArray.size x0:Int))) then
  (jj J 0 3 0 (s86_2 x0 x1) (e86 J m w86_7 [M1]))
   else
  (jj J 0 18 0 s86_10 (e86 J m [1,1] [])))) (fun J=>by kernel_rfl) (by simp only[jj_eq,ref01_UTF8_j2_eq m M1 (ref01_UTF8_l1 m M1) (ref01_UTF8_l1_eq m M1),ref01_UTF8_j10_eq m];rfl)
theorem ref01_UTF8_j0_eq m x0 x1:e86 jn m [1,0,1] [] (s86_2 x0 x1)=ref01_UTF8_j0 m x0 x1:=
 tre (g:=fun J=>(jj J 1 2 (Nat.succ m) (s86_2 x0 x1) (l86 J m [1,0,1,0] [] (Nat.succ m)))) (fun J=>by kernel_rfl) (by simp only[jj_eq,ref01_UTF8_l1_eq m];rfl)
theorem ref01_UTF8_eq m a0:e86 jn m [] [] ⟨[(.dat 9 (.str a0))],[],0⟩=ref01_UTF8 (m+1) a0:=
 tre (g:=fun J=>(jj J 0 2 0 (s86_2 a0 0) (e86 J m [1,0,1] []))) (fun J=>by kernel_rfl) (by simp only[jj_eq,ref01_UTF8_j0_eq m];rfl)
def w90_0:List Nat:=[1,1,0,1,0]
def w90_3:List Nat:=[1,1,0,1,0,0,1]
def w90_1:List Nat:=w90_3++[1]
def w90_2:List Nat:=w90_3++[0,0,1]
noncomputable def e90 (J:Nat→Nat→Nat→St→Option Bool→Option Bool) (m:Nat) (p ms:List Nat) (σ:St):=evAt Tryz.prog env (ct m) J (m+1) 103 28 Tryz.f103 d13 p ms σ
noncomputable def l90 (J:Nat→Nat→Nat→St→Option Bool→Option Bool) (m:Nat) (p ms:List Nat) (M:Nat) (σ:St):=loopAt Tryz.prog env (ct m) J (m+1) 103 28 Tryz.f103 d13 p ms M σ
noncomputable def s90_6 (x0:ByteArray) (x1:Int):St:=⟨tsOf [(0,(.dat 9 (.str x0))),(3,(.dat 3 (.int x1)))],[],0⟩
noncomputable def s90_5 (x0:ByteArray) (x1:Int) (x2:Bool):St:=⟨tsOf [(0,(.dat 9 (.str x0))),(3,(.dat 3 (.int x1))),(27,(.dat 4 (.bool x2)))],[],0⟩
noncomputable def s90_7:St:=⟨tsOf [],[],0⟩
noncomputable def s90_1 (x0:ByteArray):St:=⟨tsOf [(0,(.dat 9 (.str x0)))],[],0⟩
noncomputable def s90_0 (x0:ByteArray) (x1:Bool):St:=⟨tsOf [(0,(.dat 9 (.str x0))),(11,(.dat 4 (.bool x1)))],[],0⟩
abbrev H90_3 (m M3:Nat) (rec3:ByteArray→Int→Option Bool):Prop:=∀x0 x1,l90 jn m w90_0 [] M3 (s90_6 x0 x1)=rec3 x0 x1
theorem ref01_wide_j6_eq m M3 rec3 (h3:H90_3 m M3 rec3) x0 x1:e90 jn m w90_1 [M3] (s90_6 x0 x1)=ref01_wide_j6 m rec3 x0 x1:=
 tre (g:=fun J=>(jj J 1 4 M3 (s90_6 x0 (IntKind.wrap .i64 (x1+1))) (l90 J m w90_0 [] M3))) (fun J=>by kernel_rfl) (by simp only[jj_eq,h3];rfl)
theorem ref01_wide_j5_eq m M3 rec3 (h3:H90_3 m M3 rec3) x0 x1 x2:e90 jn m w90_2 [M3] (s90_5 x0 x1 x2)=ref01_wide_j5 m rec3 x0 x1 x2:=
 tre (g:=fun J=>(bif x2 then
  some false
   else
  (jj J 0 5 0 (s90_6 x0 x1) (e90 J m w90_1 [M3])))) (fun J=>by kernel_rfl) (by simp only[jj_eq,ref01_wide_j6_eq m M3 rec3 h3];rfl)
theorem ref01_wide_j4_eq m M3 rec3 (h3:H90_3 m M3 rec3) x0 x1:e90 jn m w90_3 [M3] (s90_6 x0 x1)=ref01_wide_j4 m rec3 x0 x1:=
 tre (g:=fun J=>((idxS x0 x1).bind fun v0=>
  (bif (decide (v0<32)) then
  (jj J 0 7 0 (s90_5 x0 x1 true) (e90 J m w90_2 [M3]))
  else
  ((idxS x0 x1).bind fun v1=>
  (jj J 0 7 0 (s90_5 x0 x1 (decide (126<v1))) (e90 J m w90_2 [M3])))))) (fun J=>by kernel_rfl) (by simp only[jj_eq,ref01_wide_j5_eq m M3 rec3 h3];rfl)
theorem ref01_wide_j7_eq m:e90 jn m [1,1,1] [] s90_7=ref01_wide_j7 m:=
 tre (g:=fun J=>some true) (fun J=>by kernel_rfl) (by rfl)
theorem ref01_wide_l3_eq m:∀M3 x0 x1,l90 jn m w90_0 [] M3 (s90_6 x0 x1)=ref01_wide_l3 m M3 x0 x1
 |0,_,_=>rfl
 | M3+1,x0,x1=>
   trl (g:=fun J=>(bif (decide (x1<(ByteArray.size x0:Int))) then
  (jj J 0 6 0 (s90_6 x0 x1) (e90 J m w90_3 [M3]))
   else
  (jj J 0 8 0 s90_7 (e90 J m [1,1,1] [])))) (fun J=>by kernel_rfl) (by simp only[jj_eq,ref01_wide_j4_eq m M3 (ref01_wide_l3 m M3) (ref01_wide_l3_eq m M3),ref01_wide_j7_eq m];rfl)
theorem ref01_wide_j2_eq m x0 x1:e90 jn m [1,1,0,1] [] (s90_6 x0 x1)=ref01_wide_j2 m x0 x1:=
 tre (g:=fun J=>(jj J 1 4 (Nat.succ m) (s90_6 x0 x1) (l90 J m w90_0 [] (Nat.succ m)))) (fun J=>by kernel_rfl) (by simp only[jj_eq,ref01_wide_l3_eq m];rfl)
theorem ref01_wide_j1_eq m x0:e90 jn m [1,1] [] (s90_1 x0)=ref01_wide_j1 m x0:=
 tre (g:=fun J=>(jj J 0 4 0 (s90_6 x0 0) (e90 J m [1,1,0,1] []))) (fun J=>by kernel_rfl) (by simp only[jj_eq,ref01_wide_j2_eq m];rfl)
theorem ref01_wide_j0_eq m x0 x1:e90 jn m [1,0,1] [] (s90_0 x0 x1)=ref01_wide_j0 m x0 x1:=
 tre (g:=fun J=>(bif x1 then
  some false
   else
  (jj J 0 3 0 (s90_1 x0) (e90 J m [1,1] [])))) (fun J=>by kernel_rfl) (by simp only[jj_eq,ref01_wide_j1_eq m];rfl)
theorem ref01_wide_eq m a0:e90 jn m [] [] ⟨[(.dat 9 (.str a0))],[],0⟩=ref01_wide (m+1) a0:=
 tre (g:=fun J=>(bif (decide ((ByteArray.size a0:Int)<1)) then
  (jj J 0 2 0 (s90_0 a0 true) (e90 J m [1,0,1] []))
   else
  (jj J 0 2 0 (s90_0 a0 (decide (128<(ByteArray.size a0:Int)))) (e90 J m [1,0,1] [])))) (fun J=>by kernel_rfl) (by simp only[jj_eq,ref01_wide_j0_eq m];rfl)
def w78_6:List Nat:=[1,1,1,1,1]
def w78_5:List Nat:=[1,1,1,1,1,1]
def w78_7:List Nat:=[1,1,1,1,0,1]
def w78_3:List Nat:=w78_5++[1]
def w78_4:List Nat:=w78_5++[0,1]
def w78_0:List Nat:=w78_4++[0]
def w78_2:List Nat:=w78_0++[0,1]
def w78_1:List Nat:=w78_2++[1]
noncomputable def e78 (J:Nat→Nat→Nat→St→Option Bool→Option Bool) (m:Nat) (p ms:List Nat) (σ:St):=evAt Tryz.prog env (ct m) J (m+1) 40 138 Tryz.f40 d13 p ms σ
noncomputable def l78 (J:Nat→Nat→Nat→St→Option Bool→Option Bool) (m:Nat) (p ms:List Nat) (M:Nat) (σ:St):=loopAt Tryz.prog env (ct m) J (m+1) 40 138 Tryz.f40 d13 p ms M σ
noncomputable def s78_10 (x0:Bool) (x1:Int) (x2:Dt):St:=⟨tsOf [(1,(.dat 4 (.bool x0))),(2,(.ptr 0 [] 0)),(7,(.dat 3 (.int x1)))],[(.box 25 (.dat 25 x2))],0⟩
noncomputable def s78_11 (x0:Bool) (x1:Dt):St:=⟨tsOf [(1,(.dat 4 (.bool x0))),(2,(.ptr 0 [] 0))],[(.box 25 (.dat 25 x1))],0⟩
noncomputable def s78_4 (x0 x1:Bool) (x2:Dt):St:=⟨tsOf [(1,(.dat 4 (.bool x0))),(2,(.ptr 0 [] 0)),(79,(.dat 4 (.bool x1)))],[(.box 25 (.dat 25 x2))],0⟩
noncomputable def s78_3 (x0 x1 x2:Bool) (x3:Dt):St:=⟨tsOf [(1,(.dat 4 (.bool x0))),(2,(.ptr 0 [] 0)),(5,(.dat 4 (.bool x1))),(6,(.dat 4 (.bool x2)))],[(.box 25 (.dat 25 x3))],0⟩
noncomputable def s78_2 (x0 x1:Bool) (x2:Dt):St:=⟨tsOf [(1,(.dat 4 (.bool x0))),(2,(.ptr 0 [] 0)),(5,(.dat 4 (.bool x1)))],[(.box 25 (.dat 25 x2))],0⟩
noncomputable def s78_0 (x0 x1:Bool) (x2:Dt):St:=⟨tsOf [(1,(.dat 4 (.bool x0))),(2,(.ptr 0 [] 0)),(27,(.dat 4 (.bool x1)))],[(.box 25 (.dat 25 x2))],0⟩
abbrev H78_8 (m M8:Nat) (rec8:Bool→Int→Dt→Option Bool):Prop:=∀x0 x1 x2,l78 jn m w78_0 [] M8 (s78_10 x0 x1 x2)=rec8 x0 x1 x2
theorem ref01_formed_j10_eq m M8 rec8 (h8:H78_8 m M8 rec8) x0 x1 x2:e78 jn m w78_1 [M8] (s78_10 x0 x1 x2)=ref01_formed_j10 m (ref01_formed m) (ref01_fields m) rec8 x0 x1 x2:=
 tre (g:=fun J=>(jj J 1 19 M8 (s78_10 x0 (IntKind.wrap .i64 (x1+1)) x2) (l78 J m w78_0 [] M8))) (fun J=>by kernel_rfl) (by simp only[jj_eq,h8];rfl)
theorem ref01_formed_j9_eq m M8 rec8 (h8:H78_8 m M8 rec8) x0 x1 x2:e78 jn m w78_2 [M8] (s78_10 x0 x1 x2)=ref01_formed_j9 m (ref01_formed m) (ref01_fields m) rec8 x0 x1 x2:=
 tre (g:=fun J=>((idx (Dt.L x2 3) x1).bind fun v1=>
  ((ref01_formed m v1 x0).bind fun r2=>
  (bif (Bool.not r2) then
  some false
  else
  (jj J 0 20 0 (s78_10 x0 x1 x2) (e78 J m w78_1 [M8])))))) (fun J=>by kernel_rfl) (by simp only[jj_eq,ref01_formed_j10_eq m M8 rec8 h8];rfl)
theorem ref01_formed_j11_eq m x0 x1:e78 jn m w78_3 [] (s78_11 x0 x1)=ref01_formed_j11 m (ref01_formed m) (ref01_fields m) x0 x1:=
 tre (g:=fun J=>((ref01_fields m x1 x0).bind fun r3=>
  some r3)) (fun J=>by kernel_rfl) (by rfl)
theorem ref01_formed_l8_eq m:∀M8 x0 x1 x2,l78 jn m w78_0 [] M8 (s78_10 x0 x1 x2)=ref01_formed_l8 m (ref01_formed m) (ref01_fields m) M8 x0 x1 x2
 |0,_,_,_=>rfl
 | M8+1,x0,x1,x2=>
   trl (g:=fun J=>(bif (decide (x1<(List.length (Dt.L x2 3):Int))) then
  (jj J 0 21 0 (s78_10 x0 x1 x2) (e78 J m w78_2 [M8]))
   else
  (jj J 0 23 0 (s78_11 x0 x2) (e78 J m w78_3 [])))) (fun J=>by kernel_rfl) (by simp only[jj_eq,ref01_formed_j9_eq m M8 (ref01_formed_l8 m (ref01_formed m) (ref01_fields m) M8) (ref01_formed_l8_eq m M8),ref01_formed_j11_eq m];rfl)
theorem ref01_formed_j7_eq m x0 x1 x2:e78 jn m w78_4 [] (s78_10 x0 x1 x2)=ref01_formed_j7 m (ref01_formed m) (ref01_fields m) x0 x1 x2:=
 tre (g:=fun J=>(jj J 1 19 (Nat.succ m) (s78_10 x0 x1 x2) (l78 J m w78_0 [] (Nat.succ m)))) (fun J=>by kernel_rfl) (by simp only[jj_eq,ref01_formed_l8_eq m];rfl)
theorem ref01_formed_j6_eq m x0 x1:e78 jn m w78_5 [] (s78_11 x0 x1)=ref01_formed_j6 m (ref01_formed m) (ref01_fields m) x0 x1:=
 tre (g:=fun J=>(jj J 0 19 0 (s78_10 x0 0 x1) (e78 J m w78_4 []))) (fun J=>by kernel_rfl) (by simp only[jj_eq,ref01_formed_j7_eq m];rfl)
theorem ref01_formed_j5_eq m x0 x1:e78 jn m w78_6 [] (s78_11 x0 x1)=ref01_formed_j5 m (ref01_formed m) (ref01_fields m) x0 x1:=
 tre (g:=fun J=>(bif ((Dt.I x1 0)==9) then
  (bif ((Dt.I x1 1)==0) then
  some true
  else
  some ((Dt.I x1 1)==1))
   else
  (bif ((Dt.I x1 0)==10) then
  some (decide (0≤(Dt.I x1 1)))
  else
  (bif ((Dt.I x1 0)==4) then
  (bif (decide ((ByteArray.size (Dt.S x1 2):Int)≤4096)) then
  ((ref01_UTF8 m (Dt.S x1 2)).bind fun r0=>
  some r0)
  else
  some false)
  else
  (bif ((Dt.I x1 0)==7) then
  some (decide ((ByteArray.size (Dt.S x1 2):Int)≤4096))
  else
  (bif ((Dt.I x1 0)==8) then
  some ((ByteArray.size (Dt.S x1 2):Int)==12)
  else
  (jj J 0 18 0 (s78_11 x0 x1) (e78 J m w78_5 [])))))))) (fun J=>by kernel_rfl) (by simp only[jj_eq,ref01_formed_j6_eq m];rfl)
theorem ref01_formed_j4_eq m x0 x1 x2:e78 jn m w78_7 [] (s78_4 x0 x1 x2)=ref01_formed_j4 m (ref01_formed m) (ref01_fields m) x0 x1 x2:=
 tre (g:=fun J=>(bif x1 then
  some false
   else
  (jj J 0 7 0 (s78_11 x0 x2) (e78 J m w78_6 [])))) (fun J=>by kernel_rfl) (by simp only[jj_eq,ref01_formed_j5_eq m];rfl)
theorem ref01_formed_j3_eq m x0 x1 x2 x3:e78 jn m [1,1,1,1] [] (s78_3 x0 x1 x2 x3)=ref01_formed_j3 m (ref01_formed m) (ref01_fields m) x0 x1 x2 x3:=
 tre (g:=fun J=>(bif (Bool.not x1) then
  (bif (Bool.not ((ByteArray.toList (Dt.S x3 2))==[])) then
  (jj J 0 6 0 (s78_4 x0 true x3) (e78 J m w78_7 []))
  else
  (bif (Bool.not x2) then
  (bif ((Dt.I x3 1) !=0) then
  (jj J 0 6 0 (s78_4 x0 true x3) (e78 J m w78_7 []))
  else
  (bif (decide ((Dt.I x3 0)<1)) then
  (jj J 0 6 0 (s78_4 x0 true x3) (e78 J m w78_7 []))
  else
  (jj J 0 6 0 (s78_4 x0 (decide (11<(Dt.I x3 0))) x3) (e78 J m w78_7 []))))
  else
  (bif (decide ((Dt.I x3 0)<1)) then
  (jj J 0 6 0 (s78_4 x0 true x3) (e78 J m w78_7 []))
  else
  (jj J 0 6 0 (s78_4 x0 (decide (11<(Dt.I x3 0))) x3) (e78 J m w78_7 [])))))
   else
  (bif (Bool.not x2) then
  (bif ((Dt.I x3 1) !=0) then
  (jj J 0 6 0 (s78_4 x0 true x3) (e78 J m w78_7 []))
  else
  (bif (decide ((Dt.I x3 0)<1)) then
  (jj J 0 6 0 (s78_4 x0 true x3) (e78 J m w78_7 []))
  else
  (jj J 0 6 0 (s78_4 x0 (decide (11<(Dt.I x3 0))) x3) (e78 J m w78_7 []))))
  else
  (bif (decide ((Dt.I x3 0)<1)) then
  (jj J 0 6 0 (s78_4 x0 true x3) (e78 J m w78_7 []))
  else
  (jj J 0 6 0 (s78_4 x0 (decide (11<(Dt.I x3 0))) x3) (e78 J m w78_7 [])))))) (fun J=>by kernel_rfl) (by simp only[jj_eq,ref01_formed_j4_eq m];rfl)
theorem ref01_formed_j2_eq m x0 x1 x2:e78 jn m [1,1,1] [] (s78_2 x0 x1 x2)=ref01_formed_j2 m (ref01_formed m) (ref01_fields m) x0 x1 x2:=
 tre (g:=fun J=>(bif ((Dt.I x2 0)==3) then
  (jj J 0 5 0 (s78_3 x0 x1 true x2) (e78 J m [1,1,1,1] []))
   else
  (bif ((Dt.I x2 0)==9) then
  (jj J 0 5 0 (s78_3 x0 x1 true x2) (e78 J m [1,1,1,1] []))
  else
  (jj J 0 5 0 (s78_3 x0 x1 ((Dt.I x2 0)==10) x2) (e78 J m [1,1,1,1] []))))) (fun J=>by kernel_rfl) (by simp only[jj_eq,ref01_formed_j3_eq m];rfl)
theorem ref01_formed_j1_eq m x0 x1:e78 jn m [1,1] [] (s78_11 x0 x1)=ref01_formed_j1 m (ref01_formed m) (ref01_fields m) x0 x1:=
 tre (g:=fun J=>(bif ((Dt.I x1 0)==4) then
  (jj J 0 4 0 (s78_2 x0 true x1) (e78 J m [1,1,1] []))
   else
  (bif ((Dt.I x1 0)==7) then
  (jj J 0 4 0 (s78_2 x0 true x1) (e78 J m [1,1,1] []))
  else
  (jj J 0 4 0 (s78_2 x0 ((Dt.I x1 0)==8) x1) (e78 J m [1,1,1] []))))) (fun J=>by kernel_rfl) (by simp only[jj_eq,ref01_formed_j2_eq m];rfl)
theorem ref01_formed_j0_eq m x0 x1 x2:e78 jn m [1,0,1] [] (s78_0 x0 x1 x2)=ref01_formed_j0 m (ref01_formed m) (ref01_fields m) x0 x1 x2:=
 tre (g:=fun J=>(bif x1 then
  some false
   else
  (jj J 0 3 0 (s78_11 x0 x2) (e78 J m [1,1] [])))) (fun J=>by kernel_rfl) (by simp only[jj_eq,ref01_formed_j1_eq m];rfl)
theorem ref01_formed_eq m a0 a1:e78 jn m [] [] ⟨[(.dat 25 a0),(.dat 4 (.bool a1))],[],0⟩=ref01_formed (m+1) a0 a1:=
 tre (g:=fun J=>(bif ((Dt.I a0 0) !=6) then
  (bif (decide (0<(List.length (Dt.L a0 3):Int))) then
  (jj J 0 2 0 (s78_0 a1 true a0) (e78 J m [1,0,1] []))
  else
  (bif ((Dt.I a0 0) !=5) then
  (jj J 0 2 0 (s78_0 a1 (decide (0<(List.length (Dt.L a0 4):Int))) a0) (e78 J m [1,0,1] []))
  else
  (jj J 0 2 0 (s78_0 a1 false a0) (e78 J m [1,0,1] []))))
   else
  (bif ((Dt.I a0 0) !=5) then
  (jj J 0 2 0 (s78_0 a1 (decide (0<(List.length (Dt.L a0 4):Int))) a0) (e78 J m [1,0,1] []))
  else
  (jj J 0 2 0 (s78_0 a1 false a0) (e78 J m [1,0,1] []))))) (fun J=>by kernel_rfl) (by simp only[jj_eq,ref01_formed_j0_eq m];rfl)
def w87_7:List Nat:=[1,0,1,0,0,1]
def w87_3:List Nat:=w87_7++[1]
def w87_5:List Nat:=w87_7++[0,0,1,1]
def w87_4:List Nat:=w87_5++[1]
def w87_6:List Nat:=w87_7++[0,0,1,0,1]
def w87_0:List Nat:=w87_4++[0]
def w87_2:List Nat:=w87_0++[0,1]
def w87_1:List Nat:=w87_2++[1]
noncomputable def e87 (J:Nat→Nat→Nat→St→Option Bool→Option Bool) (m:Nat) (p ms:List Nat) (σ:St):=evAt Tryz.prog env (ct m) J (m+1) 73 58 Tryz.f73 d13 p ms σ
noncomputable def l87 (J:Nat→Nat→Nat→St→Option Bool→Option Bool) (m:Nat) (p ms:List Nat) (M:Nat) (σ:St):=loopAt Tryz.prog env (ct m) J (m+1) 73 58 Tryz.f73 d13 p ms M σ
noncomputable def s87_8 (x0:Bool) (x1 x2:Int) (x3 x4:Dt):St:=⟨tsOf [(1,(.dat 4 (.bool x0))),(2,(.ptr 0 [] 0)),(5,(.dat 3 (.int x1))),(6,(.ptr 1 [] 0)),(7,(.dat 3 (.int x2)))],[(.box 25 (.dat 25 x3)),(.box 53 (.dat 53 x4))],0⟩
noncomputable def s87_9 (x0:Bool) (x1:Int) (x2:Dt):St:=⟨tsOf [(1,(.dat 4 (.bool x0))),(2,(.ptr 0 [] 0)),(5,(.dat 3 (.int x1)))],[(.box 25 (.dat 25 x2))],0⟩
noncomputable def s87_4 (x0:Bool) (x1:Int) (x2 x3:Dt):St:=⟨tsOf [(1,(.dat 4 (.bool x0))),(2,(.ptr 0 [] 0)),(5,(.dat 3 (.int x1))),(6,(.ptr 1 [] 0))],[(.box 25 (.dat 25 x2)),(.box 53 (.dat 53 x3))],0⟩
noncomputable def s87_3 (x0:Bool) (x1:Int) (x2:Bool) (x3 x4:Dt):St:=⟨tsOf [(1,(.dat 4 (.bool x0))),(2,(.ptr 0 [] 0)),(5,(.dat 3 (.int x1))),(6,(.ptr 1 [] 0)),(43,(.dat 4 (.bool x2)))],[(.box 25 (.dat 25 x3)),(.box 53 (.dat 53 x4))],0⟩
noncomputable def s87_10:St:=⟨tsOf [],[],0⟩
abbrev H87_1 (m M1:Nat) (rec1:Bool→Int→Dt→Option Bool):Prop:=∀x0 x1 x2,l87 jn m [1,0,1,0] [] M1 (s87_9 x0 x1 x2)=rec1 x0 x1 x2
abbrev H87_6 (m M1 M6:Nat) (rec6:Bool→Int→Int→Dt→Dt→Option Bool):Prop:=∀x0 x1 x2 x3 x4,l87 jn m w87_0 [M1] M6 (s87_8 x0 x1 x2 x3 x4)=rec6 x0 x1 x2 x3 x4
theorem ref01_fields_j8_eq m M1 rec1 (h1:H87_1 m M1 rec1) M6 rec6 (h6:H87_6 m M1 M6 rec6) x0 x1 x2 x3 x4:e87 jn m w87_1 [M1,M6] (s87_8 x0 x1 x2 x3 x4)=ref01_fields_j8 m (ref01_formed m) rec1 rec6 x0 x1 x2 x3 x4:=
 tre (g:=fun J=>(jj J 1 8 M6 (s87_8 x0 x1 (IntKind.wrap .i64 (x2+1)) x3 x4) (l87 J m w87_0 [M1] M6))) (fun J=>by kernel_rfl) (by simp only[jj_eq,h6];rfl)
theorem ref01_fields_j7_eq m M1 rec1 (h1:H87_1 m M1 rec1) M6 rec6 (h6:H87_6 m M1 M6 rec6) x0 x1 x2 x3 x4:e87 jn m w87_2 [M1,M6] (s87_8 x0 x1 x2 x3 x4)=ref01_fields_j7 m (ref01_formed m) rec1 rec6 x0 x1 x2 x3 x4:=
 tre (g:=fun J=>((idx (Dt.L x3 4) x2).bind fun v2=>
  (bif ((ByteArray.toList (Dt.S v2 0))==(ByteArray.toList (Dt.S x4 0))) then
  some false
  else
  (jj J 0 9 0 (s87_8 x0 x1 x2 x3 x4) (e87 J m w87_1 [M1,M6]))))) (fun J=>by kernel_rfl) (by simp only[jj_eq,ref01_fields_j8_eq m M1 rec1 h1 M6 rec6 h6];rfl)
theorem ref01_fields_j9_eq m M1 rec1 (h1:H87_1 m M1 rec1) x0 x1 x2:e87 jn m w87_3 [M1] (s87_9 x0 x1 x2)=ref01_fields_j9 m (ref01_formed m) rec1 x0 x1 x2:=
 tre (g:=fun J=>(jj J 1 2 M1 (s87_9 x0 (IntKind.wrap .i64 (x1+1)) x2) (l87 J m [1,0,1,0] [] M1))) (fun J=>by kernel_rfl) (by simp only[jj_eq,h1];rfl)
theorem ref01_fields_l6_eq m M1 rec1 (h1:H87_1 m M1 rec1):∀M6 x0 x1 x2 x3 x4,l87 jn m w87_0 [M1] M6 (s87_8 x0 x1 x2 x3 x4)=ref01_fields_l6 m (ref01_formed m) rec1 M6 x0 x1 x2 x3 x4
 |0,_,_,_,_,_=>rfl
 | M6+1,x0,x1,x2,x3,x4=>
   trl (g:=fun J=>(bif (decide (x2<x1)) then
  (jj J 0 10 0 (s87_8 x0 x1 x2 x3 x4) (e87 J m w87_2 [M1,M6]))
   else
  (jj J 0 3 0 (s87_9 x0 x1 x3) (e87 J m w87_3 [M1])))) (fun J=>by kernel_rfl) (by simp only[jj_eq,ref01_fields_j7_eq m M1 rec1 h1 M6 (ref01_fields_l6 m (ref01_formed m) rec1 M6) (ref01_fields_l6_eq m M1 rec1 h1 M6),ref01_fields_j9_eq m M1 rec1 h1];rfl)
theorem ref01_fields_j5_eq m M1 rec1 (h1:H87_1 m M1 rec1) x0 x1 x2 x3 x4:e87 jn m w87_4 [M1] (s87_8 x0 x1 x2 x3 x4)=ref01_fields_j5 m (ref01_formed m) rec1 x0 x1 x2 x3 x4:=
 tre (g:=fun J=>(jj J 1 8 (Nat.succ m) (s87_8 x0 x1 x2 x3 x4) (l87 J m w87_0 [M1] (Nat.succ m)))) (fun J=>by kernel_rfl) (by simp only[jj_eq,ref01_fields_l6_eq m M1 rec1 h1];rfl)
theorem ref01_fields_j4_eq m M1 rec1 (h1:H87_1 m M1 rec1) x0 x1 x2 x3:e87 jn m w87_5 [M1] (s87_4 x0 x1 x2 x3)=ref01_fields_j4 m (ref01_formed m) rec1 x0 x1 x2 x3:=
 tre (g:=fun J=>(jj J 0 8 0 (s87_8 x0 x1 0 x2 x3) (e87 J m w87_4 [M1]))) (fun J=>by kernel_rfl) (by simp only[jj_eq,ref01_fields_j5_eq m M1 rec1 h1];rfl)
theorem ref01_fields_j3_eq m M1 rec1 (h1:H87_1 m M1 rec1) x0 x1 x2 x3 x4:e87 jn m w87_6 [M1] (s87_3 x0 x1 x2 x3 x4)=ref01_fields_j3 m (ref01_formed m) rec1 x0 x1 x2 x3 x4:=
 tre (g:=fun J=>(bif x2 then
  some false
   else
  (jj J 0 7 0 (s87_4 x0 x1 x3 x4) (e87 J m w87_5 [M1])))) (fun J=>by kernel_rfl) (by simp only[jj_eq,ref01_fields_j4_eq m M1 rec1 h1];rfl)
theorem ref01_fields_j2_eq m M1 rec1 (h1:H87_1 m M1 rec1) x0 x1 x2:e87 jn m w87_7 [M1] (s87_9 x0 x1 x2)=ref01_fields_j2 m (ref01_formed m) rec1 x0 x1 x2:=
 tre (g:=fun J=>((idx (Dt.L x2 4) x1).bind fun v0=>
  (bif x0 then
  ((ref01_Name m (Dt.S v0 0)).bind fun r1=>
  (bif (Bool.not r1) then
  (jj J 0 6 0 (s87_3 x0 x1 true x2 v0) (e87 J m w87_6 [M1]))
  else
  (bif (Bool.not x0) then
  ((ref01_wide m (Dt.S v0 0)).bind fun r3=>
  (bif (Bool.not r3) then
  (jj J 0 6 0 (s87_3 x0 x1 true x2 v0) (e87 J m w87_6 [M1]))
  else
  ((ref01_formed m (Dt.fld v0 1) x0).bind fun r4=>
  (jj J 0 6 0 (s87_3 x0 x1 (Bool.not r4) x2 v0) (e87 J m w87_6 [M1])))))
  else
  ((ref01_formed m (Dt.fld v0 1) x0).bind fun r5=>
  (jj J 0 6 0 (s87_3 x0 x1 (Bool.not r5) x2 v0) (e87 J m w87_6 [M1]))))))
  else
  (bif (Bool.not x0) then
  ((ref01_wide m (Dt.S v0 0)).bind fun r6=>
  (bif (Bool.not r6) then
  (jj J 0 6 0 (s87_3 x0 x1 true x2 v0) (e87 J m w87_6 [M1]))
  else
  ((ref01_formed m (Dt.fld v0 1) x0).bind fun r7=>
  (jj J 0 6 0 (s87_3 x0 x1 (Bool.not r7) x2 v0) (e87 J m w87_6 [M1])))))
  else
  ((ref01_formed m (Dt.fld v0 1) x0).bind fun r8=>
  (jj J 0 6 0 (s87_3 x0 x1 (Bool.not r8) x2 v0) (e87 J m w87_6 [M1]))))))) (fun J=>by kernel_rfl) (by simp only[jj_eq,ref01_fields_j3_eq m M1 rec1 h1];rfl)
theorem ref01_fields_j10_eq m:e87 jn m [1,1] [] s87_10=ref01_fields_j10 m (ref01_formed m):=
 tre (g:=fun J=>some true) (fun J=>by kernel_rfl) (by rfl)
theorem ref01_fields_l1_eq m:∀M1 x0 x1 x2,l87 jn m [1,0,1,0] [] M1 (s87_9 x0 x1 x2)=ref01_fields_l1 m (ref01_formed m) M1 x0 x1 x2
 |0,_,_,_=>rfl
 | M1+1,x0,x1,x2=>
   trl (g:=fun J=>(bif (decide (x1<(List.length (Dt.L x2 4):Int))) then
  (jj J 0 4 0 (s87_9 x0 x1 x2) (e87 J m w87_7 [M1]))
   else
  (jj J 0 12 0 s87_10 (e87 J m [1,1] [])))) (fun J=>by kernel_rfl) (by simp only[jj_eq,ref01_fields_j2_eq m M1 (ref01_fields_l1 m (ref01_formed m) M1) (ref01_fields_l1_eq m M1),ref01_fields_j10_eq m];rfl)
theorem ref01_fields_j0_eq m x0 x1 x2:e87 jn m [1,0,1] [] (s87_9 x0 x1 x2)=ref01_fields_j0 m (ref01_formed m) x0 x1 x2:=
 tre (g:=fun J=>(jj J 1 2 (Nat.succ m) (s87_9 x0 x1 x2) (l87 J m [1,0,1,0] [] (Nat.succ m)))) (fun J=>by kernel_rfl) (by simp only[jj_eq,ref01_fields_l1_eq m];rfl)
theorem ref01_fields_eq m a0 a1:e87 jn m [] [] ⟨[(.dat 25 a0),(.dat 4 (.bool a1))],[],0⟩=ref01_fields (m+1) a0 a1:=
 tre (g:=fun J=>(jj J 0 2 0 (s87_9 a1 0 a0) (e87 J m [1,0,1] []))) (fun J=>by kernel_rfl) (by simp only[jj_eq,ref01_fields_j0_eq m];rfl)
noncomputable def e69 (J:Nat→Nat→Nat→St→Option Bool→Option Bool) (m:Nat) (p ms:List Nat) (σ:St):=evAt Tryz.prog env (ct m) J (m+1) 107 15 Tryz.f107 d13 p ms σ
noncomputable def l69 (J:Nat→Nat→Nat→St→Option Bool→Option Bool) (m:Nat) (p ms:List Nat) (M:Nat) (σ:St):=loopAt Tryz.prog env (ct m) J (m+1) 107 15 Tryz.f107 d13 p ms M σ
theorem ref01_Valid_eq m a0:e69 jn m [] [] ⟨[(.dat 25 a0)],[],0⟩=ref01_Valid (m+1) a0:=
 tre (g:=fun J=>((ref01_Depth m a0).bind fun r0=>
  (bif (decide (r0≤16)) then
  ((ref01_Nodes m a0).bind fun r1=>
  (bif (decide (r1≤1024)) then
  ((ref01_formed m a0 true).bind fun r2=>
  some r2)
  else
  some false))
  else
  some false))) (fun J=>by kernel_rfl) (by rfl)
noncomputable def e68 (J:Nat→Nat→Nat→St→Option Bool→Option Bool) (m:Nat) (p ms:List Nat) (σ:St):=evAt Tryz.prog env (ct m) J (m+1) 106 21 Tryz.f106 d13 p ms σ
noncomputable def l68 (J:Nat→Nat→Nat→St→Option Bool→Option Bool) (m:Nat) (p ms:List Nat) (M:Nat) (σ:St):=loopAt Tryz.prog env (ct m) J (m+1) 106 21 Tryz.f106 d13 p ms M σ
theorem ref14_unused_eq m a0 a1:e68 jn m [] [] ⟨[(.dat 4 (.bool a0)),(.dat 25 a1)],[],0⟩=ref14_unused (m+1) a0 a1:=
 tre (g:=fun J=>(bif a0 then
  ((ref01_Valid m a1).bind fun r0=>
  (bif (Bool.not r0) then
  some true
  else
  (bif (Bool.not a0) then
  ((ref01_Same m a1 kza2373).bind fun r1=>
  some (Bool.not r1))
  else
  some false)))
   else
  (bif (Bool.not a0) then
  ((ref01_Same m a1 kza2373).bind fun r2=>
  some (Bool.not r2))
  else
  some false))) (fun J=>by kernel_rfl) (by rfl)
def w58_0:List Nat:=[1,1,0,1,0]
def w58_10:List Nat:=[1,1,1,1,1]
def w58_12:List Nat:=[1,1,1,0,1]
def w58_8:List Nat:=[1,1,1,1,1,1]
def w58_11:List Nat:=[1,1,1,1,0,1]
def w58_2:List Nat:=[1,1,0,1,0,0,1]
def w58_6:List Nat:=w58_8++[1]
def w58_9:List Nat:=[1,1,1,1,1,0,1]
def w58_1:List Nat:=w58_2++[1]
def w58_7:List Nat:=w58_8++[0,1]
def w58_3:List Nat:=w58_7++[0]
def w58_5:List Nat:=w58_3++[0,1]
def w58_4:List Nat:=w58_5++[1]
noncomputable def e58 (J:Nat→Nat→Nat→St→Option Int→Option Int) (m:Nat) (p ms:List Nat) (σ:St):=evAt Tryz.prog env (ct m) J (m+1) 77 87 Tryz.f77 d33 p ms σ
noncomputable def l58 (J:Nat→Nat→Nat→St→Option Int→Option Int) (m:Nat) (p ms:List Nat) (M:Nat) (σ:St):=loopAt Tryz.prog env (ct m) J (m+1) 77 87 Tryz.f77 d33 p ms M σ
noncomputable def s58_3 (x0:Int) (x1:Dt) (x2:List Dt):St:=⟨tsOf [(1,(.ptr 0 [] 0)),(3,(.row 1)),(4,(.dat 3 (.int x0)))],[(.box 32 (.dat 32 x1)),(.row 28 x2)],0⟩
noncomputable def s58_14 (x0:Int) (x1:Dt):St:=⟨tsOf [(1,(.ptr 0 [] 0)),(5,(.dat 3 (.int x0)))],[(.box 32 (.dat 32 x1))],0⟩
noncomputable def s58_15:St:=⟨tsOf [],[],0⟩
noncomputable def s58_10 (x0:Dt):St:=⟨tsOf [(1,(.ptr 0 [] 0))],[(.box 32 (.dat 32 x0))],0⟩
noncomputable def s58_9 (x0:Bool) (x1:Dt):St:=⟨tsOf [(1,(.ptr 0 [] 0)),(72,(.dat 4 (.bool x0)))],[(.box 32 (.dat 32 x1))],0⟩
noncomputable def s58_7 (x0:Bool) (x1:Dt):St:=⟨tsOf [(1,(.ptr 0 [] 0)),(60,(.dat 4 (.bool x0)))],[(.box 32 (.dat 32 x1))],0⟩
noncomputable def s58_5 (x0:Bool) (x1:Dt):St:=⟨tsOf [(1,(.ptr 0 [] 0)),(30,(.dat 4 (.bool x0)))],[(.box 32 (.dat 32 x1))],0⟩
noncomputable def s58_4 (x0:Dt) (x1:List Dt):St:=⟨tsOf [(1,(.ptr 0 [] 0)),(3,(.row 1))],[(.box 32 (.dat 32 x0)),(.row 28 x1)],0⟩
abbrev H58_1 (m M1:Nat) (rec1:Int→Dt→List Dt→Option Int):Prop:=∀x0 x1 x2,l58 jn m w58_0 [] M1 (s58_3 x0 x1 x2)=rec1 x0 x1 x2
theorem ref14_single_j3_eq m M1 rec1 (h1:H58_1 m M1 rec1) x0 x1 x2:e58 jn m w58_1 [M1] (s58_3 x0 x1 x2)=ref14_single_j3 m rec1 x0 x1 x2:=
 tre (g:=fun J=>(jj J 1 3 M1 (s58_3 (IntKind.wrap .i64 (x0+1)) x1 x2) (l58 J m w58_0 [] M1))) (fun J=>by kernel_rfl) (by simp only[jj_eq,h1];rfl)
theorem ref14_single_j2_eq m M1 rec1 (h1:H58_1 m M1 rec1) x0 x1 x2:e58 jn m w58_2 [M1] (s58_3 x0 x1 x2)=ref14_single_j2 m rec1 x0 x1 x2:=
 tre (g:=fun J=>((idx (Dt.L x1 9) x0).bind fun v0=>
  ((app x2 [(Dt.str (Dt.S v0 0))]).bind fun v1=>
  (jj J 0 4 0 (s58_3 x0 x1 v1) (e58 J m w58_1 [M1]))))) (fun J=>by kernel_rfl) (by simp only[jj_eq,ref14_single_j3_eq m M1 rec1 h1];rfl)
abbrev H58_12 (m M12:Nat) (rec12:Int→Dt→Option Int):Prop:=∀x0 x1,l58 jn m w58_3 [] M12 (s58_14 x0 x1)=rec12 x0 x1
theorem ref14_single_j14_eq m M12 rec12 (h12:H58_12 m M12 rec12) x0 x1:e58 jn m w58_4 [M12] (s58_14 x0 x1)=ref14_single_j14 m rec12 x0 x1:=
 tre (g:=fun J=>(jj J 1 13 M12 (s58_14 (IntKind.wrap .i64 (x0+1)) x1) (l58 J m w58_3 [] M12))) (fun J=>by kernel_rfl) (by simp only[jj_eq,h12];rfl)
theorem ref14_single_j13_eq m M12 rec12 (h12:H58_12 m M12 rec12) x0 x1:e58 jn m w58_5 [M12] (s58_14 x0 x1)=ref14_single_j13 m rec12 x0 x1:=
 tre (g:=fun J=>((idx (Dt.L x1 5) x0).bind fun v4=>
  ((ref01_Valid m v4).bind fun r5=>
  (bif (Bool.not r5) then
  some 8
  else
  (jj J 0 14 0 (s58_14 x0 x1) (e58 J m w58_4 [M12])))))) (fun J=>by kernel_rfl) (by simp only[jj_eq,ref14_single_j14_eq m M12 rec12 h12];rfl)
theorem ref14_single_j15_eq m:e58 jn m w58_6 [] s58_15=ref14_single_j15 m:=
 tre (g:=fun J=>some 0) (fun J=>by kernel_rfl) (by rfl)
theorem ref14_single_l12_eq m:∀M12 x0 x1,l58 jn m w58_3 [] M12 (s58_14 x0 x1)=ref14_single_l12 m M12 x0 x1
 |0,_,_=>rfl
 | M12+1,x0,x1=>
   trl (g:=fun J=>(bif (decide (x0<(List.length (Dt.L x1 5):Int))) then
  (jj J 0 15 0 (s58_14 x0 x1) (e58 J m w58_5 [M12]))
   else
  (jj J 0 17 0 s58_15 (e58 J m w58_6 [])))) (fun J=>by kernel_rfl) (by simp only[jj_eq,ref14_single_j13_eq m M12 (ref14_single_l12 m M12) (ref14_single_l12_eq m M12),ref14_single_j15_eq m];rfl)
theorem ref14_single_j11_eq m x0 x1:e58 jn m w58_7 [] (s58_14 x0 x1)=ref14_single_j11 m x0 x1:=
 tre (g:=fun J=>(jj J 1 13 (Nat.succ m) (s58_14 x0 x1) (l58 J m w58_3 [] (Nat.succ m)))) (fun J=>by kernel_rfl) (by simp only[jj_eq,ref14_single_l12_eq m];rfl)
theorem ref14_single_j10_eq m x0:e58 jn m w58_8 [] (s58_10 x0)=ref14_single_j10 m x0:=
 tre (g:=fun J=>(jj J 0 13 0 (s58_14 0 x0) (e58 J m w58_7 []))) (fun J=>by kernel_rfl) (by simp only[jj_eq,ref14_single_j11_eq m];rfl)
theorem ref14_single_j9_eq m x0 x1:e58 jn m w58_9 [] (s58_9 x0 x1)=ref14_single_j9 m x0 x1:=
 tre (g:=fun J=>(bif x0 then
  some 8
   else
  (jj J 0 12 0 (s58_10 x1) (e58 J m w58_8 [])))) (fun J=>by kernel_rfl) (by simp only[jj_eq,ref14_single_j10_eq m];rfl)
theorem ref14_single_j8_eq m x0:e58 jn m w58_10 [] (s58_10 x0)=ref14_single_j8 m x0:=
 tre (g:=fun J=>((ref14_unused m (Dt.B x0 1) (Dt.fld x0 2)).bind fun r3=>
  (bif r3 then
  (jj J 0 11 0 (s58_9 true x0) (e58 J m w58_9 []))
  else
  ((ref14_unused m (Dt.B x0 3) (Dt.fld x0 4)).bind fun r6=>
  (jj J 0 11 0 (s58_9 r6 x0) (e58 J m w58_9 [])))))) (fun J=>by kernel_rfl) (by simp only[jj_eq,ref14_single_j9_eq m];rfl)
theorem ref14_single_j7_eq m x0 x1:e58 jn m w58_11 [] (s58_7 x0 x1)=ref14_single_j7 m x0 x1:=
 tre (g:=fun J=>(bif x0 then
  some 1
   else
  (jj J 0 10 0 (s58_10 x1) (e58 J m w58_10 [])))) (fun J=>by kernel_rfl) (by simp only[jj_eq,ref14_single_j8_eq m];rfl)
theorem ref14_single_j6_eq m x0:e58 jn m [1,1,1,1] [] (s58_10 x0)=ref14_single_j6 m x0:=
 tre (g:=fun J=>(bif (decide ((Dt.I x0 0)<0)) then
  (jj J 0 9 0 (s58_7 true x0) (e58 J m w58_11 []))
   else
  (bif ((Int.tmod (Dt.I x0 0) 2)==1) then
  (jj J 0 9 0 (s58_7 true x0) (e58 J m w58_11 []))
  else
  (bif (decide (4096≤(Dt.I x0 0))) then
  (jj J 0 9 0 (s58_7 true x0) (e58 J m w58_11 []))
  else
  (bif (decide ((Dt.I x0 6)<0)) then
  (jj J 0 9 0 (s58_7 true x0) (e58 J m w58_11 []))
  else
  (bif (decide ((Dt.I x0 7)<(-1))) then
  (jj J 0 9 0 (s58_7 true x0) (e58 J m w58_11 []))
  else
  (jj J 0 9 0 (s58_7 (decide (1<(List.length (Dt.L x0 11):Int))) x0) (e58 J m w58_11 [])))))))) (fun J=>by kernel_rfl) (by simp only[jj_eq,ref14_single_j7_eq m];rfl)
theorem ref14_single_j5_eq m x0 x1:e58 jn m w58_12 [] (s58_5 x0 x1)=ref14_single_j5 m x0 x1:=
 tre (g:=fun J=>(bif x0 then
  some 9
   else
  (jj J 0 8 0 (s58_10 x1) (e58 J m [1,1,1,1] [])))) (fun J=>by kernel_rfl) (by simp only[jj_eq,ref14_single_j6_eq m];rfl)
theorem ref14_single_j4_eq m x0 x1:e58 jn m [1,1,1] [] (s58_4 x0 x1)=ref14_single_j4 m x0 x1:=
 tre (g:=fun J=>((ref14_different m (Dt.L x0 8)).bind fun r2=>
  (bif (Bool.not r2) then
  (jj J 0 7 0 (s58_5 true x0) (e58 J m w58_12 []))
  else
  ((ref14_different m x1).bind fun r7=>
  (jj J 0 7 0 (s58_5 (Bool.not r7) x0) (e58 J m w58_12 [])))))) (fun J=>by kernel_rfl) (by simp only[jj_eq,ref14_single_j5_eq m];rfl)
theorem ref14_single_l1_eq m:∀M1 x0 x1 x2,l58 jn m w58_0 [] M1 (s58_3 x0 x1 x2)=ref14_single_l1 m M1 x0 x1 x2
 |0,_,_,_=>rfl
 | M1+1,x0,x1,x2=>
   trl (g:=fun J=>(bif (decide (x0<(List.length (Dt.L x1 9):Int))) then
  (jj J 0 5 0 (s58_3 x0 x1 x2) (e58 J m w58_2 [M1]))
   else
  (jj J 0 6 0 (s58_4 x1 x2) (e58 J m [1,1,1] [])))) (fun J=>by kernel_rfl) (by simp only[jj_eq,ref14_single_j2_eq m M1 (ref14_single_l1 m M1) (ref14_single_l1_eq m M1),ref14_single_j4_eq m];rfl)
theorem ref14_single_j0_eq m x0 x1 x2:e58 jn m [1,1,0,1] [] (s58_3 x0 x1 x2)=ref14_single_j0 m x0 x1 x2:=
 tre (g:=fun J=>(jj J 1 3 (Nat.succ m) (s58_3 x0 x1 x2) (l58 J m w58_0 [] (Nat.succ m)))) (fun J=>by kernel_rfl) (by simp only[jj_eq,ref14_single_l1_eq m];rfl)
theorem ref14_single_eq m a0:e58 jn m [] [] ⟨[(.dat 32 a0)],[],0⟩=ref14_single (m+1) a0:=
 tre (g:=fun J=>(jj J 0 3 0 (s58_3 0 a0 []) (e58 J m [1,1,0,1] []))) (fun J=>by kernel_rfl) (by simp only[jj_eq,ref14_single_j0_eq m];rfl)
def w44_5:List Nat:=[1,1,1,0,1]
def w44_0:List Nat:=[1,1,1,0,1,0]
def w44_4:List Nat:=w44_0++[0,1]
def w44_1:List Nat:=w44_4++[1]
def w44_3:List Nat:=w44_4++[0,0,1,1]
def w44_2:List Nat:=w44_3++[1,1]
noncomputable def e44 (J:Nat→Nat→Nat→St→Option (Int×Int)→Option (Int×Int)) (m:Nat) (p ms:List Nat) (σ:St):=evAt Tryz.prog env (ct m) J (m+1) 42 72 Tryz.f42 d44 p ms σ
noncomputable def l44 (J:Nat→Nat→Nat→St→Option (Int×Int)→Option (Int×Int)) (m:Nat) (p ms:List Nat) (M:Nat) (σ:St):=loopAt Tryz.prog env (ct m) J (m+1) 42 72 Tryz.f42 d44 p ms M σ
noncomputable def s44_8 (x0 x1 x2:Int) (x3:Dt):St:=⟨tsOf [(1,(.dat 3 (.int x0))),(2,(.dat 3 (.int x1))),(3,(.ptr 0 [] 0)),(9,(.dat 3 (.int x2)))],[(.box 32 (.dat 32 x3))],0⟩
noncomputable def s44_7 (x0 x1 x2:Int) (x3:Dt):St:=⟨tsOf [(2,(.dat 3 (.int x0))),(3,(.ptr 0 [] 0)),(9,(.dat 3 (.int x1))),(11,(.dat 3 (.int x2)))],[(.box 32 (.dat 32 x3))],0⟩
noncomputable def s44_6 (x0 x1 x2:Int) (x3 x4:Dt):St:=⟨tsOf [(1,(.dat 3 (.int x0))),(2,(.dat 3 (.int x1))),(3,(.ptr 0 [] 0)),(9,(.dat 3 (.int x2))),(10,(.ptr 1 [] 0))],[(.box 32 (.dat 32 x3)),(.box 32 (.dat 32 x4))],0⟩
noncomputable def s44_9 (x0:Int):St:=⟨tsOf [(1,(.dat 3 (.int x0)))],[],0⟩
noncomputable def s44_2 (x0 x1:Int) (x2:Dt):St:=⟨tsOf [(1,(.dat 3 (.int x0))),(2,(.dat 3 (.int x1))),(3,(.ptr 0 [] 0))],[(.box 32 (.dat 32 x2))],0⟩
noncomputable def s44_0 (x0 x1:Int) (x2:Bool) (x3:Dt):St:=⟨tsOf [(1,(.dat 3 (.int x0))),(2,(.dat 3 (.int x1))),(3,(.ptr 0 [] 0)),(18,(.dat 4 (.bool x2)))],[(.box 32 (.dat 32 x3))],0⟩
abbrev H44_4 (m M4:Nat) (rec4:Int→Int→Int→Dt→Option (Int×Int)):Prop:=∀x0 x1 x2 x3,l44 jn m w44_0 [] M4 (s44_8 x0 x1 x2 x3)=rec4 x0 x1 x2 x3
theorem ref14_check_j8_eq m M4 rec4 (h4:H44_4 m M4 rec4) x0 x1 x2 x3:e44 jn m w44_1 [M4] (s44_8 x0 x1 x2 x3)=ref14_check_j8 m (ref14_check m) rec4 x0 x1 x2 x3:=
 tre (g:=fun J=>(jj J 1 7 M4 (s44_8 x0 x1 (IntKind.wrap .i64 (x2+1)) x3) (l44 J m w44_0 [] M4))) (fun J=>by kernel_rfl) (by simp only[jj_eq,h4];rfl)
theorem ref14_check_j7_eq m M4 rec4 (h4:H44_4 m M4 rec4) x0 x1 x2 x3:e44 jn m w44_2 [M4] (s44_7 x0 x1 x2 x3)=ref14_check_j7 m (ref14_check m) rec4 x0 x1 x2 x3:=
 tre (g:=fun J=>(jj J 0 8 0 (s44_8 x2 x0 x1 x3) (e44 J m w44_1 [M4]))) (fun J=>by kernel_rfl) (by simp only[jj_eq,ref14_check_j8_eq m M4 rec4 h4];rfl)
theorem ref14_check_j6_eq m M4 rec4 (h4:H44_4 m M4 rec4) x0 x1 x2 x3 x4:e44 jn m w44_3 [M4] (s44_6 x0 x1 x2 x3 x4)=ref14_check_j6 m (ref14_check m) rec4 x0 x1 x2 x3 x4:=
 tre (g:=fun J=>((ref14_check m x4 (IntKind.wrap .i64 (x0+1)) (IntKind.wrap .i64 (x1+1))).bind fun r2=>
  (bif (r2.2 !=0) then
  some (r2.1,r2.2)
  else
  (jj J 0 16 0 (s44_7 x1 x2 r2.1 x3) (e44 J m w44_2 [M4]))))) (fun J=>by kernel_rfl) (by simp only[jj_eq,ref14_check_j7_eq m M4 rec4 h4];rfl)
theorem ref14_check_j5_eq m M4 rec4 (h4:H44_4 m M4 rec4) x0 x1 x2 x3:e44 jn m w44_4 [M4] (s44_8 x0 x1 x2 x3)=ref14_check_j5 m (ref14_check m) rec4 x0 x1 x2 x3:=
 tre (g:=fun J=>(bif (decide (x2<(List.length (Dt.L x3 9):Int))) then
  ((idx (Dt.L x3 9) x2).bind fun v1=>
  (jj J 0 13 0 (s44_6 x0 x1 x2 x3 (Dt.fld v1 1)) (e44 J m w44_3 [M4])))
   else
  ((idx (Dt.L x3 11) (IntKind.wrap .i64 (x2-(List.length (Dt.L x3 9):Int)))).bind fun v3=>
  (jj J 0 13 0 (s44_6 x0 x1 x2 x3 v3) (e44 J m w44_3 [M4]))))) (fun J=>by kernel_rfl) (by simp only[jj_eq,ref14_check_j6_eq m M4 rec4 h4];rfl)
theorem ref14_check_j9_eq m x0:e44 jn m [1,1,1,1] [] (s44_9 x0)=ref14_check_j9 m (ref14_check m) x0:=
 tre (g:=fun J=>some (x0,0)) (fun J=>by kernel_rfl) (by rfl)
theorem ref14_check_l4_eq m:∀M4 x0 x1 x2 x3,l44 jn m w44_0 [] M4 (s44_8 x0 x1 x2 x3)=ref14_check_l4 m (ref14_check m) M4 x0 x1 x2 x3
 |0,_,_,_,_=>rfl
 | M4+1,x0,x1,x2,x3=>
   trl (g:=fun J=>(bif (decide (x2<(IntKind.wrap .i64 ((List.length (Dt.L x3 9):Int)+(List.length (Dt.L x3 11):Int))))) then
  (jj J 0 9 0 (s44_8 x0 x1 x2 x3) (e44 J m w44_4 [M4]))
   else
  (jj J 0 17 0 (s44_9 x0) (e44 J m [1,1,1,1] [])))) (fun J=>by kernel_rfl) (by simp only[jj_eq,ref14_check_j5_eq m M4 (ref14_check_l4 m (ref14_check m) M4) (ref14_check_l4_eq m M4),ref14_check_j9_eq m];rfl)
theorem ref14_check_j3_eq m x0 x1 x2 x3:e44 jn m w44_5 [] (s44_8 x0 x1 x2 x3)=ref14_check_j3 m (ref14_check m) x0 x1 x2 x3:=
 tre (g:=fun J=>(jj J 1 7 (Nat.succ m) (s44_8 x0 x1 x2 x3) (l44 J m w44_0 [] (Nat.succ m)))) (fun J=>by kernel_rfl) (by simp only[jj_eq,ref14_check_l4_eq m];rfl)
theorem ref14_check_j2_eq m x0 x1 x2:e44 jn m [1,1,1] [] (s44_2 x0 x1 x2)=ref14_check_j2 m (ref14_check m) x0 x1 x2:=
 tre (g:=fun J=>(jj J 0 7 0 (s44_8 x0 x1 0 x2) (e44 J m w44_5 []))) (fun J=>by kernel_rfl) (by simp only[jj_eq,ref14_check_j3_eq m];rfl)
theorem ref14_check_j1_eq m x0 x1 x2:e44 jn m [1,1] [] (s44_2 x0 x1 x2)=ref14_check_j1 m (ref14_check m) x0 x1 x2:=
 tre (g:=fun J=>((ref14_single m x2).bind fun r0=>
  (bif (r0 !=0) then
  some (x0,r0)
  else
  (jj J 0 6 0 (s44_2 x0 x1 x2) (e44 J m [1,1,1] []))))) (fun J=>by kernel_rfl) (by simp only[jj_eq,ref14_check_j2_eq m];rfl)
theorem ref14_check_j0_eq m x0 x1 x2 x3:e44 jn m [1,0,1] [] (s44_0 x0 x1 x2 x3)=ref14_check_j0 m (ref14_check m) x0 x1 x2 x3:=
 tre (g:=fun J=>(bif x2 then
  some (x0,2)
   else
  (jj J 0 3 0 (s44_2 x0 x1 x3) (e44 J m [1,1] [])))) (fun J=>by kernel_rfl) (by simp only[jj_eq,ref14_check_j1_eq m];rfl)
theorem ref14_check_eq m a0 a1 a2:e44 jn m [] [] ⟨[(.dat 32 a0),(.dat 3 (.int a1)),(.dat 3 (.int a2))],[],0⟩=ref14_check (m+1) a0 a1 a2:=
 tre (g:=fun J=>(bif (decide (16<a2)) then
  (jj J 0 2 0 (s44_0 a1 a2 true a0) (e44 J m [1,0,1] []))
   else
  (jj J 0 2 0 (s44_0 a1 a2 (decide (64<a1)) a0) (e44 J m [1,0,1] [])))) (fun J=>by kernel_rfl) (by simp only[jj_eq,ref14_check_j0_eq m];rfl)
noncomputable def e28 (J:Nat→Nat→Nat→St→Option Int→Option Int) (m:Nat) (p ms:List Nat) (σ:St):=evAt Tryz.prog env (ct m) J (m+1) 25 11 Tryz.f25 d33 p ms σ
noncomputable def l28 (J:Nat→Nat→Nat→St→Option Int→Option Int) (m:Nat) (p ms:List Nat) (M:Nat) (σ:St):=loopAt Tryz.prog env (ct m) J (m+1) 25 11 Tryz.f25 d33 p ms M σ
theorem ref14_Valid_eq m a0:e28 jn m [] [] ⟨[(.dat 32 a0)],[],0⟩=ref14_Valid (m+1) a0:=
 tre (g:=fun J=>((ref14_check m a0 1 1).bind fun r0=>
  some r0.2)) (fun J=>by kernel_rfl) (by rfl)
noncomputable def e5 (J:Nat→Nat→Nat→St→Option (List Dt)→Option (List Dt)) (m:Nat) (p ms:List Nat) (σ:St):=evAt Tryz.prog env (ct m) J (m+1) 14 11 Tryz.f14 d29 p ms σ
noncomputable def l5 (J:Nat→Nat→Nat→St→Option (List Dt)→Option (List Dt)) (m:Nat) (p ms:List Nat) (M:Nat) (σ:St):=loopAt Tryz.prog env (ct m) J (m+1) 14 11 Tryz.f14 d29 p ms M σ
noncomputable def s5_0 (x0 x1:Dt):St:=⟨tsOf [(2,(.ptr 0 [] 0)),(3,(.ptr 1 [] 0))],[(.box 32 (.dat 32 x0)),(.box 25 (.dat 25 x1))],0⟩
theorem ref14_Check_j0_eq m x0 x1:e5 jn m [1,1] [] (s5_0 x0 x1)=ref14_Check_j0 m x0 x1:=
 tre (g:=fun J=>((ref14_violations m x0 x1 []).bind fun r1=>
  some r1)) (fun J=>by kernel_rfl) (by rfl)
theorem ref14_Check_eq m a0 a1:e5 jn m [] [] ⟨[(.dat 32 a0),(.dat 25 a1)],[],0⟩=ref14_Check (m+1) a0 a1:=
 tre (g:=fun J=>((ref14_Valid m a0).bind fun r0=>
  (bif (r0 !=0) then
  some []
  else
  (jj J 0 3 0 (s5_0 a0 a1) (e5 J m [1,1] []))))) (fun J=>by kernel_rfl) (by simp only[jj_eq,ref14_Check_j0_eq m];rfl)
noncomputable def e0 (J:Nat→Nat→Nat→St→Option Bool→Option Bool) (m:Nat) (p ms:List Nat) (σ:St):=evAt Tryz.prog env (ct m) J (m+1) 4 20 Tryz.f4 d13 p ms σ
noncomputable def l0 (J:Nat→Nat→Nat→St→Option Bool→Option Bool) (m:Nat) (p ms:List Nat) (M:Nat) (σ:St):=loopAt Tryz.prog env (ct m) J (m+1) 4 20 Tryz.f4 d13 p ms M σ
noncomputable def s0_0 (x0 x1:Dt):St:=⟨tsOf [(2,(.ptr 0 [] 0)),(3,(.ptr 1 [] 0))],[(.box 32 (.dat 32 x0)),(.box 25 (.dat 25 x1))],0⟩
theorem law14_SchemaChecks_j0_eq m x0 x1:e0 jn m [1,1] [] (s0_0 x0 x1)=law14_SchemaChecks_j0 m x0 x1:=
 tre (g:=fun J=>((schema_Check m x0 x1).bind fun r2=>
  ((ref14_Check m x0 x1).bind fun r3=>
  ((ref14_SameList m r2 r3).bind fun r4=>
  (bif r4 then
  ((awakeC).bind fun r5=>
  some r5)
  else
  some false))))) (fun J=>by kernel_rfl) (by rfl)
theorem law14_SchemaChecks_eq m a0 a1:e0 jn m [] [] ⟨[(.dat 32 a0),(.dat 25 a1)],[],0⟩=law14_SchemaChecks (m+1) a0 a1:=
 tre (g:=fun J=>((law14_few m a0 a1).bind fun r0=>
  (bif (Bool.not r0) then
  ((awakeC).bind fun r1=>
  some r1)
  else
  (jj J 0 3 0 (s0_0 a0 a1) (e0 J m [1,1] []))))) (fun J=>by kernel_rfl) (by simp only[jj_eq,law14_SchemaChecks_j0_eq m];rfl)
def w8_0:List Nat:=[1,1,1,1,1]
def w8_1:List Nat:=[1,1,1,0,1]
noncomputable def e8 (J:Nat→Nat→Nat→St→Option (Int×List Dt)→Option (Int×List Dt)) (m:Nat) (p ms:List Nat) (σ:St):=evAt Tryz.prog env (ct m) J (m+1) 16 46 Tryz.f16 d7 p ms σ
noncomputable def l8 (J:Nat→Nat→Nat→St→Option (Int×List Dt)→Option (Int×List Dt)) (m:Nat) (p ms:List Nat) (M:Nat) (σ:St):=loopAt Tryz.prog env (ct m) J (m+1) 16 46 Tryz.f16 d7 p ms M σ
noncomputable def s8_4:St:=⟨tsOf [],[],0⟩
noncomputable def s8_3 (x0:List Dt) (x1:Dt):St:=⟨tsOf [(3,(.ptr 0 [] 0)),(8,(.dat 40 (.lst x0)))],[(.box 44 (.dat 44 x1))],0⟩
noncomputable def s8_2 (x0:List Dt) (x1:Bool) (x2:Dt):St:=⟨tsOf [(3,(.ptr 0 [] 0)),(8,(.dat 40 (.lst x0))),(41,(.dat 4 (.bool x1)))],[(.box 44 (.dat 44 x2))],0⟩
noncomputable def s8_1 (x0 x1 x2:Dt):St:=⟨tsOf [(3,(.ptr 0 [] 0)),(4,(.ptr 1 [] 0)),(5,(.ptr 2 [] 0))],[(.box 44 (.dat 44 x0)),(.box 25 (.dat 25 x1)),(.box 25 (.dat 25 x2))],0⟩
noncomputable def s8_0 (x0:Bool) (x1 x2 x3:Dt):St:=⟨tsOf [(3,(.ptr 0 [] 0)),(4,(.ptr 1 [] 0)),(5,(.ptr 2 [] 0)),(16,(.dat 4 (.bool x0)))],[(.box 44 (.dat 44 x1)),(.box 25 (.dat 25 x2)),(.box 25 (.dat 25 x3))],0⟩
theorem ref14_Admit_j4_eq m:e8 jn m w8_0 [] s8_4=ref14_Admit_j4 m:=
 tre (g:=fun J=>some (17,[])) (fun J=>by kernel_rfl) (by rfl)
theorem ref14_Admit_j3_eq m x0 x1:e8 jn m [1,1,1,1] [] (s8_3 x0 x1)=ref14_Admit_j3 m x0 x1:=
 tre (g:=fun J=>(bif ((Dt.I x1 4)==1) then
  some (0,x0)
   else
  (jj J 0 8 0 s8_4 (e8 J m w8_0 [])))) (fun J=>by kernel_rfl) (by simp only[jj_eq,ref14_Admit_j4_eq m];rfl)
theorem ref14_Admit_j2_eq m x0 x1 x2:e8 jn m w8_1 [] (s8_2 x0 x1 x2)=ref14_Admit_j2 m x0 x1 x2:=
 tre (g:=fun J=>(bif x1 then
  some (0,[])
   else
  (jj J 0 6 0 (s8_3 x0 x2) (e8 J m [1,1,1,1] [])))) (fun J=>by kernel_rfl) (by simp only[jj_eq,ref14_Admit_j3_eq m];rfl)
theorem ref14_Admit_j1_eq m x0 x1 x2:e8 jn m [1,1] [] (s8_1 x0 x1 x2)=ref14_Admit_j1 m x0 x1 x2:=
 tre (g:=fun J=>((ref14_Check m (Dt.fld x0 2) x2).bind fun r0=>
  (bif ((List.length r0:Int)==0) then
  (jj J 0 5 0 (s8_2 r0 true x0) (e8 J m w8_1 []))
  else
  (bif ((Dt.I x0 3)==1) then
  (bif ((Dt.I x1 0)==5) then
  ((ref14_Check m (Dt.fld x0 2) x1).bind fun r1=>
  (jj J 0 5 0 (s8_2 r0 (decide (0<(List.length r1:Int))) x0) (e8 J m w8_1 [])))
  else
  (jj J 0 5 0 (s8_2 r0 false x0) (e8 J m w8_1 [])))
  else
  (jj J 0 5 0 (s8_2 r0 false x0) (e8 J m w8_1 [])))))) (fun J=>by kernel_rfl) (by simp only[jj_eq,ref14_Admit_j2_eq m];rfl)
theorem ref14_Admit_j0_eq m x0 x1 x2 x3:e8 jn m [1,0,1] [] (s8_0 x0 x1 x2 x3)=ref14_Admit_j0 m x0 x1 x2 x3:=
 tre (g:=fun J=>(bif x0 then
  some (0,[])
   else
  (jj J 0 3 0 (s8_1 x1 x2 x3) (e8 J m [1,1] [])))) (fun J=>by kernel_rfl) (by simp only[jj_eq,ref14_Admit_j1_eq m];rfl)
theorem ref14_Admit_eq m a0 a1 a2:e8 jn m [] [] ⟨[(.dat 44 a0),(.dat 25 a1),(.dat 25 a2)],[],0⟩=ref14_Admit (m+1) a0 a1 a2:=
 tre (g:=fun J=>(bif ((Dt.I a0 3) !=1) then
  (jj J 0 2 0 (s8_0 ((Dt.I a0 3) !=2) a0 a1 a2) (e8 J m [1,0,1] []))
   else
  (jj J 0 2 0 (s8_0 false a0 a1 a2) (e8 J m [1,0,1] [])))) (fun J=>by kernel_rfl) (by simp only[jj_eq,ref14_Admit_j0_eq m];rfl)
noncomputable def e1 (J:Nat→Nat→Nat→St→Option Bool→Option Bool) (m:Nat) (p ms:List Nat) (σ:St):=evAt Tryz.prog env (ct m) J (m+1) 5 55 Tryz.f5 d13 p ms σ
noncomputable def l1 (J:Nat→Nat→Nat→St→Option Bool→Option Bool) (m:Nat) (p ms:List Nat) (M:Nat) (σ:St):=loopAt Tryz.prog env (ct m) J (m+1) 5 55 Tryz.f5 d13 p ms M σ
noncomputable def s1_1 (x0:Dt):St:=⟨tsOf [(1,(.ptr 0 [] 0))],[(.box 46 (.dat 46 x0))],0⟩
noncomputable def s1_0 (x0:Bool) (x1:Dt):St:=⟨tsOf [(1,(.ptr 0 [] 0)),(22,(.dat 4 (.bool x0)))],[(.box 46 (.dat 46 x1))],0⟩
theorem law14_SchemaAdmits_j1_eq m x0:e1 jn m [1,1] [] (s1_1 x0)=law14_SchemaAdmits_j1 m x0:=
 tre (g:=fun J=>((schema_Admit m (Dt.fld x0 0) (Dt.fld x0 1) (Dt.fld x0 2)).bind fun r2=>
  ((ref14_Admit m (Dt.fld x0 0) (Dt.fld x0 1) (Dt.fld x0 2)).bind fun r3=>
  (bif (r2.1==r3.1) then
  ((ref14_SameList m r2.2 r3.2).bind fun r4=>
  (bif r4 then
  ((awakeC).bind fun r5=>
  some r5)
  else
  some false))
  else
  some false)))) (fun J=>by kernel_rfl) (by rfl)
theorem law14_SchemaAdmits_j0_eq m x0 x1:e1 jn m [1,0,1] [] (s1_0 x0 x1)=law14_SchemaAdmits_j0 m x0 x1:=
 tre (g:=fun J=>(bif x0 then
  ((awakeC).bind fun r1=>
  some r1)
   else
  (jj J 0 3 0 (s1_1 x1) (e1 J m [1,1] [])))) (fun J=>by kernel_rfl) (by simp only[jj_eq,law14_SchemaAdmits_j1_eq m];rfl)
theorem law14_SchemaAdmits_eq m a0:e1 jn m [] [] ⟨[(.dat 46 a0)],[],0⟩=law14_SchemaAdmits (m+1) a0:=
 tre (g:=fun J=>((law14_few m (Dt.fld (Dt.fld a0 0) 2) (Dt.fld a0 1)).bind fun r0=>
  (bif (Bool.not r0) then
  (jj J 0 2 0 (s1_0 true a0) (e1 J m [1,0,1] []))
  else
  ((law14_few m (Dt.fld (Dt.fld a0 0) 2) (Dt.fld a0 2)).bind fun r6=>
  (jj J 0 2 0 (s1_0 (Bool.not r6) a0) (e1 J m [1,0,1] [])))))) (fun J=>by kernel_rfl) (by simp only[jj_eq,law14_SchemaAdmits_j0_eq m];rfl)
end Go.Proofs.YtfneddmmeadacaaGreatDoor
