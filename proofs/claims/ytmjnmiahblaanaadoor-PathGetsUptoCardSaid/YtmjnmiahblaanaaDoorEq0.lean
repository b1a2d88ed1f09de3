/- Generated: each function's run in the abstract machine is its shallow function. -/
import Derived.Test.YtmjnmiahblaanaaDoorCt
import Derived.Test.YtmjnmiahblaanaaDoorAmEnv
import Derived.KernelRfl
set_option linter.unusedVariables false
set_option linter.unusedSimpArgs false
namespace Go.Proofs.YtmjnmiahblaanaaDoor
open Go.Am
set_option maxRecDepth 100000
def w7_0:List Nat:=[1,1,0,1,0]
def w7_7:List Nat:=[1,1,1,0,1]
def w7_3:List Nat:=[1,1,1,0,1,0]
def w7_2:List Nat:=[1,1,0,1,0,0,1]
def w7_1:List Nat:=w7_2++[1]
def w7_6:List Nat:=w7_3++[0,1]
def w7_4:List Nat:=w7_6++[1]
def w7_5:List Nat:=w7_6++[0,0,1]
noncomputable def e7 (J:Nat→Nat→Nat→St→Option Bool→Option Bool) (m:Nat) (p ms:List Nat) (σ:St):=evAt Tryd.prog env (ct m) J (m+1) 24 99 Tryd.f24 d7 p ms σ
noncomputable def l7 (J:Nat→Nat→Nat→St→Option Bool→Option Bool) (m:Nat) (p ms:List Nat) (M:Nat) (σ:St):=loopAt Tryd.prog env (ct m) J (m+1) 24 99 Tryd.f24 d7 p ms M σ
noncomputable def s7_5 (x0:Int) (x1 x2:Dt):St:=⟨tsOf [(2,(.ptr 0 [] 0)),(3,(.ptr 1 [] 0)),(5,(.dat 3 (.int x0)))],[(.box 36 (.dat 36 x1)),(.box 36 (.dat 36 x2))],0⟩
noncomputable def s7_11 (x0:Int) (x1 x2:Dt):St:=⟨tsOf [(2,(.ptr 0 [] 0)),(3,(.ptr 1 [] 0)),(6,(.dat 3 (.int x0)))],[(.box 36 (.dat 36 x1)),(.box 36 (.dat 36 x2))],0⟩
noncomputable def s7_10 (x0:Int) (x1:Bool) (x2 x3:Dt):St:=⟨tsOf [(2,(.ptr 0 [] 0)),(3,(.ptr 1 [] 0)),(6,(.dat 3 (.int x0))),(98,(.dat 4 (.bool x1)))],[(.box 36 (.dat 36 x2)),(.box 36 (.dat 36 x3))],0⟩
noncomputable def s7_12:St:=⟨tsOf [],[],0⟩
noncomputable def s7_6 (x0 x1:Dt):St:=⟨tsOf [(2,(.ptr 0 [] 0)),(3,(.ptr 1 [] 0))],[(.box 36 (.dat 36 x0)),(.box 36 (.dat 36 x1))],0⟩
noncomputable def s7_0 (x0:Bool) (x1 x2:Dt):St:=⟨tsOf [(2,(.ptr 0 [] 0)),(3,(.ptr 1 [] 0)),(43,(.dat 4 (.bool x0)))],[(.box 36 (.dat 36 x1)),(.box 36 (.dat 36 x2))],0⟩
abbrev H7_3 (m M3:Nat) (rec3:Int→Dt→Dt→Option Bool):Prop:=∀x0 x1 x2,l7 jn m w7_0 [] M3 (s7_5 x0 x1 x2)=rec3 x0 x1 x2
theorem ref01_Same_j5_eq m M3 rec3 (h3:H7_3 m M3 rec3) x0 x1 x2:e7 jn m w7_1 [M3] (s7_5 x0 x1 x2)=ref01_Same_j5 m (ref01_Same m) rec3 x0 x1 x2:=
 tre (g:=fun J=>(jj J 1 4 M3 (s7_5 (IntKind.wrap .i64 (x0+1)) x1 x2) (l7 J m w7_0 [] M3))) (fun J=>by kernel_rfl) (by simp only[jj_eq,h3];rfl)
theorem ref01_Same_j4_eq m M3 rec3 (h3:H7_3 m M3 rec3) x0 x1 x2:e7 jn m w7_2 [M3] (s7_5 x0 x1 x2)=ref01_Same_j4 m (ref01_Same m) rec3 x0 x1 x2:=
 tre (g:=fun J=>((idx (Dt.L x1 3) x0).bind fun v0=>
  ((idx (Dt.L x2 3) x0).bind fun v1=>
  ((ref01_Same m v0 v1).bind fun r2=>
  (bif (Bool.not r2) then
  some false
  else
  (jj J 0 5 0 (s7_5 x0 x1 x2) (e7 J m w7_1 [M3]))))))) (fun J=>by kernel_rfl) (by simp only[jj_eq,ref01_Same_j5_eq m M3 rec3 h3];rfl)
abbrev H7_8 (m M8:Nat) (rec8:Int→Dt→Dt→Option Bool):Prop:=∀x0 x1 x2,l7 jn m w7_3 [] M8 (s7_11 x0 x1 x2)=rec8 x0 x1 x2
theorem ref01_Same_j11_eq m M8 rec8 (h8:H7_8 m M8 rec8) x0 x1 x2:e7 jn m w7_4 [M8] (s7_11 x0 x1 x2)=ref01_Same_j11 m (ref01_Same m) rec8 x0 x1 x2:=
 tre (g:=fun J=>(jj J 1 9 M8 (s7_11 (IntKind.wrap .i64 (x0+1)) x1 x2) (l7 J m w7_3 [] M8))) (fun J=>by kernel_rfl) (by simp only[jj_eq,h8];rfl)
theorem ref01_Same_j10_eq m M8 rec8 (h8:H7_8 m M8 rec8) x0 x1 x2 x3:e7 jn m w7_5 [M8] (s7_10 x0 x1 x2 x3)=ref01_Same_j10 m (ref01_Same m) rec8 x0 x1 x2 x3:=
 tre (g:=fun J=>(bif x1 then
  some false
   else
  (jj J 0 10 0 (s7_11 x0 x2 x3) (e7 J m w7_4 [M8])))) (fun J=>by kernel_rfl) (by simp only[jj_eq,ref01_Same_j11_eq m M8 rec8 h8];rfl)
theorem ref01_Same_j9_eq m M8 rec8 (h8:H7_8 m M8 rec8) x0 x1 x2:e7 jn m w7_6 [M8] (s7_11 x0 x1 x2)=ref01_Same_j9 m (ref01_Same m) rec8 x0 x1 x2:=
 tre (g:=fun J=>((idx (Dt.L x1 4) x0).bind fun v3=>
  ((idx (Dt.L x2 4) x0).bind fun v4=>
  (bif (Bool.not ((ByteArray.toList (Dt.S v3 0))==(ByteArray.toList (Dt.S v4 0)))) then
  (jj J 0 12 0 (s7_10 x0 true x1 x2) (e7 J m w7_5 [M8]))
  else
  ((idx (Dt.L x1 4) x0).bind fun v5=>
  ((idx (Dt.L x2 4) x0).bind fun v6=>
  ((ref01_Same m (Dt.fld v5 1) (Dt.fld v6 1)).bind fun r7=>
  (jj J 0 12 0 (s7_10 x0 (Bool.not r7) x1 x2) (e7 J m w7_5 [M8]))))))))) (fun J=>by kernel_rfl) (by simp only[jj_eq,ref01_Same_j10_eq m M8 rec8 h8];rfl)
theorem ref01_Same_j12_eq m:e7 jn m [1,1,1,1] [] s7_12=ref01_Same_j12 m (ref01_Same m):=
 tre (g:=fun J=>some true) (fun J=>by kernel_rfl) (by rfl)
theorem ref01_Same_l8_eq m:∀M8 x0 x1 x2,l7 jn m w7_3 [] M8 (s7_11 x0 x1 x2)=ref01_Same_l8 m (ref01_Same m) M8 x0 x1 x2
 |0,_,_,_=>rfl
 | M8+1,x0,x1,x2=>
   trl (g:=fun J=>(bif (decide (x0<(List.length (Dt.L x1 4):Int))) then
  (jj J 0 11 0 (s7_11 x0 x1 x2) (e7 J m w7_6 [M8]))
   else
  (jj J 0 13 0 s7_12 (e7 J m [1,1,1,1] [])))) (fun J=>by kernel_rfl) (by simp only[jj_eq,ref01_Same_j9_eq m M8 (ref01_Same_l8 m (ref01_Same m) M8) (ref01_Same_l8_eq m M8),ref01_Same_j12_eq m];rfl)
theorem ref01_Same_j7_eq m x0 x1 x2:e7 jn m w7_7 [] (s7_11 x0 x1 x2)=ref01_Same_j7 m (ref01_Same m) x0 x1 x2:=
 tre (g:=fun J=>(jj J 1 9 (Nat.succ m) (s7_11 x0 x1 x2) (l7 J m w7_3 [] (Nat.succ m)))) (fun J=>by kernel_rfl) (by simp only[jj_eq,ref01_Same_l8_eq m];rfl)
theorem ref01_Same_j6_eq m x0 x1:e7 jn m [1,1,1] [] (s7_6 x0 x1)=ref01_Same_j6 m (ref01_Same m) x0 x1:=
 tre (g:=fun J=>(jj J 0 9 0 (s7_11 0 x0 x1) (e7 J m w7_7 []))) (fun J=>by kernel_rfl) (by simp only[jj_eq,ref01_Same_j7_eq m];rfl)
theorem ref01_Same_l3_eq m:∀M3 x0 x1 x2,l7 jn m w7_0 [] M3 (s7_5 x0 x1 x2)=ref01_Same_l3 m (ref01_Same m) M3 x0 x1 x2
 |0,_,_,_=>rfl
 | M3+1,x0,x1,x2=>
   trl (g:=fun J=>(bif (decide (x0<(List.length (Dt.L x1 3):Int))) then
  (jj J 0 6 0 (s7_5 x0 x1 x2) (e7 J m w7_2 [M3]))
   else
  (jj J 0 8 0 (s7_6 x1 x2) (e7 J m [1,1,1] [])))) (fun J=>by kernel_rfl) (by simp only[jj_eq,ref01_Same_j4_eq m M3 (ref01_Same_l3 m (ref01_Same m) M3) (ref01_Same_l3_eq m M3),ref01_Same_j6_eq m];rfl)
theorem ref01_Same_j2_eq m x0 x1 x2:e7 jn m [1,1,0,1] [] (s7_5 x0 x1 x2)=ref01_Same_j2 m (ref01_Same m) x0 x1 x2:=
 tre (g:=fun J=>(jj J 1 4 (Nat.succ m) (s7_5 x0 x1 x2) (l7 J m w7_0 [] (Nat.succ m)))) (fun J=>by kernel_rfl) (by simp only[jj_eq,ref01_Same_l3_eq m];rfl)
theorem ref01_Same_j1_eq m x0 x1:e7 jn m [1,1] [] (s7_6 x0 x1)=ref01_Same_j1 m (ref01_Same m) x0 x1:=
 tre (g:=fun J=>(jj J 0 4 0 (s7_5 0 x0 x1) (e7 J m [1,1,0,1] []))) (fun J=>by kernel_rfl) (by simp only[jj_eq,ref01_Same_j2_eq m];rfl)
theorem ref01_Same_j0_eq m x0 x1 x2:e7 jn m [1,0,1] [] (s7_0 x0 x1 x2)=ref01_Same_j0 m (ref01_Same m) x0 x1 x2:=
 tre (g:=fun J=>(bif x0 then
  some false
   else
  (jj J 0 3 0 (s7_6 x1 x2) (e7 J m [1,1] [])))) (fun J=>by kernel_rfl) (by simp only[jj_eq,ref01_Same_j1_eq m];rfl)
theorem ref01_Same_eq m a0 a1:e7 jn m [] [] ⟨[(.dat 36 a0),(.dat 36 a1)],[],0⟩=ref01_Same (m+1) a0 a1:=
 tre (g:=fun J=>(bif ((Dt.I a0 0) !=(Dt.I a1 0)) then
  (jj J 0 2 0 (s7_0 true a0 a1) (e7 J m [1,0,1] []))
   else
  (bif ((Dt.I a0 1) !=(Dt.I a1 1)) then
  (jj J 0 2 0 (s7_0 true a0 a1) (e7 J m [1,0,1] []))
  else
  (bif (Bool.not ((ByteArray.toList (Dt.S a0 2))==(ByteArray.toList (Dt.S a1 2)))) then
  (jj J 0 2 0 (s7_0 true a0 a1) (e7 J m [1,0,1] []))
  else
  (bif ((List.length (Dt.L a0 3):Int) !=(List.length (Dt.L a1 3):Int)) then
  (jj J 0 2 0 (s7_0 true a0 a1) (e7 J m [1,0,1] []))
  else
  (jj J 0 2 0 (s7_0 ((List.length (Dt.L a0 4):Int) !=(List.length (Dt.L a1 4):Int)) a0 a1) (e7 J m [1,0,1] []))))))) (fun J=>by kernel_rfl) (by simp only[jj_eq,ref01_Same_j0_eq m];rfl)
noncomputable def e10 (J:Nat→Nat→Nat→St→Option Bool→Option Bool) (m:Nat) (p ms:List Nat) (σ:St):=evAt Tryd.prog env (ct m) J (m+1) 29 10 Tryd.f29 d7 p ms σ
noncomputable def l10 (J:Nat→Nat→Nat→St→Option Bool→Option Bool) (m:Nat) (p ms:List Nat) (M:Nat) (σ:St):=loopAt Tryd.prog env (ct m) J (m+1) 29 10 Tryd.f29 d7 p ms M σ
theorem ref01_SameList_eq m a0 a1:e10 jn m [] [] ⟨[(.dat 33 (.lst a0)),(.dat 33 (.lst a1))],[],0⟩=ref01_SameList (m+1) a0 a1:=
 tre (g:=fun J=>((ref01_Same m (Dt.agg [(Dt.int 6),(Dt.int 0),(Dt.str (ByteArray.mk (List.toArray []))),(Dt.lst a0),(Dt.lst [])]) (Dt.agg [(Dt.int 6),(Dt.int 0),(Dt.str (ByteArray.mk (List.toArray []))),(Dt.lst a1),(Dt.lst [])])).bind fun r0=>
  some r0)) (fun J=>by kernel_rfl) (by rfl)
def w19_1:List Nat:=[1,0,1,0,0,1,1]
def w19_0:List Nat:=w19_1++[1]
noncomputable def e19 (J:Nat→Nat→Nat→St→Option Int→Option Int) (m:Nat) (p ms:List Nat) (σ:St):=evAt Tryd.prog env (ct m) J (m+1) 51 20 Tryd.f51 d19 p ms σ
noncomputable def l19 (J:Nat→Nat→Nat→St→Option Int→Option Int) (m:Nat) (p ms:List Nat) (M:Nat) (σ:St):=loopAt Tryd.prog env (ct m) J (m+1) 51 20 Tryd.f51 d19 p ms M σ
noncomputable def s19_3 (x0:List Dt) (x1:ByteArray) (x2 x3:Int):St:=⟨tsOf [(0,(.dat 34 (.lst x0))),(1,(.dat 9 (.str x1))),(7,(.dat 3 (.int x2))),(8,(.dat 3 (.int x3)))],[],0⟩
noncomputable def s19_4:St:=⟨tsOf [],[],0⟩
abbrev H19_1 (m M1:Nat) (rec1:List Dt→ByteArray→Int→Int→Option Int):Prop:=∀x0 x1 x2 x3,l19 jn m [1,0,1,0] [] M1 (s19_3 x0 x1 x2 x3)=rec1 x0 x1 x2 x3
theorem path_field_j3_eq m M1 rec1 (h1:H19_1 m M1 rec1) x0 x1 x2 x3:e19 jn m w19_0 [M1] (s19_3 x0 x1 x2 x3)=path_field_j3 m rec1 x0 x1 x2 x3:=
 tre (g:=fun J=>(jj J 1 2 M1 (s19_3 x0 x1 x2 (IntKind.wrap .i64 (x3+1))) (l19 J m [1,0,1,0] [] M1))) (fun J=>by kernel_rfl) (by simp only[jj_eq,h1];rfl)
theorem path_field_j2_eq m M1 rec1 (h1:H19_1 m M1 rec1) x0 x1 x2 x3:e19 jn m w19_1 [M1] (s19_3 x0 x1 x2 x3)=path_field_j2 m rec1 x0 x1 x2 x3:=
 tre (g:=fun J=>((idx x0 x3).bind fun v0=>
  (bif ((ByteArray.toList (Dt.S v0 0))==(ByteArray.toList x1)) then
  some x3
  else
  (jj J 0 6 0 (s19_3 x0 x1 x2 x3) (e19 J m w19_0 [M1]))))) (fun J=>by kernel_rfl) (by simp only[jj_eq,path_field_j3_eq m M1 rec1 h1];rfl)
theorem path_field_j4_eq m:e19 jn m [1,1] [] s19_4=path_field_j4 m:=
 tre (g:=fun J=>some (-1)) (fun J=>by kernel_rfl) (by rfl)
theorem path_field_l1_eq m:∀M1 x0 x1 x2 x3,l19 jn m [1,0,1,0] [] M1 (s19_3 x0 x1 x2 x3)=path_field_l1 m M1 x0 x1 x2 x3
 |0,_,_,_,_=>rfl
 | M1+1,x0,x1,x2,x3=>
   trl (g:=fun J=>(bif (decide (x3<x2)) then
  (jj J 0 3 0 (s19_3 x0 x1 x2 x3) (e19 J m w19_1 [M1]))
   else
  (jj J 0 7 0 s19_4 (e19 J m [1,1] [])))) (fun J=>by kernel_rfl) (by simp only[jj_eq,path_field_j2_eq m M1 (path_field_l1 m M1) (path_field_l1_eq m M1),path_field_j4_eq m];rfl)
theorem path_field_j0_eq m x0 x1 x2 x3:e19 jn m [1,0,1] [] (s19_3 x0 x1 x2 x3)=path_field_j0 m x0 x1 x2 x3:=
 tre (g:=fun J=>(jj J 1 2 (Nat.succ m) (s19_3 x0 x1 x2 x3) (l19 J m [1,0,1,0] [] (Nat.succ m)))) (fun J=>by kernel_rfl) (by simp only[jj_eq,path_field_l1_eq m];rfl)
theorem path_field_eq m a0 a1:e19 jn m [] [] ⟨[(.dat 34 (.lst a0)),(.dat 9 (.str a1))],[],0⟩=path_field (m+1) a0 a1:=
 tre (g:=fun J=>(jj J 0 2 0 (s19_3 a0 a1 (List.length a0:Int) 0) (e19 J m [1,0,1] []))) (fun J=>by kernel_rfl) (by simp only[jj_eq,path_field_j0_eq m];rfl)
def w20_5:List Nat:=[1,1,1,0,1]
def w20_0:List Nat:=[1,1,1,0,1,0]
def w20_4:List Nat:=w20_0++[0,1,1]
def w20_1:List Nat:=w20_4++[1]
def w20_2:List Nat:=w20_4++[0,0,1,1]
def w20_3:List Nat:=w20_4++[0,0,1,0,1]
noncomputable def e20 (J:Nat→Nat→Nat→St→Option (Int×Bool)→Option (Int×Bool)) (m:Nat) (p ms:List Nat) (σ:St):=evAt Tryd.prog env (ct m) J (m+1) 20 49 Tryd.f20 d20 p ms σ
noncomputable def l20 (J:Nat→Nat→Nat→St→Option (Int×Bool)→Option (Int×Bool)) (m:Nat) (p ms:List Nat) (M:Nat) (σ:St):=loopAt Tryd.prog env (ct m) J (m+1) 20 49 Tryd.f20 d20 p ms M σ
noncomputable def s20_7 (x0:ByteArray) (x1 x2 x3:Int):St:=⟨tsOf [(0,(.dat 9 (.str x0))),(4,(.dat 3 (.int x1))),(25,(.dat 3 (.int x2))),(26,(.dat 3 (.int x3)))],[],0⟩
noncomputable def s20_6 (x0:ByteArray) (x1 x2 x3 x4:Int):St:=⟨tsOf [(0,(.dat 9 (.str x0))),(4,(.dat 3 (.int x1))),(5,(.dat 3 (.int x2))),(25,(.dat 3 (.int x3))),(26,(.dat 3 (.int x4)))],[],0⟩
noncomputable def s20_5 (x0:ByteArray) (x1 x2 x3 x4:Int) (x5:Bool):St:=⟨tsOf [(0,(.dat 9 (.str x0))),(4,(.dat 3 (.int x1))),(5,(.dat 3 (.int x2))),(25,(.dat 3 (.int x3))),(26,(.dat 3 (.int x4))),(38,(.dat 4 (.bool x5)))],[],0⟩
noncomputable def s20_8 (x0:Int):St:=⟨tsOf [(4,(.dat 3 (.int x0)))],[],0⟩
noncomputable def s20_1 (x0:ByteArray):St:=⟨tsOf [(0,(.dat 9 (.str x0)))],[],0⟩
noncomputable def s20_0 (x0:ByteArray) (x1:Bool):St:=⟨tsOf [(0,(.dat 9 (.str x0))),(23,(.dat 4 (.bool x1)))],[],0⟩
abbrev H20_3 (m M3:Nat) (rec3:ByteArray→Int→Int→Int→Option (Int×Bool)):Prop:=∀x0 x1 x2 x3,l20 jn m w20_0 [] M3 (s20_7 x0 x1 x2 x3)=rec3 x0 x1 x2 x3
theorem path_Number_j7_eq m M3 rec3 (h3:H20_3 m M3 rec3) x0 x1 x2 x3:e20 jn m w20_1 [M3] (s20_7 x0 x1 x2 x3)=path_Number_j7 m rec3 x0 x1 x2 x3:=
 tre (g:=fun J=>(jj J 1 5 M3 (s20_7 x0 x1 x2 (IntKind.wrap .i64 (x3+1))) (l20 J m w20_0 [] M3))) (fun J=>by kernel_rfl) (by simp only[jj_eq,h3];rfl)
theorem path_Number_j6_eq m M3 rec3 (h3:H20_3 m M3 rec3) x0 x1 x2 x3 x4:e20 jn m w20_2 [M3] (s20_6 x0 x1 x2 x3 x4)=path_Number_j6 m rec3 x0 x1 x2 x3 x4:=
 tre (g:=fun J=>((idxS x0 x2).bind fun v1=>
  (jj J 0 10 0 (s20_7 x0 (IntKind.wrap .i64 ((IntKind.wrap .i64 (10*x1))+(IntKind.wrap .i64 (IntKind.wrap IntKind.u8 (v1-48))))) x3 x4) (e20 J m w20_1 [M3])))) (fun J=>by kernel_rfl) (by simp only[jj_eq,path_Number_j7_eq m M3 rec3 h3];rfl)
theorem path_Number_j5_eq m M3 rec3 (h3:H20_3 m M3 rec3) x0 x1 x2 x3 x4 x5:e20 jn m w20_3 [M3] (s20_5 x0 x1 x2 x3 x4 x5)=path_Number_j5 m rec3 x0 x1 x2 x3 x4 x5:=
 tre (g:=fun J=>(bif x5 then
  some (0,false)
   else
  (jj J 0 9 0 (s20_6 x0 x1 x2 x3 x4) (e20 J m w20_2 [M3])))) (fun J=>by kernel_rfl) (by simp only[jj_eq,path_Number_j6_eq m M3 rec3 h3];rfl)
theorem path_Number_j4_eq m M3 rec3 (h3:H20_3 m M3 rec3) x0 x1 x2 x3:e20 jn m w20_4 [M3] (s20_7 x0 x1 x2 x3)=path_Number_j4 m rec3 x0 x1 x2 x3:=
 tre (g:=fun J=>((idxS x0 x3).bind fun v0=>
  (bif (decide (v0<48)) then
  (jj J 0 8 0 (s20_5 x0 x1 x3 x2 x3 true) (e20 J m w20_3 [M3]))
  else
  ((idxS x0 x3).bind fun v2=>
  (jj J 0 8 0 (s20_5 x0 x1 x3 x2 x3 (decide (57<v2))) (e20 J m w20_3 [M3])))))) (fun J=>by kernel_rfl) (by simp only[jj_eq,path_Number_j5_eq m M3 rec3 h3];rfl)
theorem path_Number_j8_eq m x0:e20 jn m [1,1,1,1] [] (s20_8 x0)=path_Number_j8 m x0:=
 tre (g:=fun J=>some (x0,true)) (fun J=>by kernel_rfl) (by rfl)
theorem path_Number_l3_eq m:∀M3 x0 x1 x2 x3,l20 jn m w20_0 [] M3 (s20_7 x0 x1 x2 x3)=path_Number_l3 m M3 x0 x1 x2 x3
 |0,_,_,_,_=>rfl
 | M3+1,x0,x1,x2,x3=>
   trl (g:=fun J=>(bif (decide (x3<x2)) then
  (jj J 0 6 0 (s20_7 x0 x1 x2 x3) (e20 J m w20_4 [M3]))
   else
  (jj J 0 11 0 (s20_8 x1) (e20 J m [1,1,1,1] [])))) (fun J=>by kernel_rfl) (by simp only[jj_eq,path_Number_j4_eq m M3 (path_Number_l3 m M3) (path_Number_l3_eq m M3),path_Number_j8_eq m];rfl)
theorem path_Number_j2_eq m x0 x1 x2 x3:e20 jn m w20_5 [] (s20_7 x0 x1 x2 x3)=path_Number_j2 m x0 x1 x2 x3:=
 tre (g:=fun J=>(jj J 1 5 (Nat.succ m) (s20_7 x0 x1 x2 x3) (l20 J m w20_0 [] (Nat.succ m)))) (fun J=>by kernel_rfl) (by simp only[jj_eq,path_Number_l3_eq m];rfl)
theorem path_Number_j1_eq m x0:e20 jn m [1,1] [] (s20_1 x0)=path_Number_j1 m x0:=
 tre (g:=fun J=>(jj J 0 5 0 (s20_7 x0 0 (ByteArray.size x0:Int) 0) (e20 J m w20_5 []))) (fun J=>by kernel_rfl) (by simp only[jj_eq,path_Number_j2_eq m];rfl)
theorem path_Number_j0_eq m x0 x1:e20 jn m [1,0,1] [] (s20_0 x0 x1)=path_Number_j0 m x0 x1:=
 tre (g:=fun J=>(bif x1 then
  some (0,false)
   else
  (jj J 0 3 0 (s20_1 x0) (e20 J m [1,1] [])))) (fun J=>by kernel_rfl) (by simp only[jj_eq,path_Number_j1_eq m];rfl)
theorem path_Number_eq m a0:e20 jn m [] [] ⟨[(.dat 9 (.str a0))],[],0⟩=path_Number (m+1) a0:=
 tre (g:=fun J=>(bif (decide ((ByteArray.size a0:Int)<1)) then
  (jj J 0 2 0 (s20_0 a0 true) (e20 J m [1,0,1] []))
   else
  (bif (decide (4<(ByteArray.size a0:Int))) then
  (jj J 0 2 0 (s20_0 a0 true) (e20 J m [1,0,1] []))
  else
  ((idxS a0 0).bind fun v3=>
  (bif (v3==48) then
  (jj J 0 2 0 (s20_0 a0 (decide (1<(ByteArray.size a0:Int)))) (e20 J m [1,0,1] []))
  else
  (jj J 0 2 0 (s20_0 a0 false) (e20 J m [1,0,1] []))))))) (fun J=>by kernel_rfl) (by simp only[jj_eq,path_Number_j0_eq m];rfl)
def w21_7:List Nat:=[1,1,0,1,0,1,1]
def w21_0:List Nat:=w21_7++[0]
def w21_6:List Nat:=[1,1,1,0,1,0,1,1]
def w21_3:List Nat:=w21_6++[0]
def w21_2:List Nat:=w21_0++[0,1,1]
def w21_1:List Nat:=w21_2++[1]
def w21_5:List Nat:=w21_3++[0,1,1]
def w21_4:List Nat:=w21_5++[1]
noncomputable def e21 (J:Nat→Nat→Nat→St→Option Dt→Option Dt) (m:Nat) (p ms:List Nat) (σ:St):=evAt Tryd.prog env (ct m) J (m+1) 52 68 Tryd.f52 d21 p ms σ
noncomputable def l21 (J:Nat→Nat→Nat→St→Option Dt→Option Dt) (m:Nat) (p ms:List Nat) (M:Nat) (σ:St):=loopAt Tryd.prog env (ct m) J (m+1) 52 68 Tryd.f52 d21 p ms M σ
noncomputable def s21_3 (x0:List Dt) (x1 x2:Int) (x3 x4:Dt) (x5 x6:Int) (x7:ByteArray) (x8:List Dt):St:=⟨tsOf [(1,(.ptr 0 [] 0)),(2,(.ptr 1 [] 0)),(3,(.ptr 2 [] 0)),(25,(.dat 33 (.lst x0))),(26,(.dat 3 (.int x1))),(27,(.dat 3 (.int x2)))],[(.box 36 (.dat 36 x3)),(.box 36 (.dat 36 x4)),(.box 36 (.agg 36 [(.dat 3 (.int x5)),(.dat 3 (.int x6)),(.dat 9 (.str x7)),(.row 3),(.nils 34)])),(.row 33 x8)],0⟩
noncomputable def s21_8 (x0:List Dt) (x1 x2:Int) (x3:Dt) (x4 x5:Int) (x6:ByteArray) (x7 x8:List Dt):St:=⟨tsOf [(2,(.ptr 0 [] 0)),(3,(.ptr 1 [] 0)),(49,(.dat 34 (.lst x0))),(50,(.dat 3 (.int x1))),(51,(.dat 3 (.int x2)))],[(.box 36 (.dat 36 x3)),(.box 36 (.agg 36 [(.dat 3 (.int x4)),(.dat 3 (.int x5)),(.dat 9 (.str x6)),(.row 2),(.row 3)])),(.row 33 x7),(.row 34 x8)],0⟩
noncomputable def s21_9 (x0:Dt) (x1 x2:Int) (x3:ByteArray) (x4 x5:List Dt):St:=⟨tsOf [(2,(.ptr 0 [] 0)),(3,(.ptr 1 [] 0))],[(.box 36 (.dat 36 x0)),(.box 36 (.agg 36 [(.dat 3 (.int x1)),(.dat 3 (.int x2)),(.dat 9 (.str x3)),(.row 2),(.row 3)])),(.row 33 x4),(.row 34 x5)],0⟩
noncomputable def s21_10 (x0:Dt) (x1 x2:Int) (x3:ByteArray) (x4:List Dt):St:=⟨tsOf [(2,(.ptr 0 [] 0)),(3,(.ptr 1 [] 0))],[(.box 36 (.dat 36 x0)),(.box 36 (.agg 36 [(.dat 3 (.int x1)),(.dat 3 (.int x2)),(.dat 9 (.str x3)),(.row 2),(.nils 34)])),(.row 33 x4)],0⟩
noncomputable def s21_4 (x0 x1:Dt) (x2 x3:Int) (x4:ByteArray) (x5:List Dt):St:=⟨tsOf [(1,(.ptr 0 [] 0)),(2,(.ptr 1 [] 0)),(3,(.ptr 2 [] 0))],[(.box 36 (.dat 36 x0)),(.box 36 (.dat 36 x1)),(.box 36 (.agg 36 [(.dat 3 (.int x2)),(.dat 3 (.int x3)),(.dat 9 (.str x4)),(.row 3),(.nils 34)])),(.row 33 x5)],0⟩
noncomputable def s21_15 (x0:List Dt) (x1 x2:Int) (x3:Dt) (x4 x5:Int) (x6:ByteArray) (x7 x8:List Dt):St:=⟨tsOf [(2,(.ptr 0 [] 0)),(3,(.ptr 1 [] 0)),(49,(.dat 34 (.lst x0))),(50,(.dat 3 (.int x1))),(51,(.dat 3 (.int x2)))],[(.box 36 (.dat 36 x3)),(.box 36 (.agg 36 [(.dat 3 (.int x4)),(.dat 3 (.int x5)),(.dat 9 (.str x6)),(.dat 33 (.lst x7)),(.row 2)])),(.row 34 x8)],0⟩
noncomputable def s21_16 (x0:Dt) (x1 x2:Int) (x3:ByteArray) (x4 x5:List Dt):St:=⟨tsOf [(2,(.ptr 0 [] 0)),(3,(.ptr 1 [] 0))],[(.box 36 (.dat 36 x0)),(.box 36 (.agg 36 [(.dat 3 (.int x1)),(.dat 3 (.int x2)),(.dat 9 (.str x3)),(.dat 33 (.lst x4)),(.row 2)])),(.row 34 x5)],0⟩
noncomputable def s21_17 (x0 x1:Dt):St:=⟨tsOf [(2,(.ptr 0 [] 0)),(3,(.ptr 1 [] 0))],[(.box 36 (.dat 36 x0)),(.box 36 (.dat 36 x1))],0⟩
noncomputable def s21_11 (x0 x1 x2:Dt):St:=⟨tsOf [(1,(.ptr 0 [] 0)),(2,(.ptr 1 [] 0)),(3,(.ptr 2 [] 0))],[(.box 36 (.dat 36 x0)),(.box 36 (.dat 36 x1)),(.box 36 (.dat 36 x2))],0⟩
abbrev H21_1 (m M1:Nat) (rec1:List Dt→Int→Int→Dt→Dt→Int→Int→ByteArray→List Dt→Option Dt):Prop:=∀x0 x1 x2 x3 x4 x5 x6 x7 x8,l21 jn m w21_0 [] M1 (s21_3 x0 x1 x2 x3 x4 x5 x6 x7 x8)=rec1 x0 x1 x2 x3 x4 x5 x6 x7 x8
theorem path_clone_j3_eq m M1 rec1 (h1:H21_1 m M1 rec1) x0 x1 x2 x3 x4 x5 x6 x7 x8:e21 jn m w21_1 [M1] (s21_3 x0 x1 x2 x3 x4 x5 x6 x7 x8)=path_clone_j3 m (path_clone m) rec1 x0 x1 x2 x3 x4 x5 x6 x7 x8:=
 tre (g:=fun J=>(jj J 1 5 M1 (s21_3 x0 x1 (IntKind.wrap .i64 (x2+1)) x3 x4 x5 x6 x7 x8) (l21 J m w21_0 [] M1))) (fun J=>by kernel_rfl) (by simp only[jj_eq,h1];rfl)
theorem path_clone_j2_eq m M1 rec1 (h1:H21_1 m M1 rec1) x0 x1 x2 x3 x4 x5 x6 x7 x8:e21 jn m w21_2 [M1] (s21_3 x0 x1 x2 x3 x4 x5 x6 x7 x8)=path_clone_j2 m (path_clone m) rec1 x0 x1 x2 x3 x4 x5 x6 x7 x8:=
 tre (g:=fun J=>((idx x0 x2).bind fun v1=>
  ((path_clone m v1).bind fun r2=>
  ((inL x8 x2).bind fun v3=>
  ((x8[(Int.toNat x2)]?).bind fun v4=>
  (jj J 0 8 0 (s21_3 x0 x1 x2 x3 x4 x5 x6 x7 (List.set x8 (Int.toNat x2) r2)) (e21 J m w21_1 [M1]))))))) (fun J=>by kernel_rfl) (by simp only[jj_eq,path_clone_j3_eq m M1 rec1 h1];rfl)
abbrev H21_6 (m M6:Nat) (rec6:List Dt→Int→Int→Dt→Int→Int→ByteArray→List Dt→List Dt→Option Dt):Prop:=∀x0 x1 x2 x3 x4 x5 x6 x7 x8,l21 jn m w21_3 [] M6 (s21_8 x0 x1 x2 x3 x4 x5 x6 x7 x8)=rec6 x0 x1 x2 x3 x4 x5 x6 x7 x8
theorem path_clone_j8_eq m M6 rec6 (h6:H21_6 m M6 rec6) x0 x1 x2 x3 x4 x5 x6 x7 x8:e21 jn m w21_4 [M6] (s21_8 x0 x1 x2 x3 x4 x5 x6 x7 x8)=path_clone_j8 m (path_clone m) rec6 x0 x1 x2 x3 x4 x5 x6 x7 x8:=
 tre (g:=fun J=>(jj J 1 12 M6 (s21_8 x0 x1 (IntKind.wrap .i64 (x2+1)) x3 x4 x5 x6 x7 x8) (l21 J m w21_3 [] M6))) (fun J=>by kernel_rfl) (by simp only[jj_eq,h6];rfl)
theorem path_clone_j7_eq m M6 rec6 (h6:H21_6 m M6 rec6) x0 x1 x2 x3 x4 x5 x6 x7 x8:e21 jn m w21_5 [M6] (s21_8 x0 x1 x2 x3 x4 x5 x6 x7 x8)=path_clone_j7 m (path_clone m) rec6 x0 x1 x2 x3 x4 x5 x6 x7 x8:=
 tre (g:=fun J=>((idx x0 x2).bind fun v6=>
  ((path_clone m (Dt.fld v6 1)).bind fun r7=>
  ((inL x8 x2).bind fun v8=>
  ((x8[(Int.toNat x2)]?).bind fun v9=>
  (jj J 0 15 0 (s21_8 x0 x1 x2 x3 x4 x5 x6 x7 (List.set x8 (Int.toNat x2) (Dt.agg [(Dt.str (Dt.S v6 0)),r7]))) (e21 J m w21_4 [M6]))))))) (fun J=>by kernel_rfl) (by simp only[jj_eq,path_clone_j8_eq m M6 rec6 h6];rfl)
theorem path_clone_j9_eq m x0 x1 x2 x3 x4 x5:e21 jn m [1,1,1,1] [] (s21_9 x0 x1 x2 x3 x4 x5)=path_clone_j9 m (path_clone m) x0 x1 x2 x3 x4 x5:=
 tre (g:=fun J=>some (Dt.agg [(Dt.int x1),(Dt.int x2),(Dt.str x3),(Dt.lst x4),(Dt.lst x5)])) (fun J=>by kernel_rfl) (by rfl)
theorem path_clone_l6_eq m:∀M6 x0 x1 x2 x3 x4 x5 x6 x7 x8,l21 jn m w21_3 [] M6 (s21_8 x0 x1 x2 x3 x4 x5 x6 x7 x8)=path_clone_l6 m (path_clone m) M6 x0 x1 x2 x3 x4 x5 x6 x7 x8
 |0,_,_,_,_,_,_,_,_,_=>rfl
 | M6+1,x0,x1,x2,x3,x4,x5,x6,x7,x8=>
   trl (g:=fun J=>(bif (decide (x2<x1)) then
  (jj J 0 13 0 (s21_8 x0 x1 x2 x3 x4 x5 x6 x7 x8) (e21 J m w21_5 [M6]))
   else
  (jj J 0 16 0 (s21_9 x3 x4 x5 x6 x7 x8) (e21 J m [1,1,1,1] [])))) (fun J=>by kernel_rfl) (by simp only[jj_eq,path_clone_j7_eq m M6 (path_clone_l6 m (path_clone m) M6) (path_clone_l6_eq m M6),path_clone_j9_eq m];rfl)
theorem path_clone_j5_eq m x0 x1 x2 x3 x4 x5 x6 x7 x8:e21 jn m w21_6 [] (s21_8 x0 x1 x2 x3 x4 x5 x6 x7 x8)=path_clone_j5 m (path_clone m) x0 x1 x2 x3 x4 x5 x6 x7 x8:=
 tre (g:=fun J=>(jj J 1 12 (Nat.succ m) (s21_8 x0 x1 x2 x3 x4 x5 x6 x7 x8) (l21 J m w21_3 [] (Nat.succ m)))) (fun J=>by kernel_rfl) (by simp only[jj_eq,path_clone_l6_eq m];rfl)
theorem path_clone_j10_eq m x0 x1 x2 x3 x4:e21 jn m [1,1,1,1] [] (s21_10 x0 x1 x2 x3 x4)=path_clone_j10 m (path_clone m) x0 x1 x2 x3 x4:=
 tre (g:=fun J=>some (Dt.agg [(Dt.int x1),(Dt.int x2),(Dt.str x3),(Dt.lst x4),(Dt.lst [])])) (fun J=>by kernel_rfl) (by rfl)
theorem path_clone_j4_eq m x0 x1 x2 x3 x4 x5:e21 jn m [1,1,1] [] (s21_4 x0 x1 x2 x3 x4 x5)=path_clone_j4 m (path_clone m) x0 x1 x2 x3 x4 x5:=
 tre (g:=fun J=>(bif (decide (0<(List.length (Dt.L x0 4):Int))) then
  ((mkL (List.length (Dt.L x0 4):Int) (List.length (Dt.L x0 4):Int) kzcda49).bind fun v5=>
  (jj J 0 12 0 (s21_8 (Dt.L x0 4) (List.length (Dt.L x0 4):Int) 0 x1 x2 x3 x4 x5 v5) (e21 J m w21_6 [])))
   else
  (jj J 0 16 0 (s21_10 x1 x2 x3 x4 x5) (e21 J m [1,1,1,1] [])))) (fun J=>by kernel_rfl) (by simp only[jj_eq,path_clone_j5_eq m,path_clone_j10_eq m];rfl)
theorem path_clone_l1_eq m:∀M1 x0 x1 x2 x3 x4 x5 x6 x7 x8,l21 jn m w21_0 [] M1 (s21_3 x0 x1 x2 x3 x4 x5 x6 x7 x8)=path_clone_l1 m (path_clone m) M1 x0 x1 x2 x3 x4 x5 x6 x7 x8
 |0,_,_,_,_,_,_,_,_,_=>rfl
 | M1+1,x0,x1,x2,x3,x4,x5,x6,x7,x8=>
   trl (g:=fun J=>(bif (decide (x2<x1)) then
  (jj J 0 6 0 (s21_3 x0 x1 x2 x3 x4 x5 x6 x7 x8) (e21 J m w21_2 [M1]))
   else
  (jj J 0 9 0 (s21_4 x3 x4 x5 x6 x7 x8) (e21 J m [1,1,1] [])))) (fun J=>by kernel_rfl) (by simp only[jj_eq,path_clone_j2_eq m M1 (path_clone_l1 m (path_clone m) M1) (path_clone_l1_eq m M1),path_clone_j4_eq m];rfl)
theorem path_clone_j0_eq m x0 x1 x2 x3 x4 x5 x6 x7 x8:e21 jn m w21_7 [] (s21_3 x0 x1 x2 x3 x4 x5 x6 x7 x8)=path_clone_j0 m (path_clone m) x0 x1 x2 x3 x4 x5 x6 x7 x8:=
 tre (g:=fun J=>(jj J 1 5 (Nat.succ m) (s21_3 x0 x1 x2 x3 x4 x5 x6 x7 x8) (l21 J m w21_0 [] (Nat.succ m)))) (fun J=>by kernel_rfl) (by simp only[jj_eq,path_clone_l1_eq m];rfl)
abbrev H21_13 (m M13:Nat) (rec13:List Dt→Int→Int→Dt→Int→Int→ByteArray→List Dt→List Dt→Option Dt):Prop:=∀x0 x1 x2 x3 x4 x5 x6 x7 x8,l21 jn m w21_3 [] M13 (s21_15 x0 x1 x2 x3 x4 x5 x6 x7 x8)=rec13 x0 x1 x2 x3 x4 x5 x6 x7 x8
theorem path_clone_j15_eq m M13 rec13 (h13:H21_13 m M13 rec13) x0 x1 x2 x3 x4 x5 x6 x7 x8:e21 jn m w21_4 [M13] (s21_15 x0 x1 x2 x3 x4 x5 x6 x7 x8)=path_clone_j15 m (path_clone m) rec13 x0 x1 x2 x3 x4 x5 x6 x7 x8:=
 tre (g:=fun J=>(jj J 1 12 M13 (s21_15 x0 x1 (IntKind.wrap .i64 (x2+1)) x3 x4 x5 x6 x7 x8) (l21 J m w21_3 [] M13))) (fun J=>by kernel_rfl) (by simp only[jj_eq,h13];rfl)
theorem path_clone_j14_eq m M13 rec13 (h13:H21_13 m M13 rec13) x0 x1 x2 x3 x4 x5 x6 x7 x8:e21 jn m w21_5 [M13] (s21_15 x0 x1 x2 x3 x4 x5 x6 x7 x8)=path_clone_j14 m (path_clone m) rec13 x0 x1 x2 x3 x4 x5 x6 x7 x8:=
 tre (g:=fun J=>((idx x0 x2).bind fun v11=>
  ((path_clone m (Dt.fld v11 1)).bind fun r12=>
  ((inL x8 x2).bind fun v13=>
  ((x8[(Int.toNat x2)]?).bind fun v14=>
  (jj J 0 15 0 (s21_15 x0 x1 x2 x3 x4 x5 x6 x7 (List.set x8 (Int.toNat x2) (Dt.agg [(Dt.str (Dt.S v11 0)),r12]))) (e21 J m w21_4 [M13]))))))) (fun J=>by kernel_rfl) (by simp only[jj_eq,path_clone_j15_eq m M13 rec13 h13];rfl)
theorem path_clone_j16_eq m x0 x1 x2 x3 x4 x5:e21 jn m [1,1,1,1] [] (s21_16 x0 x1 x2 x3 x4 x5)=path_clone_j16 m (path_clone m) x0 x1 x2 x3 x4 x5:=
 tre (g:=fun J=>some (Dt.agg [(Dt.int x1),(Dt.int x2),(Dt.str x3),(Dt.lst x4),(Dt.lst x5)])) (fun J=>by kernel_rfl) (by rfl)
theorem path_clone_l13_eq m:∀M13 x0 x1 x2 x3 x4 x5 x6 x7 x8,l21 jn m w21_3 [] M13 (s21_15 x0 x1 x2 x3 x4 x5 x6 x7 x8)=path_clone_l13 m (path_clone m) M13 x0 x1 x2 x3 x4 x5 x6 x7 x8
 |0,_,_,_,_,_,_,_,_,_=>rfl
 | M13+1,x0,x1,x2,x3,x4,x5,x6,x7,x8=>
   trl (g:=fun J=>(bif (decide (x2<x1)) then
  (jj J 0 13 0 (s21_15 x0 x1 x2 x3 x4 x5 x6 x7 x8) (e21 J m w21_5 [M13]))
   else
  (jj J 0 16 0 (s21_16 x3 x4 x5 x6 x7 x8) (e21 J m [1,1,1,1] [])))) (fun J=>by kernel_rfl) (by simp only[jj_eq,path_clone_j14_eq m M13 (path_clone_l13 m (path_clone m) M13) (path_clone_l13_eq m M13),path_clone_j16_eq m];rfl)
theorem path_clone_j12_eq m x0 x1 x2 x3 x4 x5 x6 x7 x8:e21 jn m w21_6 [] (s21_15 x0 x1 x2 x3 x4 x5 x6 x7 x8)=path_clone_j12 m (path_clone m) x0 x1 x2 x3 x4 x5 x6 x7 x8:=
 tre (g:=fun J=>(jj J 1 12 (Nat.succ m) (s21_15 x0 x1 x2 x3 x4 x5 x6 x7 x8) (l21 J m w21_3 [] (Nat.succ m)))) (fun J=>by kernel_rfl) (by simp only[jj_eq,path_clone_l13_eq m];rfl)
theorem path_clone_j17_eq m x0 x1:e21 jn m [1,1,1,1] [] (s21_17 x0 x1)=path_clone_j17 m (path_clone m) x0 x1:=
 tre (g:=fun J=>some x1) (fun J=>by kernel_rfl) (by rfl)
theorem path_clone_j11_eq m x0 x1 x2:e21 jn m [1,1,1] [] (s21_11 x0 x1 x2)=path_clone_j11 m (path_clone m) x0 x1 x2:=
 tre (g:=fun J=>(bif (decide (0<(List.length (Dt.L x0 4):Int))) then
  ((mkL (List.length (Dt.L x0 4):Int) (List.length (Dt.L x0 4):Int) kzcda49).bind fun v10=>
  (jj J 0 12 0 (s21_15 (Dt.L x0 4) (List.length (Dt.L x0 4):Int) 0 x1 (Dt.I x2 0) (Dt.I x2 1) (Dt.S x2 2) (Dt.L x2 3) v10) (e21 J m w21_6 [])))
   else
  (jj J 0 16 0 (s21_17 x1 x2) (e21 J m [1,1,1,1] [])))) (fun J=>by kernel_rfl) (by simp only[jj_eq,path_clone_j12_eq m,path_clone_j17_eq m];rfl)
theorem path_clone_eq m a0:e21 jn m [] [] ⟨[(.dat 36 a0)],[],0⟩=path_clone (m+1) a0:=
 tre (g:=fun J=>(bif (decide (0<(List.length (Dt.L a0 3):Int))) then
  ((mkL (List.length (Dt.L a0 3):Int) (List.length (Dt.L a0 3):Int) kza2373).bind fun v0=>
  (jj J 0 5 0 (s21_3 (Dt.L a0 3) (List.length (Dt.L a0 3):Int) 0 a0 kza2373 (Dt.I a0 0) (Dt.I a0 1) (Dt.S a0 2) v0) (e21 J m w21_7 [])))
   else
  (jj J 0 9 0 (s21_11 a0 kza2373 (Dt.agg [(Dt.int (Dt.I a0 0)),(Dt.int (Dt.I a0 1)),(Dt.str (Dt.S a0 2)),(Dt.lst []),(Dt.lst [])])) (e21 J m [1,1,1] [])))) (fun J=>by kernel_rfl) (by simp only[jj_eq,path_clone_j0_eq m,path_clone_j11_eq m];rfl)
def w5_3:List Nat:=[1,0,1,0,0,1,1]
def w5_0:List Nat:=w5_3++[1]
def w5_1:List Nat:=w5_3++[0,0,1,1,1]
def w5_2:List Nat:=w5_3++[0,0,1,1,0,1,0,1,1,1,0,1,1]
noncomputable def e5 (J:Nat→Nat→Nat→St→Option Dt→Option Dt) (m:Nat) (p ms:List Nat) (σ:St):=evAt Tryd.prog env (ct m) J (m+1) 23 59 Tryd.f23 d21 p ms σ
noncomputable def l5 (J:Nat→Nat→Nat→St→Option Dt→Option Dt) (m:Nat) (p ms:List Nat) (M:Nat) (σ:St):=loopAt Tryd.prog env (ct m) J (m+1) 23 59 Tryd.f23 d21 p ms M σ
noncomputable def s5_4 (x0:List Dt) (x1 x2:Int) (x3 x4:Dt):St:=⟨tsOf [(2,(.ptr 0 [] 0)),(4,(.ptr 1 [] 0)),(10,(.dat 23 (.lst x0))),(11,(.dat 3 (.int x1))),(12,(.dat 3 (.int x2)))],[(.box 36 (.dat 36 x3)),(.box 36 (.dat 36 x4))],0⟩
noncomputable def s5_3 (x0:Int) (x1:List Dt) (x2 x3:Int) (x4 x5:Dt):St:=⟨tsOf [(2,(.ptr 0 [] 0)),(4,(.ptr 1 [] 0)),(7,(.dat 3 (.int x0))),(10,(.dat 23 (.lst x1))),(11,(.dat 3 (.int x2))),(12,(.dat 3 (.int x3)))],[(.box 36 (.dat 36 x4)),(.box 36 (.dat 36 x5))],0⟩
noncomputable def s5_5 (x0 x1:Int) (x2:List Dt) (x3 x4:Int) (x5:Bool) (x6 x7:Dt):St:=⟨tsOf [(2,(.ptr 0 [] 0)),(4,(.ptr 1 [] 0)),(7,(.dat 3 (.int x0))),(8,(.dat 3 (.int x1))),(10,(.dat 23 (.lst x2))),(11,(.dat 3 (.int x3))),(12,(.dat 3 (.int x4))),(46,(.dat 4 (.bool x5)))],[(.box 36 (.dat 36 x6)),(.box 36 (.dat 36 x7))],0⟩
noncomputable def s5_6 (x0 x1:Dt):St:=⟨tsOf [(2,(.ptr 0 [] 0)),(4,(.ptr 1 [] 0))],[(.box 36 (.dat 36 x0)),(.box 36 (.dat 36 x1))],0⟩
abbrev H5_1 (m M1:Nat) (rec1:List Dt→Int→Int→Dt→Dt→Option Dt):Prop:=∀x0 x1 x2 x3 x4,l5 jn m [1,0,1,0] [] M1 (s5_4 x0 x1 x2 x3 x4)=rec1 x0 x1 x2 x3 x4
theorem path_Get_j4_eq m M1 rec1 (h1:H5_1 m M1 rec1) x0 x1 x2 x3 x4:e5 jn m w5_0 [M1] (s5_4 x0 x1 x2 x3 x4)=path_Get_j4 m rec1 x0 x1 x2 x3 x4:=
 tre (g:=fun J=>(jj J 1 2 M1 (s5_4 x0 x1 (IntKind.wrap .i64 (x2+1)) x3 x4) (l5 J m [1,0,1,0] [] M1))) (fun J=>by kernel_rfl) (by simp only[jj_eq,h1];rfl)
theorem path_Get_j3_eq m M1 rec1 (h1:H5_1 m M1 rec1) x0 x1 x2 x3 x4 x5:e5 jn m w5_1 [M1] (s5_3 x0 x1 x2 x3 x4 x5)=path_Get_j3 m rec1 x0 x1 x2 x3 x4 x5:=
 tre (g:=fun J=>(bif (decide (x0<0)) then
  some kza2373
   else
  (jj J 0 17 0 (s5_4 x1 x2 x3 x4 x5) (e5 J m w5_0 [M1])))) (fun J=>by kernel_rfl) (by simp only[jj_eq,path_Get_j4_eq m M1 rec1 h1];rfl)
theorem path_Get_j5_eq m M1 rec1 (h1:H5_1 m M1 rec1) x0 x1 x2 x3 x4 x5 x6 x7:e5 jn m w5_2 [M1] (s5_5 x0 x1 x2 x3 x4 x5 x6 x7)=path_Get_j5 m rec1 x0 x1 x2 x3 x4 x5 x6 x7:=
 tre (g:=fun J=>(bif x5 then
  ((idx (Dt.L x6 3) x1).bind fun v4=>
  (jj J 0 15 0 (s5_3 x1 x2 x3 x4 v4 x7) (e5 J m w5_1 [M1])))
   else
  (jj J 0 15 0 (s5_3 x0 x2 x3 x4 x6 x7) (e5 J m w5_1 [M1])))) (fun J=>by kernel_rfl) (by simp only[jj_eq,path_Get_j3_eq m M1 rec1 h1];rfl)
theorem path_Get_j2_eq m M1 rec1 (h1:H5_1 m M1 rec1) x0 x1 x2 x3 x4:e5 jn m w5_3 [M1] (s5_4 x0 x1 x2 x3 x4)=path_Get_j2 m rec1 x0 x1 x2 x3 x4:=
 tre (g:=fun J=>((idx x0 x2).bind fun v0=>
  (bif ((Dt.I x3 0)==5) then
  ((path_field m (Dt.L x3 4) (Dt.toStr v0)).bind fun r1=>
  (bif (decide (0≤r1)) then
  ((idx (Dt.L x3 4) r1).bind fun v2=>
  (jj J 0 15 0 (s5_3 r1 x0 x1 x2 (Dt.fld v2 1) x4) (e5 J m w5_1 [M1])))
  else
  (jj J 0 15 0 (s5_3 r1 x0 x1 x2 x3 x4) (e5 J m w5_1 [M1]))))
  else
  (bif ((Dt.I x3 0)==6) then
  ((path_Number m (Dt.toStr v0)).bind fun r3=>
  (bif r3.2 then
  (jj J 0 13 0 (s5_5 (-1) r3.1 x0 x1 x2 (decide (r3.1<(List.length (Dt.L x3 3):Int))) x3 x4) (e5 J m w5_2 [M1]))
  else
  (jj J 0 13 0 (s5_5 (-1) r3.1 x0 x1 x2 false x3 x4) (e5 J m w5_2 [M1]))))
  else
  (jj J 0 15 0 (s5_3 (-1) x0 x1 x2 x3 x4) (e5 J m w5_1 [M1])))))) (fun J=>by kernel_rfl) (by simp only[jj_eq,path_Get_j3_eq m M1 rec1 h1,path_Get_j5_eq m M1 rec1 h1];rfl)
theorem path_Get_j6_eq m x0 x1:e5 jn m [1,1] [] (s5_6 x0 x1)=path_Get_j6 m x0 x1:=
 tre (g:=fun J=>((path_clone m x0).bind fun r5=>
  some r5)) (fun J=>by kernel_rfl) (by rfl)
theorem path_Get_l1_eq m:∀M1 x0 x1 x2 x3 x4,l5 jn m [1,0,1,0] [] M1 (s5_4 x0 x1 x2 x3 x4)=path_Get_l1 m M1 x0 x1 x2 x3 x4
 |0,_,_,_,_,_=>rfl
 | M1+1,x0,x1,x2,x3,x4=>
   trl (g:=fun J=>(bif (decide (x2<x1)) then
  (jj J 0 3 0 (s5_4 x0 x1 x2 x3 x4) (e5 J m w5_3 [M1]))
   else
  (jj J 0 18 0 (s5_6 x3 x4) (e5 J m [1,1] [])))) (fun J=>by kernel_rfl) (by simp only[jj_eq,path_Get_j2_eq m M1 (path_Get_l1 m M1) (path_Get_l1_eq m M1),path_Get_j6_eq m];rfl)
theorem path_Get_j0_eq m x0 x1 x2 x3 x4:e5 jn m [1,0,1] [] (s5_4 x0 x1 x2 x3 x4)=path_Get_j0 m x0 x1 x2 x3 x4:=
 tre (g:=fun J=>(jj J 1 2 (Nat.succ m) (s5_4 x0 x1 x2 x3 x4) (l5 J m [1,0,1,0] [] (Nat.succ m)))) (fun J=>by kernel_rfl) (by simp only[jj_eq,path_Get_l1_eq m];rfl)
theorem path_Get_eq m a0 a1:e5 jn m [] [] ⟨[(.dat 36 a0),(.dat 23 (.lst a1))],[],0⟩=path_Get (m+1) a0 a1:=
 tre (g:=fun J=>(jj J 0 2 0 (s5_4 a1 (List.length a1:Int) 0 a0 kza2373) (e5 J m [1,0,1] []))) (fun J=>by kernel_rfl) (by simp only[jj_eq,path_Get_j0_eq m];rfl)
def w23_5:List Nat:=[1,1,1,0,1]
def w23_0:List Nat:=[1,1,1,0,1,0]
def w23_4:List Nat:=w23_0++[0,1]
def w23_1:List Nat:=w23_4++[1]
def w23_2:List Nat:=w23_4++[0,0,1]
def w23_3:List Nat:=w23_4++[0,0,0,1]
noncomputable def e23 (J:Nat→Nat→Nat→St→Option (Int×Bool)→Option (Int×Bool)) (m:Nat) (p ms:List Nat) (σ:St):=evAt Tryd.prog env (ct m) J (m+1) 21 49 Tryd.f21 d20 p ms σ
noncomputable def l23 (J:Nat→Nat→Nat→St→Option (Int×Bool)→Option (Int×Bool)) (m:Nat) (p ms:List Nat) (M:Nat) (σ:St):=loopAt Tryd.prog env (ct m) J (m+1) 21 49 Tryd.f21 d20 p ms M σ
noncomputable def s23_7 (x0:ByteArray) (x1 x2:Int):St:=⟨tsOf [(0,(.dat 9 (.str x0))),(4,(.dat 3 (.int x1))),(5,(.dat 3 (.int x2)))],[],0⟩
noncomputable def s23_5 (x0:ByteArray) (x1 x2:Int) (x3:Bool):St:=⟨tsOf [(0,(.dat 9 (.str x0))),(4,(.dat 3 (.int x1))),(5,(.dat 3 (.int x2))),(39,(.dat 4 (.bool x3)))],[],0⟩
noncomputable def s23_8 (x0:Int):St:=⟨tsOf [(4,(.dat 3 (.int x0)))],[],0⟩
noncomputable def s23_1 (x0:ByteArray):St:=⟨tsOf [(0,(.dat 9 (.str x0)))],[],0⟩
noncomputable def s23_0 (x0:ByteArray) (x1:Bool):St:=⟨tsOf [(0,(.dat 9 (.str x0))),(23,(.dat 4 (.bool x1)))],[],0⟩
abbrev H23_3 (m M3:Nat) (rec3:ByteArray→Int→Int→Option (Int×Bool)):Prop:=∀x0 x1 x2,l23 jn m w23_0 [] M3 (s23_7 x0 x1 x2)=rec3 x0 x1 x2
theorem ref04_Number_j7_eq m M3 rec3 (h3:H23_3 m M3 rec3) x0 x1 x2:e23 jn m w23_1 [M3] (s23_7 x0 x1 x2)=ref04_Number_j7 m rec3 x0 x1 x2:=
 tre (g:=fun J=>(jj J 1 5 M3 (s23_7 x0 x1 (IntKind.wrap .i64 (x2+1))) (l23 J m w23_0 [] M3))) (fun J=>by kernel_rfl) (by simp only[jj_eq,h3];rfl)
theorem ref04_Number_j6_eq m M3 rec3 (h3:H23_3 m M3 rec3) x0 x1 x2:e23 jn m w23_2 [M3] (s23_7 x0 x1 x2)=ref04_Number_j6 m rec3 x0 x1 x2:=
 tre (g:=fun J=>((idxS x0 x2).bind fun v1=>
  (jj J 0 6 0 (s23_7 x0 (IntKind.wrap .i64 ((IntKind.wrap .i64 (x1*10))+(IntKind.wrap .i64 (IntKind.wrap IntKind.u8 (v1-48))))) x2) (e23 J m w23_1 [M3])))) (fun J=>by kernel_rfl) (by simp only[jj_eq,ref04_Number_j7_eq m M3 rec3 h3];rfl)
theorem ref04_Number_j5_eq m M3 rec3 (h3:H23_3 m M3 rec3) x0 x1 x2 x3:e23 jn m w23_3 [M3] (s23_5 x0 x1 x2 x3)=ref04_Number_j5 m rec3 x0 x1 x2 x3:=
 tre (g:=fun J=>(bif x3 then
  some (0,false)
   else
  (jj J 0 9 0 (s23_7 x0 x1 x2) (e23 J m w23_2 [M3])))) (fun J=>by kernel_rfl) (by simp only[jj_eq,ref04_Number_j6_eq m M3 rec3 h3];rfl)
theorem ref04_Number_j4_eq m M3 rec3 (h3:H23_3 m M3 rec3) x0 x1 x2:e23 jn m w23_4 [M3] (s23_7 x0 x1 x2)=ref04_Number_j4 m rec3 x0 x1 x2:=
 tre (g:=fun J=>((idxS x0 x2).bind fun v0=>
  (bif (decide (v0<48)) then
  (jj J 0 8 0 (s23_5 x0 x1 x2 true) (e23 J m w23_3 [M3]))
  else
  ((idxS x0 x2).bind fun v2=>
  (jj J 0 8 0 (s23_5 x0 x1 x2 (decide (57<v2))) (e23 J m w23_3 [M3])))))) (fun J=>by kernel_rfl) (by simp only[jj_eq,ref04_Number_j5_eq m M3 rec3 h3];rfl)
theorem ref04_Number_j8_eq m x0:e23 jn m [1,1,1,1] [] (s23_8 x0)=ref04_Number_j8 m x0:=
 tre (g:=fun J=>some (x0,true)) (fun J=>by kernel_rfl) (by rfl)
theorem ref04_Number_l3_eq m:∀M3 x0 x1 x2,l23 jn m w23_0 [] M3 (s23_7 x0 x1 x2)=ref04_Number_l3 m M3 x0 x1 x2
 |0,_,_,_=>rfl
 | M3+1,x0,x1,x2=>
   trl (g:=fun J=>(bif (decide (x2<(ByteArray.size x0:Int))) then
  (jj J 0 7 0 (s23_7 x0 x1 x2) (e23 J m w23_4 [M3]))
   else
  (jj J 0 10 0 (s23_8 x1) (e23 J m [1,1,1,1] [])))) (fun J=>by kernel_rfl) (by simp only[jj_eq,ref04_Number_j4_eq m M3 (ref04_Number_l3 m M3) (ref04_Number_l3_eq m M3),ref04_Number_j8_eq m];rfl)
theorem ref04_Number_j2_eq m x0 x1 x2:e23 jn m w23_5 [] (s23_7 x0 x1 x2)=ref04_Number_j2 m x0 x1 x2:=
 tre (g:=fun J=>(jj J 1 5 (Nat.succ m) (s23_7 x0 x1 x2) (l23 J m w23_0 [] (Nat.succ m)))) (fun J=>by kernel_rfl) (by simp only[jj_eq,ref04_Number_l3_eq m];rfl)
theorem ref04_Number_j1_eq m x0:e23 jn m [1,1] [] (s23_1 x0)=ref04_Number_j1 m x0:=
 tre (g:=fun J=>(jj J 0 5 0 (s23_7 x0 0 0) (e23 J m w23_5 []))) (fun J=>by kernel_rfl) (by simp only[jj_eq,ref04_Number_j2_eq m];rfl)
theorem ref04_Number_j0_eq m x0 x1:e23 jn m [1,0,1] [] (s23_0 x0 x1)=ref04_Number_j0 m x0 x1:=
 tre (g:=fun J=>(bif x1 then
  some (0,false)
   else
  (jj J 0 3 0 (s23_1 x0) (e23 J m [1,1] [])))) (fun J=>by kernel_rfl) (by simp only[jj_eq,ref04_Number_j1_eq m];rfl)
theorem ref04_Number_eq m a0:e23 jn m [] [] ⟨[(.dat 9 (.str a0))],[],0⟩=ref04_Number (m+1) a0:=
 tre (g:=fun J=>(bif (decide ((ByteArray.size a0:Int)<1)) then
  (jj J 0 2 0 (s23_0 a0 true) (e23 J m [1,0,1] []))
   else
  (bif (decide (4<(ByteArray.size a0:Int))) then
  (jj J 0 2 0 (s23_0 a0 true) (e23 J m [1,0,1] []))
  else
  ((idxS a0 0).bind fun v3=>
  (bif (v3==48) then
  (jj J 0 2 0 (s23_0 a0 (decide (1<(ByteArray.size a0:Int)))) (e23 J m [1,0,1] []))
  else
  (jj J 0 2 0 (s23_0 a0 false) (e23 J m [1,0,1] []))))))) (fun J=>by kernel_rfl) (by simp only[jj_eq,ref04_Number_j0_eq m];rfl)
def w24_7:List Nat:=[1,1,0,1,0,1]
def w24_0:List Nat:=w24_7++[0]
def w24_6:List Nat:=[1,1,1,0,1,0,1]
def w24_3:List Nat:=w24_6++[0]
def w24_2:List Nat:=w24_0++[0,1]
def w24_1:List Nat:=w24_2++[1]
def w24_5:List Nat:=w24_3++[0,1]
def w24_4:List Nat:=w24_5++[1]
noncomputable def e24 (J:Nat→Nat→Nat→St→Option (List Dt)→Option (List Dt)) (m:Nat) (p ms:List Nat) (σ:St):=evAt Tryd.prog env (ct m) J (m+1) 58 44 Tryd.f58 d24 p ms σ
noncomputable def l24 (J:Nat→Nat→Nat→St→Option (List Dt)→Option (List Dt)) (m:Nat) (p ms:List Nat) (M:Nat) (σ:St):=loopAt Tryd.prog env (ct m) J (m+1) 58 44 Tryd.f58 d24 p ms M σ
noncomputable def s24_3 (x0:Int) (x1:Dt) (x2:List Dt):St:=⟨tsOf [(1,(.ptr 0 [] 0)),(3,(.row 1)),(4,(.dat 3 (.int x0)))],[(.box 36 (.dat 36 x1)),(.row 33 x2)],0⟩
noncomputable def s24_8 (x0:Int) (x1:Dt) (x2:List Dt):St:=⟨tsOf [(1,(.ptr 0 [] 0)),(3,(.row 1)),(5,(.dat 3 (.int x0)))],[(.box 36 (.dat 36 x1)),(.row 33 x2)],0⟩
noncomputable def s24_9 (x0:List Dt):St:=⟨tsOf [(3,(.row 0))],[(.row 33 x0)],0⟩
noncomputable def s24_4 (x0:Dt) (x1:List Dt):St:=⟨tsOf [(1,(.ptr 0 [] 0)),(3,(.row 1))],[(.box 36 (.dat 36 x0)),(.row 33 x1)],0⟩
abbrev H24_1 (m M1:Nat) (rec1:Int→Dt→List Dt→Option (List Dt)):Prop:=∀x0 x1 x2,l24 jn m w24_0 [] M1 (s24_3 x0 x1 x2)=rec1 x0 x1 x2
theorem ref01_Parts_j3_eq m M1 rec1 (h1:H24_1 m M1 rec1) x0 x1 x2:e24 jn m w24_1 [M1] (s24_3 x0 x1 x2)=ref01_Parts_j3 m rec1 x0 x1 x2:=
 tre (g:=fun J=>(jj J 1 4 M1 (s24_3 (IntKind.wrap .i64 (x0+1)) x1 x2) (l24 J m w24_0 [] M1))) (fun J=>by kernel_rfl) (by simp only[jj_eq,h1];rfl)
theorem ref01_Parts_j2_eq m M1 rec1 (h1:H24_1 m M1 rec1) x0 x1 x2:e24 jn m w24_2 [M1] (s24_3 x0 x1 x2)=ref01_Parts_j2 m rec1 x0 x1 x2:=
 tre (g:=fun J=>((idx (Dt.L x1 3) x0).bind fun v0=>
  ((app x2 [v0]).bind fun v1=>
  (jj J 0 5 0 (s24_3 x0 x1 v1) (e24 J m w24_1 [M1]))))) (fun J=>by kernel_rfl) (by simp only[jj_eq,ref01_Parts_j3_eq m M1 rec1 h1];rfl)
abbrev H24_6 (m M6:Nat) (rec6:Int→Dt→List Dt→Option (List Dt)):Prop:=∀x0 x1 x2,l24 jn m w24_3 [] M6 (s24_8 x0 x1 x2)=rec6 x0 x1 x2
theorem ref01_Parts_j8_eq m M6 rec6 (h6:H24_6 m M6 rec6) x0 x1 x2:e24 jn m w24_4 [M6] (s24_8 x0 x1 x2)=ref01_Parts_j8 m rec6 x0 x1 x2:=
 tre (g:=fun J=>(jj J 1 9 M6 (s24_8 (IntKind.wrap .i64 (x0+1)) x1 x2) (l24 J m w24_3 [] M6))) (fun J=>by kernel_rfl) (by simp only[jj_eq,h6];rfl)
theorem ref01_Parts_j7_eq m M6 rec6 (h6:H24_6 m M6 rec6) x0 x1 x2:e24 jn m w24_5 [M6] (s24_8 x0 x1 x2)=ref01_Parts_j7 m rec6 x0 x1 x2:=
 tre (g:=fun J=>((idx (Dt.L x1 4) x0).bind fun v2=>
  ((app x2 [(Dt.fld v2 1)]).bind fun v3=>
  (jj J 0 10 0 (s24_8 x0 x1 v3) (e24 J m w24_4 [M6]))))) (fun J=>by kernel_rfl) (by simp only[jj_eq,ref01_Parts_j8_eq m M6 rec6 h6];rfl)
theorem ref01_Parts_j9_eq m x0:e24 jn m [1,1,1,1] [] (s24_9 x0)=ref01_Parts_j9 m x0:=
 tre (g:=fun J=>some x0) (fun J=>by kernel_rfl) (by rfl)
theorem ref01_Parts_l6_eq m:∀M6 x0 x1 x2,l24 jn m w24_3 [] M6 (s24_8 x0 x1 x2)=ref01_Parts_l6 m M6 x0 x1 x2
 |0,_,_,_=>rfl
 | M6+1,x0,x1,x2=>
   trl (g:=fun J=>(bif (decide (x0<(List.length (Dt.L x1 4):Int))) then
  (jj J 0 11 0 (s24_8 x0 x1 x2) (e24 J m w24_5 [M6]))
   else
  (jj J 0 12 0 (s24_9 x2) (e24 J m [1,1,1,1] [])))) (fun J=>by kernel_rfl) (by simp only[jj_eq,ref01_Parts_j7_eq m M6 (ref01_Parts_l6 m M6) (ref01_Parts_l6_eq m M6),ref01_Parts_j9_eq m];rfl)
theorem ref01_Parts_j5_eq m x0 x1 x2:e24 jn m w24_6 [] (s24_8 x0 x1 x2)=ref01_Parts_j5 m x0 x1 x2:=
 tre (g:=fun J=>(jj J 1 9 (Nat.succ m) (s24_8 x0 x1 x2) (l24 J m w24_3 [] (Nat.succ m)))) (fun J=>by kernel_rfl) (by simp only[jj_eq,ref01_Parts_l6_eq m];rfl)
theorem ref01_Parts_j4_eq m x0 x1:e24 jn m [1,1,1] [] (s24_4 x0 x1)=ref01_Parts_j4 m x0 x1:=
 tre (g:=fun J=>(bif ((Dt.I x0 0)==5) then
  (jj J 0 9 0 (s24_8 0 x0 x1) (e24 J m w24_6 []))
   else
  (jj J 0 12 0 (s24_9 x1) (e24 J m [1,1,1,1] [])))) (fun J=>by kernel_rfl) (by simp only[jj_eq,ref01_Parts_j5_eq m,ref01_Parts_j9_eq m];rfl)
theorem ref01_Parts_l1_eq m:∀M1 x0 x1 x2,l24 jn m w24_0 [] M1 (s24_3 x0 x1 x2)=ref01_Parts_l1 m M1 x0 x1 x2
 |0,_,_,_=>rfl
 | M1+1,x0,x1,x2=>
   trl (g:=fun J=>(bif (decide (x0<(List.length (Dt.L x1 3):Int))) then
  (jj J 0 6 0 (s24_3 x0 x1 x2) (e24 J m w24_2 [M1]))
   else
  (jj J 0 7 0 (s24_4 x1 x2) (e24 J m [1,1,1] [])))) (fun J=>by kernel_rfl) (by simp only[jj_eq,ref01_Parts_j2_eq m M1 (ref01_Parts_l1 m M1) (ref01_Parts_l1_eq m M1),ref01_Parts_j4_eq m];rfl)
theorem ref01_Parts_j0_eq m x0 x1 x2:e24 jn m w24_7 [] (s24_3 x0 x1 x2)=ref01_Parts_j0 m x0 x1 x2:=
 tre (g:=fun J=>(jj J 1 4 (Nat.succ m) (s24_3 x0 x1 x2) (l24 J m w24_0 [] (Nat.succ m)))) (fun J=>by kernel_rfl) (by simp only[jj_eq,ref01_Parts_l1_eq m];rfl)
theorem ref01_Parts_eq m a0:e24 jn m [] [] ⟨[(.dat 36 a0)],[],0⟩=ref01_Parts (m+1) a0:=
 tre (g:=fun J=>(bif ((Dt.I a0 0)==6) then
  (jj J 0 4 0 (s24_3 0 a0 []) (e24 J m w24_7 []))
   else
  (jj J 0 7 0 (s24_4 a0 []) (e24 J m [1,1,1] [])))) (fun J=>by kernel_rfl) (by simp only[jj_eq,ref01_Parts_j0_eq m,ref01_Parts_j4_eq m];rfl)
def w8_3:List Nat:=[1,1,1,0,1]
def w8_0:List Nat:=[1,1,1,0,1,0]
def w8_2:List Nat:=w8_0++[0,1]
def w8_1:List Nat:=w8_2++[1]
noncomputable def e8 (J:Nat→Nat→Nat→St→Option Bool→Option Bool) (m:Nat) (p ms:List Nat) (σ:St):=evAt Tryd.prog env (ct m) J (m+1) 28 21 Tryd.f28 d7 p ms σ
noncomputable def l8 (J:Nat→Nat→Nat→St→Option Bool→Option Bool) (m:Nat) (p ms:List Nat) (M:Nat) (σ:St):=loopAt Tryd.prog env (ct m) J (m+1) 28 21 Tryd.f28 d7 p ms M σ
noncomputable def s8_4 (x0:List Dt) (x1:Int):St:=⟨tsOf [(3,(.dat 33 (.lst x0))),(4,(.dat 3 (.int x1)))],[],0⟩
noncomputable def s8_5:St:=⟨tsOf [],[],0⟩
noncomputable def s8_0 (x0:Dt):St:=⟨tsOf [(1,(.ptr 0 [] 0))],[(.box 36 (.dat 36 x0))],0⟩
abbrev H8_2 (m M2:Nat) (rec2:List Dt→Int→Option Bool):Prop:=∀x0 x1,l8 jn m w8_0 [] M2 (s8_4 x0 x1)=rec2 x0 x1
theorem law04_lists_j4_eq m M2 rec2 (h2:H8_2 m M2 rec2) x0 x1:e8 jn m w8_1 [M2] (s8_4 x0 x1)=law04_lists_j4 m (law04_lists m) rec2 x0 x1:=
 tre (g:=fun J=>(jj J 1 5 M2 (s8_4 x0 (IntKind.wrap .i64 (x1+1))) (l8 J m w8_0 [] M2))) (fun J=>by kernel_rfl) (by simp only[jj_eq,h2];rfl)
theorem law04_lists_j3_eq m M2 rec2 (h2:H8_2 m M2 rec2) x0 x1:e8 jn m w8_2 [M2] (s8_4 x0 x1)=law04_lists_j3 m (law04_lists m) rec2 x0 x1:=
 tre (g:=fun J=>((idx x0 x1).bind fun v1=>
  ((law04_lists m v1).bind fun r2=>
  (bif r2 then
  some true
  else
  (jj J 0 6 0 (s8_4 x0 x1) (e8 J m w8_1 [M2])))))) (fun J=>by kernel_rfl) (by simp only[jj_eq,law04_lists_j4_eq m M2 rec2 h2];rfl)
theorem law04_lists_j5_eq m:e8 jn m [1,1,1,1] [] s8_5=law04_lists_j5 m (law04_lists m):=
 tre (g:=fun J=>some false) (fun J=>by kernel_rfl) (by rfl)
theorem law04_lists_l2_eq m:∀M2 x0 x1,l8 jn m w8_0 [] M2 (s8_4 x0 x1)=law04_lists_l2 m (law04_lists m) M2 x0 x1
 |0,_,_=>rfl
 | M2+1,x0,x1=>
   trl (g:=fun J=>(bif (decide (x1<(List.length x0:Int))) then
  (jj J 0 7 0 (s8_4 x0 x1) (e8 J m w8_2 [M2]))
   else
  (jj J 0 9 0 s8_5 (e8 J m [1,1,1,1] [])))) (fun J=>by kernel_rfl) (by simp only[jj_eq,law04_lists_j3_eq m M2 (law04_lists_l2 m (law04_lists m) M2) (law04_lists_l2_eq m M2),law04_lists_j5_eq m];rfl)
theorem law04_lists_j1_eq m x0 x1:e8 jn m w8_3 [] (s8_4 x0 x1)=law04_lists_j1 m (law04_lists m) x0 x1:=
 tre (g:=fun J=>(jj J 1 5 (Nat.succ m) (s8_4 x0 x1) (l8 J m w8_0 [] (Nat.succ m)))) (fun J=>by kernel_rfl) (by simp only[jj_eq,law04_lists_l2_eq m];rfl)
theorem law04_lists_j0_eq m x0:e8 jn m [1,1] [] (s8_0 x0)=law04_lists_j0 m (law04_lists m) x0:=
 tre (g:=fun J=>((ref01_Parts m x0).bind fun r0=>
  (jj J 0 5 0 (s8_4 r0 0) (e8 J m w8_3 [])))) (fun J=>by kernel_rfl) (by simp only[jj_eq,law04_lists_j1_eq m];rfl)
theorem law04_lists_eq m a0:e8 jn m [] [] ⟨[(.dat 36 a0)],[],0⟩=law04_lists (m+1) a0:=
 tre (g:=fun J=>(bif ((Dt.I a0 0)==6) then
  some true
   else
  (jj J 0 3 0 (s8_0 a0) (e8 J m [1,1] [])))) (fun J=>by kernel_rfl) (by simp only[jj_eq,law04_lists_j0_eq m];rfl)
def w25_4:List Nat:=[1,1,0,1,0,1,1,1,0,1]
def w25_5:List Nat:=[1,1,0,1,0,1,1,1,0,0,1]
def w25_0:List Nat:=w25_5++[0]
def w25_3:List Nat:=w25_4++[1,1]
def w25_2:List Nat:=w25_0++[0,1,1]
def w25_1:List Nat:=w25_2++[1]
noncomputable def e25 (J:Nat→Nat→Nat→St→Option (List Dt)→Option (List Dt)) (m:Nat) (p ms:List Nat) (σ:St):=evAt Tryd.prog env (ct m) J (m+1) 59 83 Tryd.f59 d25 p ms σ
noncomputable def l25 (J:Nat→Nat→Nat→St→Option (List Dt)→Option (List Dt)) (m:Nat) (p ms:List Nat) (M:Nat) (σ:St):=loopAt Tryd.prog env (ct m) J (m+1) 59 83 Tryd.f59 d25 p ms M σ
noncomputable def s25_1 (x0:List Dt):St:=⟨tsOf [(0,(.row 1))],[.gone,(.row 33 x0)],1⟩
noncomputable def s25_5 (x0 x1:List Dt) (x2 x3:Int) (x4:List Dt) (x5:Dt):St:=⟨tsOf [(0,(.row 1)),(2,(.dat 23 (.lst x0))),(4,(.ptr 2 [] 0)),(44,(.dat 33 (.lst x1))),(45,(.dat 3 (.int x2))),(46,(.dat 3 (.int x3)))],[.gone,(.row 33 x4),(.box 36 (.dat 36 x5))],1⟩
noncomputable def s25_7 (x0:List Dt) (x1:Int) (x2:Bool) (x3:List Dt) (x4:Dt):St:=⟨tsOf [(0,(.row 1)),(2,(.dat 23 (.lst x0))),(4,(.ptr 2 [] 0)),(10,(.dat 3 (.int x1))),(72,(.dat 4 (.bool x2)))],[.gone,(.row 33 x3),(.box 36 (.dat 36 x4))],1⟩
noncomputable def s25_6 (x0 x1:List Dt) (x2:Dt):St:=⟨tsOf [(0,(.row 1)),(2,(.dat 23 (.lst x0))),(4,(.ptr 2 [] 0))],[.gone,(.row 33 x1),(.box 36 (.dat 36 x2))],1⟩
theorem i25_j1_eq m x0:e25 jn m [1,1,1] [] (s25_1 x0)=i25_j1 m (i25 m) x0:=
 tre (g:=fun J=>some x0) (fun J=>by kernel_rfl) (by rfl)
abbrev H25_3 (m M3:Nat) (rec3:List Dt→List Dt→Int→Int→List Dt→Dt→Option (List Dt)):Prop:=∀x0 x1 x2 x3 x4 x5,l25 jn m w25_0 [] M3 (s25_5 x0 x1 x2 x3 x4 x5)=rec3 x0 x1 x2 x3 x4 x5
theorem i25_j5_eq m M3 rec3 (h3:H25_3 m M3 rec3) x0 x1 x2 x3 x4 x5:e25 jn m w25_1 [M3] (s25_5 x0 x1 x2 x3 x4 x5)=i25_j5 m (i25 m) rec3 x0 x1 x2 x3 x4 x5:=
 tre (g:=fun J=>(jj J 1 10 M3 (s25_5 x0 x1 x2 (IntKind.wrap .i64 (x3+1)) x4 x5) (l25 J m w25_0 [] M3))) (fun J=>by kernel_rfl) (by simp only[jj_eq,h3];rfl)
theorem i25_j4_eq m M3 rec3 (h3:H25_3 m M3 rec3) x0 x1 x2 x3 x4 x5:e25 jn m w25_2 [M3] (s25_5 x0 x1 x2 x3 x4 x5)=i25_j4 m (i25 m) rec3 x0 x1 x2 x3 x4 x5:=
 tre (g:=fun J=>((idx x1 x3).bind fun v6=>
  (bif ((Dt.I v6 0)==5) then
  ((i25 m v6 x0 x4).bind fun r7=>
  (jj J 0 14 0 (s25_5 x0 x1 x2 x3 r7 x5) (e25 J m w25_1 [M3])))
  else
  (jj J 0 14 0 (s25_5 x0 x1 x2 x3 x4 x5) (e25 J m w25_1 [M3]))))) (fun J=>by kernel_rfl) (by simp only[jj_eq,i25_j5_eq m M3 rec3 h3];rfl)
theorem i25_j7_eq m x0 x1 x2 x3 x4:e25 jn m w25_3 [] (s25_7 x0 x1 x2 x3 x4)=i25_j7 m (i25 m) x0 x1 x2 x3 x4:=
 tre (g:=fun J=>(bif x2 then
  ((idx (Dt.L x4 3) x1).bind fun v10=>
  ((cutL x0 1 (List.length x0:Int)).bind fun v11=>
  ((i25 m v10 v11 x3).bind fun r12=>
  (jj J 0 18 0 (s25_1 r12) (e25 J m [1,1,1] [])))))
   else
  (jj J 0 18 0 (s25_1 x3) (e25 J m [1,1,1] [])))) (fun J=>by kernel_rfl) (by simp only[jj_eq,i25_j1_eq m];rfl)
theorem i25_j6_eq m x0 x1 x2:e25 jn m w25_4 [] (s25_6 x0 x1 x2)=i25_j6 m (i25 m) x0 x1 x2:=
 tre (g:=fun J=>((idx x0 0).bind fun v8=>
  ((path_Number m (Dt.toStr v8)).bind fun r9=>
  (bif r9.2 then
  (jj J 0 17 0 (s25_7 x0 r9.1 (decide (r9.1<(List.length (Dt.L x2 3):Int))) x1 x2) (e25 J m w25_3 []))
  else
  (jj J 0 17 0 (s25_7 x0 r9.1 false x1 x2) (e25 J m w25_3 [])))))) (fun J=>by kernel_rfl) (by simp only[jj_eq,i25_j7_eq m];rfl)
theorem i25_l3_eq m:∀M3 x0 x1 x2 x3 x4 x5,l25 jn m w25_0 [] M3 (s25_5 x0 x1 x2 x3 x4 x5)=i25_l3 m (i25 m) M3 x0 x1 x2 x3 x4 x5
 |0,_,_,_,_,_,_=>rfl
 | M3+1,x0,x1,x2,x3,x4,x5=>
   trl (g:=fun J=>(bif (decide (x3<x2)) then
  (jj J 0 11 0 (s25_5 x0 x1 x2 x3 x4 x5) (e25 J m w25_2 [M3]))
   else
  (jj J 0 15 0 (s25_6 x0 x4 x5) (e25 J m w25_4 [])))) (fun J=>by kernel_rfl) (by simp only[jj_eq,i25_j4_eq m M3 (i25_l3 m (i25 m) M3) (i25_l3_eq m M3),i25_j6_eq m];rfl)
theorem i25_j2_eq m x0 x1 x2 x3 x4 x5:e25 jn m w25_5 [] (s25_5 x0 x1 x2 x3 x4 x5)=i25_j2 m (i25 m) x0 x1 x2 x3 x4 x5:=
 tre (g:=fun J=>(jj J 1 10 (Nat.succ m) (s25_5 x0 x1 x2 x3 x4 x5) (l25 J m w25_0 [] (Nat.succ m)))) (fun J=>by kernel_rfl) (by simp only[jj_eq,i25_l3_eq m];rfl)
theorem i25_j0_eq m x0 x1 x2:e25 jn m [1,1] [] (s25_6 x0 x1 x2)=i25_j0 m (i25 m) x0 x1 x2:=
 tre (g:=fun J=>(bif ((Dt.I x2 0)==5) then
  ((idx x0 0).bind fun v1=>
  ((path_field m (Dt.L x2 4) (Dt.toStr v1)).bind fun r2=>
  (bif (decide (0≤r2)) then
  ((idx (Dt.L x2 4) r2).bind fun v3=>
  ((cutL x0 1 (List.length x0:Int)).bind fun v4=>
  ((i25 m (Dt.fld v3 1) v4 x1).bind fun r5=>
  (jj J 0 18 0 (s25_1 r5) (e25 J m [1,1,1] [])))))
  else
  (jj J 0 18 0 (s25_1 x1) (e25 J m [1,1,1] [])))))
   else
  (bif ((Dt.I x2 0)==6) then
  (jj J 0 10 0 (s25_5 x0 (Dt.L x2 3) (List.length (Dt.L x2 3):Int) 0 x1 x2) (e25 J m w25_5 []))
  else
  (jj J 0 18 0 (s25_1 x1) (e25 J m [1,1,1] []))))) (fun J=>by kernel_rfl) (by simp only[jj_eq,i25_j1_eq m,i25_j2_eq m];rfl)
theorem i25_eq m a0 a1 a2:e25 jn m [] [] ⟨[(.row 0),(.dat 36 a0),(.dat 23 (.lst a1))],[(.row 33 a2)],1⟩=i25 (m+1) a0 a1 a2:=
 tre (g:=fun J=>(bif ((List.length a1:Int)==0) then
  ((app a2 [a0]).bind fun v0=>
  some v0)
   else
  (jj J 0 3 0 (s25_6 a1 a2 a0) (e25 J m [1,1] [])))) (fun J=>by kernel_rfl) (by simp only[jj_eq,i25_j0_eq m];rfl)
def w9_3:List Nat:=[1,1,1,0,1]
def w9_0:List Nat:=[1,1,1,0,1,0]
def w9_2:List Nat:=w9_0++[0,1,1]
def w9_1:List Nat:=w9_2++[1]
noncomputable def e9 (J:Nat→Nat→Nat→St→Option (List Dt)→Option (List Dt)) (m:Nat) (p ms:List Nat) (σ:St):=evAt Tryd.prog env (ct m) J (m+1) 30 30 Tryd.f30 d24 p ms σ
noncomputable def l9 (J:Nat→Nat→Nat→St→Option (List Dt)→Option (List Dt)) (m:Nat) (p ms:List Nat) (M:Nat) (σ:St):=loopAt Tryd.prog env (ct m) J (m+1) 30 30 Tryd.f30 d24 p ms M σ
noncomputable def s9_4 (x0 x1:Int) (x2:List Dt):St:=⟨tsOf [(5,(.row 0)),(16,(.row 0)),(17,(.dat 3 (.int x0))),(18,(.dat 3 (.int x1)))],[(.row 33 x2)],0⟩
noncomputable def s9_5 (x0:List Dt):St:=⟨tsOf [(5,(.row 0))],[(.row 33 x0)],0⟩
abbrev H9_2 (m M2:Nat) (rec2:Int→Int→List Dt→Option (List Dt)):Prop:=∀x0 x1 x2,l9 jn m w9_0 [] M2 (s9_4 x0 x1 x2)=rec2 x0 x1 x2
theorem path_Reach_j4_eq m M2 rec2 (h2:H9_2 m M2 rec2) x0 x1 x2:e9 jn m w9_1 [M2] (s9_4 x0 x1 x2)=path_Reach_j4 m rec2 x0 x1 x2:=
 tre (g:=fun J=>(jj J 1 5 M2 (s9_4 x0 (IntKind.wrap .i64 (x1+1)) x2) (l9 J m w9_0 [] M2))) (fun J=>by kernel_rfl) (by simp only[jj_eq,h2];rfl)
theorem path_Reach_j3_eq m M2 rec2 (h2:H9_2 m M2 rec2) x0 x1 x2:e9 jn m w9_2 [M2] (s9_4 x0 x1 x2)=path_Reach_j3 m rec2 x0 x1 x2:=
 tre (g:=fun J=>((inL x2 x1).bind fun v1=>
  ((x2[(Int.toNat x1)]?).bind fun v2=>
  ((path_clone m v2).bind fun r3=>
  ((inL x2 x1).bind fun v4=>
  ((x2[(Int.toNat x1)]?).bind fun v5=>
  (jj J 0 8 0 (s9_4 x0 x1 (List.set x2 (Int.toNat x1) r3)) (e9 J m w9_1 [M2])))))))) (fun J=>by kernel_rfl) (by simp only[jj_eq,path_Reach_j4_eq m M2 rec2 h2];rfl)
theorem path_Reach_j5_eq m x0:e9 jn m [1,1,1,1] [] (s9_5 x0)=path_Reach_j5 m x0:=
 tre (g:=fun J=>some x0) (fun J=>by kernel_rfl) (by rfl)
theorem path_Reach_l2_eq m:∀M2 x0 x1 x2,l9 jn m w9_0 [] M2 (s9_4 x0 x1 x2)=path_Reach_l2 m M2 x0 x1 x2
 |0,_,_,_=>rfl
 | M2+1,x0,x1,x2=>
   trl (g:=fun J=>(bif (decide (x1<x0)) then
  (jj J 0 6 0 (s9_4 x0 x1 x2) (e9 J m w9_2 [M2]))
   else
  (jj J 0 9 0 (s9_5 x2) (e9 J m [1,1,1,1] [])))) (fun J=>by kernel_rfl) (by simp only[jj_eq,path_Reach_j3_eq m M2 (path_Reach_l2 m M2) (path_Reach_l2_eq m M2),path_Reach_j5_eq m];rfl)
theorem path_Reach_j1_eq m x0 x1 x2:e9 jn m w9_3 [] (s9_4 x0 x1 x2)=path_Reach_j1 m x0 x1 x2:=
 tre (g:=fun J=>(jj J 1 5 (Nat.succ m) (s9_4 x0 x1 x2) (l9 J m w9_0 [] (Nat.succ m)))) (fun J=>by kernel_rfl) (by simp only[jj_eq,path_Reach_l2_eq m];rfl)
theorem path_Reach_j0_eq m x0:e9 jn m [1,1,1] [] (s9_5 x0)=path_Reach_j0 m x0:=
 tre (g:=fun J=>(jj J 0 5 0 (s9_4 (List.length x0:Int) 0 x0) (e9 J m w9_3 []))) (fun J=>by kernel_rfl) (by simp only[jj_eq,path_Reach_j1_eq m];rfl)
theorem path_Reach_eq m a0 a1:e9 jn m [] [] ⟨[(.dat 36 a0),(.dat 23 (.lst a1))],[],0⟩=path_Reach (m+1) a0 a1:=
 tre (g:=fun J=>((i25 m a0 a1 []).bind fun r0=>
  (bif ((List.length r0:Int)==0) then
  some [kza2373]
  else
  (jj J 0 4 0 (s9_5 r0) (e9 J m [1,1,1] []))))) (fun J=>by kernel_rfl) (by simp only[jj_eq,path_Reach_j0_eq m];rfl)
noncomputable def e28 (J:Nat→Nat→Nat→St→Option Dt→Option Dt) (m:Nat) (p ms:List Nat) (σ:St):=evAt Tryd.prog env (ct m) J (m+1) 57 2 Tryd.f57 d21 p ms σ
noncomputable def l28 (J:Nat→Nat→Nat→St→Option Dt→Option Dt) (m:Nat) (p ms:List Nat) (M:Nat) (σ:St):=loopAt Tryd.prog env (ct m) J (m+1) 57 2 Tryd.f57 d21 p ms M σ
theorem ref01_Null_eq m:e28 jn m [] [] ⟨[],[],0⟩=ref01_Null (m+1):=
 tre (g:=fun J=>some kz3c25e) (fun J=>by kernel_rfl) (by rfl)
def w31_0:List Nat:=[1,1,0,1,0]
def w31_2:List Nat:=[1,1,0,1,0,0,1,1]
def w31_1:List Nat:=w31_2++[1]
noncomputable def e31 (J:Nat→Nat→Nat→St→Option Bool→Option Bool) (m:Nat) (p ms:List Nat) (σ:St):=evAt Tryd.prog env (ct m) J (m+1) 63 26 Tryd.f63 d7 p ms σ
noncomputable def l31 (J:Nat→Nat→Nat→St→Option Bool→Option Bool) (m:Nat) (p ms:List Nat) (M:Nat) (σ:St):=loopAt Tryd.prog env (ct m) J (m+1) 63 26 Tryd.f63 d7 p ms M σ
noncomputable def s31_4 (x0 x1:List Dt) (x2 x3:Int):St:=⟨tsOf [(0,(.dat 23 (.lst x0))),(1,(.dat 23 (.lst x1))),(12,(.dat 3 (.int x2))),(13,(.dat 3 (.int x3)))],[],0⟩
noncomputable def s31_5:St:=⟨tsOf [],[],0⟩
noncomputable def s31_0 (x0 x1:List Dt):St:=⟨tsOf [(0,(.dat 23 (.lst x0))),(1,(.dat 23 (.lst x1)))],[],0⟩
abbrev H31_2 (m M2:Nat) (rec2:List Dt→List Dt→Int→Int→Option Bool):Prop:=∀x0 x1 x2 x3,l31 jn m w31_0 [] M2 (s31_4 x0 x1 x2 x3)=rec2 x0 x1 x2 x3
theorem slices_Equal_j4_eq m M2 rec2 (h2:H31_2 m M2 rec2) x0 x1 x2 x3:e31 jn m w31_1 [M2] (s31_4 x0 x1 x2 x3)=slices_Equal_j4 m rec2 x0 x1 x2 x3:=
 tre (g:=fun J=>(jj J 1 4 M2 (s31_4 x0 x1 x2 (IntKind.wrap .i64 (x3+1))) (l31 J m w31_0 [] M2))) (fun J=>by kernel_rfl) (by simp only[jj_eq,h2];rfl)
theorem slices_Equal_j3_eq m M2 rec2 (h2:H31_2 m M2 rec2) x0 x1 x2 x3:e31 jn m w31_2 [M2] (s31_4 x0 x1 x2 x3)=slices_Equal_j3 m rec2 x0 x1 x2 x3:=
 tre (g:=fun J=>((idx x0 x3).bind fun v0=>
  ((idx x1 x3).bind fun v1=>
  (bif (Bool.not ((ByteArray.toList (Dt.toStr v0))==(ByteArray.toList (Dt.toStr v1)))) then
  some false
  else
  (jj J 0 8 0 (s31_4 x0 x1 x2 x3) (e31 J m w31_1 [M2])))))) (fun J=>by kernel_rfl) (by simp only[jj_eq,slices_Equal_j4_eq m M2 rec2 h2];rfl)
theorem slices_Equal_j5_eq m:e31 jn m [1,1,1] [] s31_5=slices_Equal_j5 m:=
 tre (g:=fun J=>some true) (fun J=>by kernel_rfl) (by rfl)
theorem slices_Equal_l2_eq m:∀M2 x0 x1 x2 x3,l31 jn m w31_0 [] M2 (s31_4 x0 x1 x2 x3)=slices_Equal_l2 m M2 x0 x1 x2 x3
 |0,_,_,_,_=>rfl
 | M2+1,x0,x1,x2,x3=>
   trl (g:=fun J=>(bif (decide (x3<x2)) then
  (jj J 0 5 0 (s31_4 x0 x1 x2 x3) (e31 J m w31_2 [M2]))
   else
  (jj J 0 9 0 s31_5 (e31 J m [1,1,1] [])))) (fun J=>by kernel_rfl) (by simp only[jj_eq,slices_Equal_j3_eq m M2 (slices_Equal_l2 m M2) (slices_Equal_l2_eq m M2),slices_Equal_j5_eq m];rfl)
theorem slices_Equal_j1_eq m x0 x1 x2 x3:e31 jn m [1,1,0,1] [] (s31_4 x0 x1 x2 x3)=slices_Equal_j1 m x0 x1 x2 x3:=
 tre (g:=fun J=>(jj J 1 4 (Nat.succ m) (s31_4 x0 x1 x2 x3) (l31 J m w31_0 [] (Nat.succ m)))) (fun J=>by kernel_rfl) (by simp only[jj_eq,slices_Equal_l2_eq m];rfl)
theorem slices_Equal_j0_eq m x0 x1:e31 jn m [1,1] [] (s31_0 x0 x1)=slices_Equal_j0 m x0 x1:=
 tre (g:=fun J=>(jj J 0 4 0 (s31_4 x0 x1 (List.length x0:Int) 0) (e31 J m [1,1,0,1] []))) (fun J=>by kernel_rfl) (by simp only[jj_eq,slices_Equal_j1_eq m];rfl)
theorem slices_Equal_eq m a0 a1:e31 jn m [] [] ⟨[(.dat 23 (.lst a0)),(.dat 23 (.lst a1))],[],0⟩=slices_Equal (m+1) a0 a1:=
 tre (g:=fun J=>(bif ((List.length a0:Int) !=(List.length a1:Int)) then
  some false
   else
  (jj J 0 3 0 (s31_0 a0 a1) (e31 J m [1,1] [])))) (fun J=>by kernel_rfl) (by simp only[jj_eq,slices_Equal_j0_eq m];rfl)
noncomputable def e15 (J:Nat→Nat→Nat→St→Option Bool→Option Bool) (m:Nat) (p ms:List Nat) (σ:St):=evAt Tryd.prog env (ct m) J (m+1) 34 18 Tryd.f34 d7 p ms σ
noncomputable def l15 (J:Nat→Nat→Nat→St→Option Bool→Option Bool) (m:Nat) (p ms:List Nat) (M:Nat) (σ:St):=loopAt Tryd.prog env (ct m) J (m+1) 34 18 Tryd.f34 d7 p ms M σ
theorem path_Overlap_eq m a0 a1:e15 jn m [] [] ⟨[(.dat 23 (.lst a0)),(.dat 23 (.lst a1))],[],0⟩=path_Overlap (m+1) a0 a1:=
 tre (g:=fun J=>((cutL a0 0 (bif (decide ((List.length a1:Int)<(List.length a0:Int))) then(List.length a1:Int) else(List.length a0:Int))).bind fun v0=>
  ((cutL a1 0 (bif (decide ((List.length a1:Int)<(List.length a0:Int))) then(List.length a1:Int) else(List.length a0:Int))).bind fun v1=>
  ((slices_Equal m v0 v1).bind fun r2=>
  some r2)))) (fun J=>by kernel_rfl) (by rfl)
def w33_3:List Nat:=[1,1,1,1,1]
def w33_4:List Nat:=[1,1,1,1,0,1]
def w33_0:List Nat:=w33_4++[0]
def w33_2:List Nat:=w33_0++[0,1]
def w33_1:List Nat:=w33_2++[1]
noncomputable def e33 (J:Nat→Nat→Nat→St→Option Int→Option Int) (m:Nat) (p ms:List Nat) (σ:St):=evAt Tryd.prog env (ct m) J (m+1) 70 34 Tryd.f70 d19 p ms σ
noncomputable def l33 (J:Nat→Nat→Nat→St→Option Int→Option Int) (m:Nat) (p ms:List Nat) (M:Nat) (σ:St):=loopAt Tryd.prog env (ct m) J (m+1) 70 34 Tryd.f70 d19 p ms M σ
noncomputable def s33_5 (x0:Int) (x1:List Dt) (x2 x3:Int):St:=⟨tsOf [(1,(.dat 3 (.int x0))),(5,(.dat 33 (.lst x1))),(6,(.dat 3 (.int x2))),(7,(.dat 3 (.int x3)))],[],0⟩
noncomputable def s33_6 (x0:Int):St:=⟨tsOf [(6,(.dat 3 (.int x0)))],[],0⟩
noncomputable def s33_1 (x0:Int) (x1:List Dt):St:=⟨tsOf [(1,(.dat 3 (.int x0))),(5,(.dat 33 (.lst x1)))],[],0⟩
noncomputable def s33_0 (x0:Int) (x1:List Dt) (x2:Bool):St:=⟨tsOf [(1,(.dat 3 (.int x0))),(5,(.dat 33 (.lst x1))),(16,(.dat 4 (.bool x2)))],[],0⟩
abbrev H33_3 (m M3:Nat) (rec3:Int→List Dt→Int→Int→Option Int):Prop:=∀x0 x1 x2 x3,l33 jn m w33_0 [] M3 (s33_5 x0 x1 x2 x3)=rec3 x0 x1 x2 x3
theorem ref01_levels_j5_eq m M3 rec3 (h3:H33_3 m M3 rec3) x0 x1 x2 x3:e33 jn m w33_1 [M3] (s33_5 x0 x1 x2 x3)=ref01_levels_j5 m (ref01_levels m) rec3 x0 x1 x2 x3:=
 tre (g:=fun J=>(jj J 1 6 M3 (s33_5 x0 x1 x2 (IntKind.wrap .i64 (x3+1))) (l33 J m w33_0 [] M3))) (fun J=>by kernel_rfl) (by simp only[jj_eq,h3];rfl)
theorem ref01_levels_j4_eq m M3 rec3 (h3:H33_3 m M3 rec3) x0 x1 x2 x3:e33 jn m w33_2 [M3] (s33_5 x0 x1 x2 x3)=ref01_levels_j4 m (ref01_levels m) rec3 x0 x1 x2 x3:=
 tre (g:=fun J=>((idx x1 x3).bind fun v1=>
  ((ref01_levels m v1 (IntKind.wrap .i64 (x0-1))).bind fun r2=>
  (jj J 0 7 0 (s33_5 x0 x1 (bif (decide (x2<r2)) then r2 else x2) x3) (e33 J m w33_1 [M3]))))) (fun J=>by kernel_rfl) (by simp only[jj_eq,ref01_levels_j5_eq m M3 rec3 h3];rfl)
theorem ref01_levels_j6_eq m x0:e33 jn m w33_3 [] (s33_6 x0)=ref01_levels_j6 m (ref01_levels m) x0:=
 tre (g:=fun J=>some (IntKind.wrap .i64 (x0+1))) (fun J=>by kernel_rfl) (by rfl)
theorem ref01_levels_l3_eq m:∀M3 x0 x1 x2 x3,l33 jn m w33_0 [] M3 (s33_5 x0 x1 x2 x3)=ref01_levels_l3 m (ref01_levels m) M3 x0 x1 x2 x3
 |0,_,_,_,_=>rfl
 | M3+1,x0,x1,x2,x3=>
   trl (g:=fun J=>(bif (decide (x3<(List.length x1:Int))) then
  (jj J 0 8 0 (s33_5 x0 x1 x2 x3) (e33 J m w33_2 [M3]))
   else
  (jj J 0 9 0 (s33_6 x2) (e33 J m w33_3 [])))) (fun J=>by kernel_rfl) (by simp only[jj_eq,ref01_levels_j4_eq m M3 (ref01_levels_l3 m (ref01_levels m) M3) (ref01_levels_l3_eq m M3),ref01_levels_j6_eq m];rfl)
theorem ref01_levels_j2_eq m x0 x1 x2 x3:e33 jn m w33_4 [] (s33_5 x0 x1 x2 x3)=ref01_levels_j2 m (ref01_levels m) x0 x1 x2 x3:=
 tre (g:=fun J=>(jj J 1 6 (Nat.succ m) (s33_5 x0 x1 x2 x3) (l33 J m w33_0 [] (Nat.succ m)))) (fun J=>by kernel_rfl) (by simp only[jj_eq,ref01_levels_l3_eq m];rfl)
theorem ref01_levels_j1_eq m x0 x1:e33 jn m [1,1,1] [] (s33_1 x0 x1)=ref01_levels_j1 m (ref01_levels m) x0 x1:=
 tre (g:=fun J=>(jj J 0 6 0 (s33_5 x0 x1 0 0) (e33 J m w33_4 []))) (fun J=>by kernel_rfl) (by simp only[jj_eq,ref01_levels_j2_eq m];rfl)
theorem ref01_levels_j0_eq m x0 x1 x2:e33 jn m [1,1,0,1] [] (s33_0 x0 x1 x2)=ref01_levels_j0 m (ref01_levels m) x0 x1 x2:=
 tre (g:=fun J=>(bif x2 then
  some 1
   else
  (jj J 0 4 0 (s33_1 x0 x1) (e33 J m [1,1,1] [])))) (fun J=>by kernel_rfl) (by simp only[jj_eq,ref01_levels_j1_eq m];rfl)
theorem ref01_levels_eq m a0 a1:e33 jn m [] [] ⟨[(.dat 36 a0),(.dat 3 (.int a1))],[],0⟩=ref01_levels (m+1) a0 a1:=
 tre (g:=fun J=>((ref01_Parts m a0).bind fun r0=>
  (bif (decide (a1<2)) then
  (jj J 0 3 0 (s33_0 a1 r0 true) (e33 J m [1,1,0,1] []))
  else
  (jj J 0 3 0 (s33_0 a1 r0 ((List.length r0:Int)==0)) (e33 J m [1,1,0,1] []))))) (fun J=>by kernel_rfl) (by simp only[jj_eq,ref01_levels_j0_eq m];rfl)
noncomputable def e17 (J:Nat→Nat→Nat→St→Option Int→Option Int) (m:Nat) (p ms:List Nat) (σ:St):=evAt Tryd.prog env (ct m) J (m+1) 49 5 Tryd.f49 d19 p ms σ
noncomputable def l17 (J:Nat→Nat→Nat→St→Option Int→Option Int) (m:Nat) (p ms:List Nat) (M:Nat) (σ:St):=loopAt Tryd.prog env (ct m) J (m+1) 49 5 Tryd.f49 d19 p ms M σ
theorem ref01_Depth_eq m a0:e17 jn m [] [] ⟨[(.dat 36 a0)],[],0⟩=ref01_Depth (m+1) a0:=
 tre (g:=fun J=>((ref01_levels m a0 17).bind fun r0=>
  some r0)) (fun J=>by kernel_rfl) (by rfl)
def w34_3:List Nat:=[1,1,1,0,1]
def w34_0:List Nat:=[1,1,1,0,1,0]
def w34_2:List Nat:=w34_0++[0,1]
def w34_1:List Nat:=w34_2++[1]
noncomputable def e34 (J:Nat→Nat→Nat→St→Option Int→Option Int) (m:Nat) (p ms:List Nat) (σ:St):=evAt Tryd.prog env (ct m) J (m+1) 71 32 Tryd.f71 d19 p ms σ
noncomputable def l34 (J:Nat→Nat→Nat→St→Option Int→Option Int) (m:Nat) (p ms:List Nat) (M:Nat) (σ:St):=loopAt Tryd.prog env (ct m) J (m+1) 71 32 Tryd.f71 d19 p ms M σ
noncomputable def s34_3 (x0 x1:Int) (x2:List Dt) (x3:Int):St:=⟨tsOf [(1,(.dat 3 (.int x0))),(5,(.dat 3 (.int x1))),(6,(.dat 33 (.lst x2))),(7,(.dat 3 (.int x3)))],[],0⟩
noncomputable def s34_4 (x0:Int):St:=⟨tsOf [(5,(.dat 3 (.int x0)))],[],0⟩
abbrev H34_1 (m M1:Nat) (rec1:Int→Int→List Dt→Int→Option Int):Prop:=∀x0 x1 x2 x3,l34 jn m w34_0 [] M1 (s34_3 x0 x1 x2 x3)=rec1 x0 x1 x2 x3
theorem ref01_count_j3_eq m M1 rec1 (h1:H34_1 m M1 rec1) x0 x1 x2 x3:e34 jn m w34_1 [M1] (s34_3 x0 x1 x2 x3)=ref01_count_j3 m (ref01_count m) rec1 x0 x1 x2 x3:=
 tre (g:=fun J=>(jj J 1 4 M1 (s34_3 x0 x1 x2 (IntKind.wrap .i64 (x3+1))) (l34 J m w34_0 [] M1))) (fun J=>by kernel_rfl) (by simp only[jj_eq,h1];rfl)
theorem ref01_count_j2_eq m M1 rec1 (h1:H34_1 m M1 rec1) x0 x1 x2 x3:e34 jn m w34_2 [M1] (s34_3 x0 x1 x2 x3)=ref01_count_j2 m (ref01_count m) rec1 x0 x1 x2 x3:=
 tre (g:=fun J=>((idx x2 x3).bind fun v1=>
  ((ref01_count m v1 (IntKind.wrap .i64 (x0-x1))).bind fun r2=>
  (jj J 0 5 0 (s34_3 x0 (IntKind.wrap .i64 (x1+r2)) x2 x3) (e34 J m w34_1 [M1]))))) (fun J=>by kernel_rfl) (by simp only[jj_eq,ref01_count_j3_eq m M1 rec1 h1];rfl)
theorem ref01_count_j4_eq m x0:e34 jn m [1,1,1,1] [] (s34_4 x0)=ref01_count_j4 m (ref01_count m) x0:=
 tre (g:=fun J=>some x0) (fun J=>by kernel_rfl) (by rfl)
theorem ref01_count_l1_eq m:∀M1 x0 x1 x2 x3,l34 jn m w34_0 [] M1 (s34_3 x0 x1 x2 x3)=ref01_count_l1 m (ref01_count m) M1 x0 x1 x2 x3
 |0,_,_,_,_=>rfl
 | M1+1,x0,x1,x2,x3=>
   trl (g:=fun J=>(bif (decide (x3<(List.length x2:Int))) then
  (bif (decide (x1<x0)) then
  (jj J 0 6 0 (s34_3 x0 x1 x2 x3) (e34 J m w34_2 [M1]))
  else
  (jj J 0 7 0 (s34_4 x1) (e34 J m [1,1,1,1] [])))
   else
  (jj J 0 7 0 (s34_4 x1) (e34 J m [1,1,1,1] [])))) (fun J=>by kernel_rfl) (by simp only[jj_eq,ref01_count_j2_eq m M1 (ref01_count_l1 m (ref01_count m) M1) (ref01_count_l1_eq m M1),ref01_count_j4_eq m];rfl)
theorem ref01_count_j0_eq m x0 x1 x2 x3:e34 jn m w34_3 [] (s34_3 x0 x1 x2 x3)=ref01_count_j0 m (ref01_count m) x0 x1 x2 x3:=
 tre (g:=fun J=>(jj J 1 4 (Nat.succ m) (s34_3 x0 x1 x2 x3) (l34 J m w34_0 [] (Nat.succ m)))) (fun J=>by kernel_rfl) (by simp only[jj_eq,ref01_count_l1_eq m];rfl)
theorem ref01_count_eq m a0 a1:e34 jn m [] [] ⟨[(.dat 36 a0),(.dat 3 (.int a1))],[],0⟩=ref01_count (m+1) a0 a1:=
 tre (g:=fun J=>((ref01_Parts m a0).bind fun r0=>
  (jj J 0 4 0 (s34_3 a1 1 r0 0) (e34 J m w34_3 [])))) (fun J=>by kernel_rfl) (by simp only[jj_eq,ref01_count_j0_eq m];rfl)
noncomputable def e18 (J:Nat→Nat→Nat→St→Option Int→Option Int) (m:Nat) (p ms:List Nat) (σ:St):=evAt Tryd.prog env (ct m) J (m+1) 50 5 Tryd.f50 d19 p ms σ
noncomputable def l18 (J:Nat→Nat→Nat→St→Option Int→Option Int) (m:Nat) (p ms:List Nat) (M:Nat) (σ:St):=loopAt Tryd.prog env (ct m) J (m+1) 50 5 Tryd.f50 d19 p ms M σ
theorem ref01_Nodes_eq m a0:e18 jn m [] [] ⟨[(.dat 36 a0)],[],0⟩=ref01_Nodes (m+1) a0:=
 tre (g:=fun J=>((ref01_count m a0 1025).bind fun r0=>
  some r0)) (fun J=>by kernel_rfl) (by rfl)
noncomputable def e3 (J:Nat→Nat→Nat→St→Option Bool→Option Bool) (m:Nat) (p ms:List Nat) (σ:St):=evAt Tryd.prog env (ct m) J (m+1) 22 18 Tryd.f22 d7 p ms σ
noncomputable def l3 (J:Nat→Nat→Nat→St→Option Bool→Option Bool) (m:Nat) (p ms:List Nat) (M:Nat) (σ:St):=loopAt Tryd.prog env (ct m) J (m+1) 22 18 Tryd.f22 d7 p ms M σ
theorem law04_small_eq m a0 a1:e3 jn m [] [] ⟨[(.dat 36 a0),(.dat 23 (.lst a1))],[],0⟩=law04_small (m+1) a0 a1:=
 tre (g:=fun J=>((ref01_Depth m a0).bind fun r0=>
  (bif (decide (r0≤16)) then
  ((ref01_Nodes m a0).bind fun r1=>
  (bif (decide (r1≤1024)) then
  some (decide ((List.length a1:Int)≤20))
  else
  some false))
  else
  some false))) (fun J=>by kernel_rfl) (by rfl)
def w35_0:List Nat:=[1,1,0,1,0]
def w35_2:List Nat:=[1,1,0,1,0,0,1]
def w35_1:List Nat:=w35_2++[1]
noncomputable def e35 (J:Nat→Nat→Nat→St→Option Int→Option Int) (m:Nat) (p ms:List Nat) (σ:St):=evAt Tryd.prog env (ct m) J (m+1) 72 25 Tryd.f72 d19 p ms σ
noncomputable def l35 (J:Nat→Nat→Nat→St→Option Int→Option Int) (m:Nat) (p ms:List Nat) (M:Nat) (σ:St):=loopAt Tryd.prog env (ct m) J (m+1) 72 25 Tryd.f72 d19 p ms M σ
noncomputable def s35_4 (x0:ByteArray) (x1:Int) (x2:Dt):St:=⟨tsOf [(1,(.dat 9 (.str x0))),(2,(.ptr 0 [] 0)),(5,(.dat 3 (.int x1)))],[(.box 36 (.dat 36 x2))],0⟩
noncomputable def s35_5:St:=⟨tsOf [],[],0⟩
noncomputable def s35_0 (x0:ByteArray) (x1:Dt):St:=⟨tsOf [(1,(.dat 9 (.str x0))),(2,(.ptr 0 [] 0))],[(.box 36 (.dat 36 x1))],0⟩
abbrev H35_2 (m M2:Nat) (rec2:ByteArray→Int→Dt→Option Int):Prop:=∀x0 x1 x2,l35 jn m w35_0 [] M2 (s35_4 x0 x1 x2)=rec2 x0 x1 x2
theorem ref01_at_j4_eq m M2 rec2 (h2:H35_2 m M2 rec2) x0 x1 x2:e35 jn m w35_1 [M2] (s35_4 x0 x1 x2)=ref01_at_j4 m rec2 x0 x1 x2:=
 tre (g:=fun J=>(jj J 1 4 M2 (s35_4 x0 (IntKind.wrap .i64 (x1+1)) x2) (l35 J m w35_0 [] M2))) (fun J=>by kernel_rfl) (by simp only[jj_eq,h2];rfl)
theorem ref01_at_j3_eq m M2 rec2 (h2:H35_2 m M2 rec2) x0 x1 x2:e35 jn m w35_2 [M2] (s35_4 x0 x1 x2)=ref01_at_j3 m rec2 x0 x1 x2:=
 tre (g:=fun J=>((idx (Dt.L x2 4) x1).bind fun v0=>
  (bif ((ByteArray.toList (Dt.S v0 0))==(ByteArray.toList x0)) then
  some x1
  else
  (jj J 0 5 0 (s35_4 x0 x1 x2) (e35 J m w35_1 [M2]))))) (fun J=>by kernel_rfl) (by simp only[jj_eq,ref01_at_j4_eq m M2 rec2 h2];rfl)
theorem ref01_at_j5_eq m:e35 jn m [1,1,1] [] s35_5=ref01_at_j5 m:=
 tre (g:=fun J=>some (-1)) (fun J=>by kernel_rfl) (by rfl)
theorem ref01_at_l2_eq m:∀M2 x0 x1 x2,l35 jn m w35_0 [] M2 (s35_4 x0 x1 x2)=ref01_at_l2 m M2 x0 x1 x2
 |0,_,_,_=>rfl
 | M2+1,x0,x1,x2=>
   trl (g:=fun J=>(bif (decide (x1<(List.length (Dt.L x2 4):Int))) then
  (jj J 0 6 0 (s35_4 x0 x1 x2) (e35 J m w35_2 [M2]))
   else
  (jj J 0 8 0 s35_5 (e35 J m [1,1,1] [])))) (fun J=>by kernel_rfl) (by simp only[jj_eq,ref01_at_j3_eq m M2 (ref01_at_l2 m M2) (ref01_at_l2_eq m M2),ref01_at_j5_eq m];rfl)
theorem ref01_at_j1_eq m x0 x1 x2:e35 jn m [1,1,0,1] [] (s35_4 x0 x1 x2)=ref01_at_j1 m x0 x1 x2:=
 tre (g:=fun J=>(jj J 1 4 (Nat.succ m) (s35_4 x0 x1 x2) (l35 J m w35_0 [] (Nat.succ m)))) (fun J=>by kernel_rfl) (by simp only[jj_eq,ref01_at_l2_eq m];rfl)
theorem ref01_at_j0_eq m x0 x1:e35 jn m [1,1] [] (s35_0 x0 x1)=ref01_at_j0 m x0 x1:=
 tre (g:=fun J=>(jj J 0 4 0 (s35_4 x0 0 x1) (e35 J m [1,1,0,1] []))) (fun J=>by kernel_rfl) (by simp only[jj_eq,ref01_at_j1_eq m];rfl)
theorem ref01_at_eq m a0 a1:e35 jn m [] [] ⟨[(.dat 36 a0),(.dat 9 (.str a1))],[],0⟩=ref01_at (m+1) a0 a1:=
 tre (g:=fun J=>(bif ((Dt.I a0 0) !=5) then
  some (-1)
   else
  (jj J 0 3 0 (s35_0 a1 a0) (e35 J m [1,1] [])))) (fun J=>by kernel_rfl) (by simp only[jj_eq,ref01_at_j0_eq m];rfl)
noncomputable def e22 (J:Nat→Nat→Nat→St→Option (Dt×Bool)→Option (Dt×Bool)) (m:Nat) (p ms:List Nat) (σ:St):=evAt Tryd.prog env (ct m) J (m+1) 53 19 Tryd.f53 d22 p ms σ
noncomputable def l22 (J:Nat→Nat→Nat→St→Option (Dt×Bool)→Option (Dt×Bool)) (m:Nat) (p ms:List Nat) (M:Nat) (σ:St):=loopAt Tryd.prog env (ct m) J (m+1) 53 19 Tryd.f53 d22 p ms M σ
noncomputable def s22_0 (x0:Int) (x1 x2:Dt):St:=⟨tsOf [(2,(.ptr 0 [] 0)),(4,(.ptr 1 [] 0)),(6,(.dat 3 (.int x0)))],[(.box 36 (.dat 36 x1)),(.box 36 (.dat 36 x2))],0⟩
theorem ref01_Get_j0_eq m x0 x1 x2:e22 jn m [1,1,1] [] (s22_0 x0 x1 x2)=ref01_Get_j0 m x0 x1 x2:=
 tre (g:=fun J=>((idx (Dt.L x1 4) x0).bind fun v1=>
  some ((Dt.fld v1 1),true))) (fun J=>by kernel_rfl) (by rfl)
theorem ref01_Get_eq m a0 a1:e22 jn m [] [] ⟨[(.dat 36 a0),(.dat 9 (.str a1))],[],0⟩=ref01_Get (m+1) a0 a1:=
 tre (g:=fun J=>((ref01_at m a0 a1).bind fun r0=>
  (bif (decide (r0<0)) then
  some (kza2373,false)
  else
  (jj J 0 4 0 (s22_0 r0 a0 kza2373) (e22 J m [1,1,1] []))))) (fun J=>by kernel_rfl) (by simp only[jj_eq,ref01_Get_j0_eq m];rfl)
def w6_0:List Nat:=[1,1,1,0,1,0,1,1]
noncomputable def e6 (J:Nat→Nat→Nat→St→Option Dt→Option Dt) (m:Nat) (p ms:List Nat) (σ:St):=evAt Tryd.prog env (ct m) J (m+1) 25 56 Tryd.f25 d21 p ms σ
noncomputable def l6 (J:Nat→Nat→Nat→St→Option Dt→Option Dt) (m:Nat) (p ms:List Nat) (M:Nat) (σ:St):=loopAt Tryd.prog env (ct m) J (m+1) 25 56 Tryd.f25 d21 p ms M σ
noncomputable def s6_3 (x0:Dt):St:=⟨tsOf [(4,(.ptr 0 [] 0))],[(.box 36 (.dat 36 x0))],0⟩
noncomputable def s6_2 (x0:List Dt) (x1:Int) (x2:Bool) (x3 x4:Dt):St:=⟨tsOf [(1,(.dat 23 (.lst x0))),(2,(.ptr 0 [] 0)),(4,(.ptr 1 [] 0)),(7,(.dat 3 (.int x1))),(46,(.dat 4 (.bool x2)))],[(.box 36 (.dat 36 x3)),(.box 36 (.dat 36 x4))],0⟩
noncomputable def s6_1 (x0:List Dt) (x1 x2:Dt):St:=⟨tsOf [(1,(.dat 23 (.lst x0))),(2,(.ptr 0 [] 0)),(4,(.ptr 1 [] 0))],[(.box 36 (.dat 36 x1)),(.box 36 (.dat 36 x2))],0⟩
theorem ref04_Get_j3_eq m x0:e6 jn m [1,1,1,1] [] (s6_3 x0)=ref04_Get_j3 m (ref04_Get m) x0:=
 tre (g:=fun J=>some kza2373) (fun J=>by kernel_rfl) (by rfl)
theorem ref04_Get_j2_eq m x0 x1 x2 x3 x4:e6 jn m w6_0 [] (s6_2 x0 x1 x2 x3 x4)=ref04_Get_j2 m (ref04_Get m) x0 x1 x2 x3 x4:=
 tre (g:=fun J=>(bif x2 then
  ((idx (Dt.L x3 3) x1).bind fun v6=>
  ((cutL x0 1 (List.length x0:Int)).bind fun v7=>
  ((ref04_Get m v6 v7).bind fun r8=>
  some r8)))
   else
  (jj J 0 11 0 (s6_3 x4) (e6 J m [1,1,1,1] [])))) (fun J=>by kernel_rfl) (by simp only[jj_eq,ref04_Get_j3_eq m];rfl)
theorem ref04_Get_j1_eq m x0 x1 x2:e6 jn m [1,1,1] [] (s6_1 x0 x1 x2)=ref04_Get_j1 m (ref04_Get m) x0 x1 x2:=
 tre (g:=fun J=>(bif ((Dt.I x1 0)==6) then
  ((idx x0 0).bind fun v4=>
  ((ref04_Number m (Dt.toStr v4)).bind fun r5=>
  (bif r5.2 then
  (jj J 0 10 0 (s6_2 x0 r5.1 (decide (r5.1<(List.length (Dt.L x1 3):Int))) x1 x2) (e6 J m w6_0 []))
  else
  (jj J 0 10 0 (s6_2 x0 r5.1 false x1 x2) (e6 J m w6_0 [])))))
   else
  (jj J 0 11 0 (s6_3 x2) (e6 J m [1,1,1,1] [])))) (fun J=>by kernel_rfl) (by simp only[jj_eq,ref04_Get_j2_eq m,ref04_Get_j3_eq m];rfl)
theorem ref04_Get_j0_eq m x0 x1 x2:e6 jn m [1,1] [] (s6_1 x0 x1 x2)=ref04_Get_j0 m (ref04_Get m) x0 x1 x2:=
 tre (g:=fun J=>(bif ((Dt.I x1 0)==5) then
  ((idx x0 0).bind fun v0=>
  ((ref01_Get m x1 (Dt.toStr v0)).bind fun r1=>
  (bif r1.2 then
  ((cutL x0 1 (List.length x0:Int)).bind fun v2=>
  ((ref04_Get m r1.1 v2).bind fun r3=>
  some r3))
  else
  (jj J 0 7 0 (s6_1 x0 x1 x2) (e6 J m [1,1,1] [])))))
   else
  (jj J 0 7 0 (s6_1 x0 x1 x2) (e6 J m [1,1,1] [])))) (fun J=>by kernel_rfl) (by simp only[jj_eq,ref04_Get_j1_eq m];rfl)
theorem ref04_Get_eq m a0 a1:e6 jn m [] [] ⟨[(.dat 36 a0),(.dat 23 (.lst a1))],[],0⟩=ref04_Get (m+1) a0 a1:=
 tre (g:=fun J=>(bif ((List.length a1:Int)==0) then
  some a0
   else
  (jj J 0 3 0 (s6_1 a1 a0 kza2373) (e6 J m [1,1] [])))) (fun J=>by kernel_rfl) (by simp only[jj_eq,ref04_Get_j0_eq m];rfl)
def w26_3:List Nat:=[1,1,1,1,1]
def w26_4:List Nat:=[1,1,1,1,0,1]
def w26_0:List Nat:=w26_4++[0]
def w26_2:List Nat:=w26_0++[0,1]
def w26_1:List Nat:=w26_2++[1]
noncomputable def e26 (J:Nat→Nat→Nat→St→Option Dt→Option Dt) (m:Nat) (p ms:List Nat) (σ:St):=evAt Tryd.prog env (ct m) J (m+1) 55 35 Tryd.f55 d21 p ms σ
noncomputable def l26 (J:Nat→Nat→Nat→St→Option Dt→Option Dt) (m:Nat) (p ms:List Nat) (M:Nat) (σ:St):=loopAt Tryd.prog env (ct m) J (m+1) 55 35 Tryd.f55 d21 p ms M σ
noncomputable def s26_4 (x0 x1:Int) (x2 x3:Dt) (x4:List Dt):St:=⟨tsOf [(2,(.ptr 0 [] 0)),(4,(.ptr 1 [] 0)),(5,(.dat 3 (.int x0))),(6,(.row 2)),(7,(.dat 3 (.int x1)))],[(.box 36 (.dat 36 x2)),(.box 36 (.dat 36 x3)),(.row 34 x4)],0⟩
noncomputable def s26_5 (x0 x1:Dt) (x2:List Dt):St:=⟨tsOf [(2,(.ptr 0 [] 0)),(4,(.ptr 1 [] 0)),(6,(.row 2))],[(.box 36 (.dat 36 x0)),(.box 36 (.dat 36 x1)),(.row 34 x2)],0⟩
noncomputable def s26_0 (x0:Int) (x1 x2:Dt):St:=⟨tsOf [(2,(.ptr 0 [] 0)),(4,(.ptr 1 [] 0)),(5,(.dat 3 (.int x0)))],[(.box 36 (.dat 36 x1)),(.box 36 (.dat 36 x2))],0⟩
abbrev H26_2 (m M2:Nat) (rec2:Int→Int→Dt→Dt→List Dt→Option Dt):Prop:=∀x0 x1 x2 x3 x4,l26 jn m w26_0 [] M2 (s26_4 x0 x1 x2 x3 x4)=rec2 x0 x1 x2 x3 x4
theorem ref01_Remove_j4_eq m M2 rec2 (h2:H26_2 m M2 rec2) x0 x1 x2 x3 x4:e26 jn m w26_1 [M2] (s26_4 x0 x1 x2 x3 x4)=ref01_Remove_j4 m rec2 x0 x1 x2 x3 x4:=
 tre (g:=fun J=>(jj J 1 6 M2 (s26_4 x0 (IntKind.wrap .i64 (x1+1)) x2 x3 x4) (l26 J m w26_0 [] M2))) (fun J=>by kernel_rfl) (by simp only[jj_eq,h2];rfl)
theorem ref01_Remove_j3_eq m M2 rec2 (h2:H26_2 m M2 rec2) x0 x1 x2 x3 x4:e26 jn m w26_2 [M2] (s26_4 x0 x1 x2 x3 x4)=ref01_Remove_j3 m rec2 x0 x1 x2 x3 x4:=
 tre (g:=fun J=>(bif (x1 !=x0) then
  ((idx (Dt.L x2 4) x1).bind fun v1=>
  ((app x4 [v1]).bind fun v2=>
  (jj J 0 7 0 (s26_4 x0 x1 x2 x3 v2) (e26 J m w26_1 [M2]))))
   else
  (jj J 0 7 0 (s26_4 x0 x1 x2 x3 x4) (e26 J m w26_1 [M2])))) (fun J=>by kernel_rfl) (by simp only[jj_eq,ref01_Remove_j4_eq m M2 rec2 h2];rfl)
theorem ref01_Remove_j5_eq m x0 x1 x2:e26 jn m w26_3 [] (s26_5 x0 x1 x2)=ref01_Remove_j5 m x0 x1 x2:=
 tre (g:=fun J=>some (Dt.agg [(Dt.int (Dt.I x0 0)),(Dt.int (Dt.I x0 1)),(Dt.str (Dt.S x0 2)),(Dt.lst (Dt.L x0 3)),(Dt.lst x2)])) (fun J=>by kernel_rfl) (by rfl)
theorem ref01_Remove_l2_eq m:∀M2 x0 x1 x2 x3 x4,l26 jn m w26_0 [] M2 (s26_4 x0 x1 x2 x3 x4)=ref01_Remove_l2 m M2 x0 x1 x2 x3 x4
 |0,_,_,_,_,_=>rfl
 | M2+1,x0,x1,x2,x3,x4=>
   trl (g:=fun J=>(bif (decide (x1<(List.length (Dt.L x2 4):Int))) then
  (jj J 0 8 0 (s26_4 x0 x1 x2 x3 x4) (e26 J m w26_2 [M2]))
   else
  (jj J 0 10 0 (s26_5 x2 x3 x4) (e26 J m w26_3 [])))) (fun J=>by kernel_rfl) (by simp only[jj_eq,ref01_Remove_j3_eq m M2 (ref01_Remove_l2 m M2) (ref01_Remove_l2_eq m M2),ref01_Remove_j5_eq m];rfl)
theorem ref01_Remove_j1_eq m x0 x1 x2 x3 x4:e26 jn m w26_4 [] (s26_4 x0 x1 x2 x3 x4)=ref01_Remove_j1 m x0 x1 x2 x3 x4:=
 tre (g:=fun J=>(jj J 1 6 (Nat.succ m) (s26_4 x0 x1 x2 x3 x4) (l26 J m w26_0 [] (Nat.succ m)))) (fun J=>by kernel_rfl) (by simp only[jj_eq,ref01_Remove_l2_eq m];rfl)
theorem ref01_Remove_j0_eq m x0 x1 x2:e26 jn m [1,1,1] [] (s26_0 x0 x1 x2)=ref01_Remove_j0 m x0 x1 x2:=
 tre (g:=fun J=>(jj J 0 6 0 (s26_4 x0 0 x1 x2 []) (e26 J m w26_4 []))) (fun J=>by kernel_rfl) (by simp only[jj_eq,ref01_Remove_j1_eq m];rfl)
theorem ref01_Remove_eq m a0 a1:e26 jn m [] [] ⟨[(.dat 36 a0),(.dat 9 (.str a1))],[],0⟩=ref01_Remove (m+1) a0 a1:=
 tre (g:=fun J=>((ref01_at m a0 a1).bind fun r0=>
  (bif (decide (r0<0)) then
  some a0
  else
  (jj J 0 4 0 (s26_0 r0 a0 kza2373) (e26 J m [1,1,1] []))))) (fun J=>by kernel_rfl) (by simp only[jj_eq,ref01_Remove_j0_eq m];rfl)
def w27_5:List Nat:=[1,1,1,1,1]
def w27_4:List Nat:=[1,1,1,1,1,1]
def w27_6:List Nat:=[1,1,1,1,0,1]
def w27_0:List Nat:=w27_6++[0]
def w27_3:List Nat:=w27_0++[0,1]
def w27_1:List Nat:=w27_3++[1]
def w27_2:List Nat:=w27_3++[0,0,1,1]
noncomputable def e27 (J:Nat→Nat→Nat→St→Option Dt→Option Dt) (m:Nat) (p ms:List Nat) (σ:St):=evAt Tryd.prog env (ct m) J (m+1) 56 50 Tryd.f56 d21 p ms σ
noncomputable def l27 (J:Nat→Nat→Nat→St→Option Dt→Option Dt) (m:Nat) (p ms:List Nat) (M:Nat) (σ:St):=loopAt Tryd.prog env (ct m) J (m+1) 56 50 Tryd.f56 d21 p ms M σ
noncomputable def s27_5 (x0:ByteArray) (x1 x2:Int) (x3 x4 x5:Dt) (x6:List Dt):St:=⟨tsOf [(1,(.dat 9 (.str x0))),(3,(.ptr 0 [] 0)),(5,(.ptr 1 [] 0)),(6,(.ptr 2 [] 0)),(7,(.dat 3 (.int x1))),(8,(.row 3)),(9,(.dat 3 (.int x2)))],[(.box 36 (.dat 36 x3)),(.box 36 (.dat 36 x4)),(.box 36 (.dat 36 x5)),(.row 34 x6)],0⟩
noncomputable def s27_4 (x0:ByteArray) (x1 x2:Int) (x3 x4 x5:Dt) (x6:List Dt) (x7:Dt):St:=⟨tsOf [(1,(.dat 9 (.str x0))),(3,(.ptr 0 [] 0)),(5,(.ptr 1 [] 0)),(6,(.ptr 2 [] 0)),(7,(.dat 3 (.int x1))),(8,(.row 3)),(9,(.dat 3 (.int x2))),(10,(.ptr 4 [] 0))],[(.box 36 (.dat 36 x3)),(.box 36 (.dat 36 x4)),(.box 36 (.dat 36 x5)),(.row 34 x6),(.box 59 (.dat 59 x7))],0⟩
noncomputable def s27_7 (x0 x1:Dt) (x2:List Dt):St:=⟨tsOf [(3,(.ptr 0 [] 0)),(6,(.ptr 1 [] 0)),(8,(.row 2))],[(.box 36 (.dat 36 x0)),(.box 36 (.dat 36 x1)),(.row 34 x2)],0⟩
noncomputable def s27_6 (x0:ByteArray) (x1:Int) (x2 x3 x4:Dt) (x5:List Dt):St:=⟨tsOf [(1,(.dat 9 (.str x0))),(3,(.ptr 0 [] 0)),(5,(.ptr 1 [] 0)),(6,(.ptr 2 [] 0)),(7,(.dat 3 (.int x1))),(8,(.row 3))],[(.box 36 (.dat 36 x2)),(.box 36 (.dat 36 x3)),(.box 36 (.dat 36 x4)),(.row 34 x5)],0⟩
noncomputable def s27_0 (x0:ByteArray) (x1 x2 x3:Dt):St:=⟨tsOf [(1,(.dat 9 (.str x0))),(3,(.ptr 0 [] 0)),(5,(.ptr 1 [] 0)),(6,(.ptr 2 [] 0))],[(.box 36 (.dat 36 x1)),(.box 36 (.dat 36 x2)),(.box 36 (.dat 36 x3))],0⟩
abbrev H27_2 (m M2:Nat) (rec2:ByteArray→Int→Int→Dt→Dt→Dt→List Dt→Option Dt):Prop:=∀x0 x1 x2 x3 x4 x5 x6,l27 jn m w27_0 [] M2 (s27_5 x0 x1 x2 x3 x4 x5 x6)=rec2 x0 x1 x2 x3 x4 x5 x6
theorem ref01_Set_j5_eq m M2 rec2 (h2:H27_2 m M2 rec2) x0 x1 x2 x3 x4 x5 x6:e27 jn m w27_1 [M2] (s27_5 x0 x1 x2 x3 x4 x5 x6)=ref01_Set_j5 m rec2 x0 x1 x2 x3 x4 x5 x6:=
 tre (g:=fun J=>(jj J 1 6 M2 (s27_5 x0 x1 (IntKind.wrap .i64 (x2+1)) x3 x4 x5 x6) (l27 J m w27_0 [] M2))) (fun J=>by kernel_rfl) (by simp only[jj_eq,h2];rfl)
theorem ref01_Set_j4_eq m M2 rec2 (h2:H27_2 m M2 rec2) x0 x1 x2 x3 x4 x5 x6 x7:e27 jn m w27_2 [M2] (s27_4 x0 x1 x2 x3 x4 x5 x6 x7)=ref01_Set_j4 m rec2 x0 x1 x2 x3 x4 x5 x6 x7:=
 tre (g:=fun J=>((app x6 [x7]).bind fun v2=>
  (jj J 0 7 0 (s27_5 x0 x1 x2 x3 x4 x5 v2) (e27 J m w27_1 [M2])))) (fun J=>by kernel_rfl) (by simp only[jj_eq,ref01_Set_j5_eq m M2 rec2 h2];rfl)
theorem ref01_Set_j3_eq m M2 rec2 (h2:H27_2 m M2 rec2) x0 x1 x2 x3 x4 x5 x6:e27 jn m w27_3 [M2] (s27_5 x0 x1 x2 x3 x4 x5 x6)=ref01_Set_j3 m rec2 x0 x1 x2 x3 x4 x5 x6:=
 tre (g:=fun J=>((idx (Dt.L x3 4) x2).bind fun v1=>
  (bif (x2==x1) then
  (jj J 0 11 0 (s27_4 x0 x1 x2 x3 x4 x5 x6 (Dt.agg [(Dt.str (Dt.S v1 0)),x4])) (e27 J m w27_2 [M2]))
  else
  (jj J 0 11 0 (s27_4 x0 x1 x2 x3 x4 x5 x6 v1) (e27 J m w27_2 [M2]))))) (fun J=>by kernel_rfl) (by simp only[jj_eq,ref01_Set_j4_eq m M2 rec2 h2];rfl)
theorem ref01_Set_j7_eq m x0 x1 x2:e27 jn m w27_4 [] (s27_7 x0 x1 x2)=ref01_Set_j7 m x0 x1 x2:=
 tre (g:=fun J=>some (Dt.agg [(Dt.int (Dt.I x0 0)),(Dt.int (Dt.I x0 1)),(Dt.str (Dt.S x0 2)),(Dt.lst (Dt.L x0 3)),(Dt.lst x2)])) (fun J=>by kernel_rfl) (by rfl)
theorem ref01_Set_j6_eq m x0 x1 x2 x3 x4 x5:e27 jn m w27_5 [] (s27_6 x0 x1 x2 x3 x4 x5)=ref01_Set_j6 m x0 x1 x2 x3 x4 x5:=
 tre (g:=fun J=>(bif (decide (x1<0)) then
  ((app x5 [(Dt.agg [(Dt.str x0),x3])]).bind fun v3=>
  (jj J 0 14 0 (s27_7 x2 x4 v3) (e27 J m w27_4 [])))
   else
  (jj J 0 14 0 (s27_7 x2 x4 x5) (e27 J m w27_4 [])))) (fun J=>by kernel_rfl) (by simp only[jj_eq,ref01_Set_j7_eq m];rfl)
theorem ref01_Set_l2_eq m:∀M2 x0 x1 x2 x3 x4 x5 x6,l27 jn m w27_0 [] M2 (s27_5 x0 x1 x2 x3 x4 x5 x6)=ref01_Set_l2 m M2 x0 x1 x2 x3 x4 x5 x6
 |0,_,_,_,_,_,_,_=>rfl
 | M2+1,x0,x1,x2,x3,x4,x5,x6=>
   trl (g:=fun J=>(bif (decide (x2<(List.length (Dt.L x3 4):Int))) then
  (jj J 0 8 0 (s27_5 x0 x1 x2 x3 x4 x5 x6) (e27 J m w27_3 [M2]))
   else
  (jj J 0 12 0 (s27_6 x0 x1 x3 x4 x5 x6) (e27 J m w27_5 [])))) (fun J=>by kernel_rfl) (by simp only[jj_eq,ref01_Set_j3_eq m M2 (ref01_Set_l2 m M2) (ref01_Set_l2_eq m M2),ref01_Set_j6_eq m];rfl)
theorem ref01_Set_j1_eq m x0 x1 x2 x3 x4 x5 x6:e27 jn m w27_6 [] (s27_5 x0 x1 x2 x3 x4 x5 x6)=ref01_Set_j1 m x0 x1 x2 x3 x4 x5 x6:=
 tre (g:=fun J=>(jj J 1 6 (Nat.succ m) (s27_5 x0 x1 x2 x3 x4 x5 x6) (l27 J m w27_0 [] (Nat.succ m)))) (fun J=>by kernel_rfl) (by simp only[jj_eq,ref01_Set_l2_eq m];rfl)
theorem ref01_Set_j0_eq m x0 x1 x2 x3:e27 jn m [1,1] [] (s27_0 x0 x1 x2 x3)=ref01_Set_j0 m x0 x1 x2 x3:=
 tre (g:=fun J=>((ref01_at m x1 x0).bind fun r0=>
  (jj J 0 6 0 (s27_5 x0 r0 0 x1 x2 x3 []) (e27 J m w27_6 [])))) (fun J=>by kernel_rfl) (by simp only[jj_eq,ref01_Set_j1_eq m];rfl)
theorem ref01_Set_eq m a0 a1 a2:e27 jn m [] [] ⟨[(.dat 36 a0),(.dat 9 (.str a1)),(.dat 36 a2)],[],0⟩=ref01_Set (m+1) a0 a1 a2:=
 tre (g:=fun J=>(bif ((Dt.I a0 0) !=5) then
  some a0
   else
  (jj J 0 3 0 (s27_0 a1 a0 a2 kza2373) (e27 J m [1,1] [])))) (fun J=>by kernel_rfl) (by simp only[jj_eq,ref01_Set_j0_eq m];rfl)
def w12_3:List Nat:=[1,1,1,1,1]
def w12_4:List Nat:=[1,1,1,1,0,1]
def w12_1:List Nat:=[1,1,0,1,0,1,1]
def w12_0:List Nat:=w12_1++[1]
def w12_2:List Nat:=[1,1,1,1,1,1,1,1]
noncomputable def e12 (J:Nat→Nat→Nat→St→Option Dt→Option Dt) (m:Nat) (p ms:List Nat) (σ:St):=evAt Tryd.prog env (ct m) J (m+1) 27 91 Tryd.f27 d21 p ms σ
noncomputable def l12 (J:Nat→Nat→Nat→St→Option Dt→Option Dt) (m:Nat) (p ms:List Nat) (M:Nat) (σ:St):=loopAt Tryd.prog env (ct m) J (m+1) 27 91 Tryd.f27 d21 p ms M σ
noncomputable def s12_2 (x0:List Dt) (x1 x2 x3:Dt):St:=⟨tsOf [(1,(.dat 23 (.lst x0))),(2,(.ptr 0 [] 0)),(4,(.ptr 1 [] 0)),(5,(.ptr 2 [] 0))],[(.box 36 (.dat 36 x1)),(.box 36 (.dat 36 x2)),(.box 36 (.dat 36 x3))],0⟩
noncomputable def s12_6 (x0 x1:Dt) (x2:List Dt):St:=⟨tsOf [(2,(.ptr 0 [] 0)),(4,(.ptr 1 [] 0)),(9,(.row 2))],[(.box 36 (.dat 36 x0)),(.box 36 (.dat 36 x1)),(.row 33 x2)],0⟩
noncomputable def s12_5 (x0:List Dt) (x1:Int) (x2 x3:Dt):St:=⟨tsOf [(1,(.dat 23 (.lst x0))),(2,(.ptr 0 [] 0)),(4,(.ptr 1 [] 0)),(7,(.dat 3 (.int x1)))],[(.box 36 (.dat 36 x2)),(.box 36 (.dat 36 x3))],0⟩
noncomputable def s12_4 (x0:List Dt) (x1:Int) (x2:Bool) (x3 x4:Dt):St:=⟨tsOf [(1,(.dat 23 (.lst x0))),(2,(.ptr 0 [] 0)),(4,(.ptr 1 [] 0)),(7,(.dat 3 (.int x1))),(65,(.dat 4 (.bool x2)))],[(.box 36 (.dat 36 x3)),(.box 36 (.dat 36 x4))],0⟩
noncomputable def s12_3 (x0:List Dt) (x1 x2:Dt):St:=⟨tsOf [(1,(.dat 23 (.lst x0))),(2,(.ptr 0 [] 0)),(4,(.ptr 1 [] 0))],[(.box 36 (.dat 36 x1)),(.box 36 (.dat 36 x2))],0⟩
theorem ref04_Drop_j2_eq m x0 x1 x2 x3:e12 jn m w12_0 [] (s12_2 x0 x1 x2 x3)=ref04_Drop_j2 m (ref04_Drop m) x0 x1 x2 x3:=
 tre (g:=fun J=>((idx x0 0).bind fun v4=>
  ((cutL x0 1 (List.length x0:Int)).bind fun v5=>
  ((ref04_Drop m x3 v5).bind fun r6=>
  ((ref01_Set m x1 (Dt.toStr v4) r6).bind fun r7=>
  some r7))))) (fun J=>by kernel_rfl) (by rfl)
theorem ref04_Drop_j1_eq m x0 x1 x2 x3:e12 jn m w12_1 [] (s12_2 x0 x1 x2 x3)=ref04_Drop_j1 m (ref04_Drop m) x0 x1 x2 x3:=
 tre (g:=fun J=>(bif ((List.length x0:Int)==1) then
  ((idx x0 0).bind fun v2=>
  ((ref01_Remove m x1 (Dt.toStr v2)).bind fun r3=>
  some r3))
   else
  (jj J 0 9 0 (s12_2 x0 x1 x2 x3) (e12 J m w12_0 [])))) (fun J=>by kernel_rfl) (by simp only[jj_eq,ref04_Drop_j2_eq m];rfl)
theorem ref04_Drop_j6_eq m x0 x1 x2:e12 jn m w12_2 [] (s12_6 x0 x1 x2)=ref04_Drop_j6 m (ref04_Drop m) x0 x1 x2:=
 tre (g:=fun J=>some (Dt.agg [(Dt.int (Dt.I x0 0)),(Dt.int (Dt.I x0 1)),(Dt.str (Dt.S x0 2)),(Dt.lst x2),(Dt.lst (Dt.L x0 4))])) (fun J=>by kernel_rfl) (by rfl)
theorem ref04_Drop_j5_eq m x0 x1 x2 x3:e12 jn m w12_3 [] (s12_5 x0 x1 x2 x3)=ref04_Drop_j5 m (ref04_Drop m) x0 x1 x2 x3:=
 tre (g:=fun J=>((app [] (Dt.L x2 3)).bind fun v10=>
  (bif ((List.length x0:Int)==1) then
  ((ref01_Null m).bind fun r11=>
  ((inL v10 x1).bind fun v12=>
  ((v10[(Int.toNat x1)]?).bind fun v13=>
  (jj J 0 18 0 (s12_6 x2 x3 (List.set v10 (Int.toNat x1) r11)) (e12 J m w12_2 [])))))
  else
  ((inL v10 x1).bind fun v14=>
  ((v10[(Int.toNat x1)]?).bind fun v15=>
  ((cutL x0 1 (List.length x0:Int)).bind fun v16=>
  ((ref04_Drop m v15 v16).bind fun r17=>
  ((inL v10 x1).bind fun v18=>
  ((v10[(Int.toNat x1)]?).bind fun v19=>
  (jj J 0 18 0 (s12_6 x2 x3 (List.set v10 (Int.toNat x1) r17)) (e12 J m w12_2 []))))))))))) (fun J=>by kernel_rfl) (by simp only[jj_eq,ref04_Drop_j6_eq m];rfl)
theorem ref04_Drop_j4_eq m x0 x1 x2 x3 x4:e12 jn m w12_4 [] (s12_4 x0 x1 x2 x3 x4)=ref04_Drop_j4 m (ref04_Drop m) x0 x1 x2 x3 x4:=
 tre (g:=fun J=>(bif x2 then
  some x3
   else
  (jj J 0 13 0 (s12_5 x0 x1 x3 x4) (e12 J m w12_3 [])))) (fun J=>by kernel_rfl) (by simp only[jj_eq,ref04_Drop_j5_eq m];rfl)
theorem ref04_Drop_j3_eq m x0 x1 x2:e12 jn m [1,1,1] [] (s12_3 x0 x1 x2)=ref04_Drop_j3 m (ref04_Drop m) x0 x1 x2:=
 tre (g:=fun J=>((idx x0 0).bind fun v8=>
  ((ref04_Number m (Dt.toStr v8)).bind fun r9=>
  (bif ((Dt.I x1 0) !=6) then
  (jj J 0 12 0 (s12_4 x0 r9.1 true x1 x2) (e12 J m w12_4 []))
  else
  (bif (Bool.not r9.2) then
  (jj J 0 12 0 (s12_4 x0 r9.1 true x1 x2) (e12 J m w12_4 []))
  else
  (jj J 0 12 0 (s12_4 x0 r9.1 (decide ((List.length (Dt.L x1 3):Int)≤r9.1)) x1 x2) (e12 J m w12_4 []))))))) (fun J=>by kernel_rfl) (by simp only[jj_eq,ref04_Drop_j4_eq m];rfl)
theorem ref04_Drop_j0_eq m x0 x1 x2:e12 jn m [1,1] [] (s12_3 x0 x1 x2)=ref04_Drop_j0 m (ref04_Drop m) x0 x1 x2:=
 tre (g:=fun J=>(bif ((Dt.I x1 0)==5) then
  ((idx x0 0).bind fun v0=>
  ((ref01_Get m x1 (Dt.toStr v0)).bind fun r1=>
  (bif (Bool.not r1.2) then
  some x1
  else
  (jj J 0 7 0 (s12_2 x0 x1 x2 r1.1) (e12 J m w12_1 [])))))
   else
  (jj J 0 10 0 (s12_3 x0 x1 x2) (e12 J m [1,1,1] [])))) (fun J=>by kernel_rfl) (by simp only[jj_eq,ref04_Drop_j1_eq m,ref04_Drop_j3_eq m];rfl)
theorem ref04_Drop_eq m a0 a1:e12 jn m [] [] ⟨[(.dat 36 a0),(.dat 23 (.lst a1))],[],0⟩=ref04_Drop (m+1) a0 a1:=
 tre (g:=fun J=>(bif ((List.length a1:Int)==0) then
  some a0
   else
  (jj J 0 3 0 (s12_3 a1 a0 kza2373) (e12 J m [1,1] [])))) (fun J=>by kernel_rfl) (by simp only[jj_eq,ref04_Drop_j0_eq m];rfl)
def w0_0:List Nat:=[1,1,1,1,1]
def w0_2:List Nat:=[1,1,1,0,1]
def w0_1:List Nat:=[1,1,1,1,0,1]
noncomputable def e0 (J:Nat→Nat→Nat→St→Option Bool→Option Bool) (m:Nat) (p ms:List Nat) (σ:St):=evAt Tryd.prog env (ct m) J (m+1) 6 43 Tryd.f6 d7 p ms σ
noncomputable def l0 (J:Nat→Nat→Nat→St→Option Bool→Option Bool) (m:Nat) (p ms:List Nat) (M:Nat) (σ:St):=loopAt Tryd.prog env (ct m) J (m+1) 6 43 Tryd.f6 d7 p ms M σ
noncomputable def s0_4:St:=⟨tsOf [],[],0⟩
noncomputable def s0_3 (x0:Bool):St:=⟨tsOf [(41,(.dat 4 (.bool x0)))],[],0⟩
noncomputable def s0_2 (x0:List Dt) (x1 x2:Dt):St:=⟨tsOf [(1,(.dat 23 (.lst x0))),(2,(.ptr 0 [] 0)),(5,(.ptr 1 [] 0))],[(.box 36 (.dat 36 x1)),(.box 36 (.dat 36 x2))],0⟩
noncomputable def s0_1 (x0:List Dt) (x1:Bool) (x2 x3:Dt):St:=⟨tsOf [(1,(.dat 23 (.lst x0))),(2,(.ptr 0 [] 0)),(5,(.ptr 1 [] 0)),(29,(.dat 4 (.bool x1)))],[(.box 36 (.dat 36 x2)),(.box 36 (.dat 36 x3))],0⟩
noncomputable def s0_0 (x0:List Dt) (x1:Dt):St:=⟨tsOf [(1,(.dat 23 (.lst x0))),(2,(.ptr 0 [] 0))],[(.box 36 (.dat 36 x1))],0⟩
theorem law04_PathGets_j4_eq m:e0 jn m w0_0 [] s0_4=law04_PathGets_j4 m:=
 tre (g:=fun J=>((awakeC).bind fun r8=>
  some r8)) (fun J=>by kernel_rfl) (by rfl)
theorem law04_PathGets_j3_eq m x0:e0 jn m w0_1 [] (s0_3 x0)=law04_PathGets_j3 m x0:=
 tre (g:=fun J=>(bif x0 then
  some false
   else
  (jj J 0 8 0 s0_4 (e0 J m w0_0 [])))) (fun J=>by kernel_rfl) (by simp only[jj_eq,law04_PathGets_j4_eq m];rfl)
theorem law04_PathGets_j2_eq m x0 x1 x2:e0 jn m [1,1,1,1] [] (s0_2 x0 x1 x2)=law04_PathGets_j2 m x0 x1 x2:=
 tre (g:=fun J=>((law04_lists m x1).bind fun r5=>
  (bif (Bool.not r5) then
  ((path_Reach m x1 x0).bind fun r6=>
  ((ref01_SameList m r6 [x2]).bind fun r7=>
  (jj J 0 7 0 (s0_3 (Bool.not r7)) (e0 J m w0_1 []))))
  else
  (jj J 0 7 0 (s0_3 false) (e0 J m w0_1 []))))) (fun J=>by kernel_rfl) (by simp only[jj_eq,law04_PathGets_j3_eq m];rfl)
theorem law04_PathGets_j1_eq m x0 x1 x2 x3:e0 jn m w0_2 [] (s0_1 x0 x1 x2 x3)=law04_PathGets_j1 m x0 x1 x2 x3:=
 tre (g:=fun J=>(bif x1 then
  some false
   else
  (jj J 0 6 0 (s0_2 x0 x2 x3) (e0 J m [1,1,1,1] [])))) (fun J=>by kernel_rfl) (by simp only[jj_eq,law04_PathGets_j2_eq m];rfl)
theorem law04_PathGets_j0_eq m x0 x1:e0 jn m [1,1] [] (s0_0 x0 x1)=law04_PathGets_j0 m x0 x1:=
 tre (g:=fun J=>((path_Get m x1 x0).bind fun r2=>
  ((ref04_Get m x1 x0).bind fun r3=>
  ((ref01_Same m r2 r3).bind fun r4=>
  (bif (Bool.not r4) then
  (jj J 0 5 0 (s0_1 x0 true x1 r2) (e0 J m w0_2 []))
  else
  ((path_DropC x1 x0).bind fun r9=>
  ((ref04_Drop m x1 x0).bind fun r10=>
  ((ref01_Same m r9 r10).bind fun r11=>
  (jj J 0 5 0 (s0_1 x0 (Bool.not r11) x1 r2) (e0 J m w0_2 [])))))))))) (fun J=>by kernel_rfl) (by simp only[jj_eq,law04_PathGets_j1_eq m];rfl)
theorem law04_PathGets_eq m a0 a1:e0 jn m [] [] ⟨[(.dat 36 a0),(.dat 23 (.lst a1))],[],0⟩=law04_PathGets (m+1) a0 a1:=
 tre (g:=fun J=>((law04_small m a0 a1).bind fun r0=>
  (bif (Bool.not r0) then
  ((awakeC).bind fun r1=>
  some r1)
  else
  (jj J 0 3 0 (s0_0 a1 a0) (e0 J m [1,1] []))))) (fun J=>by kernel_rfl) (by simp only[jj_eq,law04_PathGets_j0_eq m];rfl)
def w36_0:List Nat:=[1,1,0,1,0]
def w36_3:List Nat:=[1,1,0,1,0,0,1]
def w36_1:List Nat:=w36_3++[1]
def w36_2:List Nat:=w36_3++[0,0,1]
noncomputable def e36 (J:Nat→Nat→Nat→St→Option Bool→Option Bool) (m:Nat) (p ms:List Nat) (σ:St):=evAt Tryd.prog env (ct m) J (m+1) 48 39 Tryd.f48 d7 p ms σ
noncomputable def l36 (J:Nat→Nat→Nat→St→Option Bool→Option Bool) (m:Nat) (p ms:List Nat) (M:Nat) (σ:St):=loopAt Tryd.prog env (ct m) J (m+1) 48 39 Tryd.f48 d7 p ms M σ
noncomputable def s36_6 (x0:ByteArray) (x1:Int):St:=⟨tsOf [(0,(.dat 9 (.str x0))),(3,(.dat 3 (.int x1)))],[],0⟩
noncomputable def s36_5 (x0:ByteArray) (x1:Int) (x2:Bool):St:=⟨tsOf [(0,(.dat 9 (.str x0))),(3,(.dat 3 (.int x1))),(38,(.dat 4 (.bool x2)))],[],0⟩
noncomputable def s36_7:St:=⟨tsOf [],[],0⟩
noncomputable def s36_1 (x0:ByteArray):St:=⟨tsOf [(0,(.dat 9 (.str x0)))],[],0⟩
noncomputable def s36_0 (x0:ByteArray) (x1:Bool):St:=⟨tsOf [(0,(.dat 9 (.str x0))),(16,(.dat 4 (.bool x1)))],[],0⟩
abbrev H36_3 (m M3:Nat) (rec3:ByteArray→Int→Option Bool):Prop:=∀x0 x1,l36 jn m w36_0 [] M3 (s36_6 x0 x1)=rec3 x0 x1
theorem ref01_Name_j6_eq m M3 rec3 (h3:H36_3 m M3 rec3) x0 x1:e36 jn m w36_1 [M3] (s36_6 x0 x1)=ref01_Name_j6 m rec3 x0 x1:=
 tre (g:=fun J=>(jj J 1 4 M3 (s36_6 x0 (IntKind.wrap .i64 (x1+1))) (l36 J m w36_0 [] M3))) (fun J=>by kernel_rfl) (by simp only[jj_eq,h3];rfl)
theorem ref01_Name_j5_eq m M3 rec3 (h3:H36_3 m M3 rec3) x0 x1 x2:e36 jn m w36_2 [M3] (s36_5 x0 x1 x2)=ref01_Name_j5 m rec3 x0 x1 x2:=
 tre (g:=fun J=>(bif x2 then
  some false
   else
  (jj J 0 5 0 (s36_6 x0 x1) (e36 J m w36_1 [M3])))) (fun J=>by kernel_rfl) (by simp only[jj_eq,ref01_Name_j6_eq m M3 rec3 h3];rfl)
theorem ref01_Name_j4_eq m M3 rec3 (h3:H36_3 m M3 rec3) x0 x1:e36 jn m w36_3 [M3] (s36_6 x0 x1)=ref01_Name_j4 m rec3 x0 x1:=
 tre (g:=fun J=>((idxS x0 x1).bind fun v0=>
  (bif (decide (v0<33)) then
  (jj J 0 7 0 (s36_5 x0 x1 true) (e36 J m w36_2 [M3]))
  else
  ((idxS x0 x1).bind fun v1=>
  (bif (decide (126<v1)) then
  (jj J 0 7 0 (s36_5 x0 x1 true) (e36 J m w36_2 [M3]))
  else
  ((idxS x0 x1).bind fun v2=>
  (jj J 0 7 0 (s36_5 x0 x1 (v2==46)) (e36 J m w36_2 [M3])))))))) (fun J=>by kernel_rfl) (by simp only[jj_eq,ref01_Name_j5_eq m M3 rec3 h3];rfl)
theorem ref01_Name_j7_eq m:e36 jn m [1,1,1] [] s36_7=ref01_Name_j7 m:=
 tre (g:=fun J=>some true) (fun J=>by kernel_rfl) (by rfl)
theorem ref01_Name_l3_eq m:∀M3 x0 x1,l36 jn m w36_0 [] M3 (s36_6 x0 x1)=ref01_Name_l3 m M3 x0 x1
 |0,_,_=>rfl
 | M3+1,x0,x1=>
   trl (g:=fun J=>(bif (decide (x1<(ByteArray.size x0:Int))) then
  (jj J 0 6 0 (s36_6 x0 x1) (e36 J m w36_3 [M3]))
   else
  (jj J 0 8 0 s36_7 (e36 J m [1,1,1] [])))) (fun J=>by kernel_rfl) (by simp only[jj_eq,ref01_Name_j4_eq m M3 (ref01_Name_l3 m M3) (ref01_Name_l3_eq m M3),ref01_Name_j7_eq m];rfl)
theorem ref01_Name_j2_eq m x0 x1:e36 jn m [1,1,0,1] [] (s36_6 x0 x1)=ref01_Name_j2 m x0 x1:=
 tre (g:=fun J=>(jj J 1 4 (Nat.succ m) (s36_6 x0 x1) (l36 J m w36_0 [] (Nat.succ m)))) (fun J=>by kernel_rfl) (by simp only[jj_eq,ref01_Name_l3_eq m];rfl)
theorem ref01_Name_j1_eq m x0:e36 jn m [1,1] [] (s36_1 x0)=ref01_Name_j1 m x0:=
 tre (g:=fun J=>(jj J 0 4 0 (s36_6 x0 0) (e36 J m [1,1,0,1] []))) (fun J=>by kernel_rfl) (by simp only[jj_eq,ref01_Name_j2_eq m];rfl)
theorem ref01_Name_j0_eq m x0 x1:e36 jn m [1,0,1] [] (s36_0 x0 x1)=ref01_Name_j0 m x0 x1:=
 tre (g:=fun J=>(bif x1 then
  some false
   else
  (jj J 0 3 0 (s36_1 x0) (e36 J m [1,1] [])))) (fun J=>by kernel_rfl) (by simp only[jj_eq,ref01_Name_j1_eq m];rfl)
theorem ref01_Name_eq m a0:e36 jn m [] [] ⟨[(.dat 9 (.str a0))],[],0⟩=ref01_Name (m+1) a0:=
 tre (g:=fun J=>(bif (decide ((ByteArray.size a0:Int)<1)) then
  (jj J 0 2 0 (s36_0 a0 true) (e36 J m [1,0,1] []))
   else
  (bif (decide (32<(ByteArray.size a0:Int))) then
  (jj J 0 2 0 (s36_0 a0 true) (e36 J m [1,0,1] []))
  else
  ((idxS a0 0).bind fun v3=>
  (jj J 0 2 0 (s36_0 a0 (v3==36)) (e36 J m [1,0,1] [])))))) (fun J=>by kernel_rfl) (by simp only[jj_eq,ref01_Name_j0_eq m];rfl)
def w29_0:List Nat:=[1,1,0,1,0]
def w29_2:List Nat:=[1,1,0,1,0,0,1]
def w29_1:List Nat:=w29_2++[1]
noncomputable def e29 (J:Nat→Nat→Nat→St→Option Bool→Option Bool) (m:Nat) (p ms:List Nat) (σ:St):=evAt Tryd.prog env (ct m) J (m+1) 18 24 Tryd.f18 d7 p ms σ
noncomputable def l29 (J:Nat→Nat→Nat→St→Option Bool→Option Bool) (m:Nat) (p ms:List Nat) (M:Nat) (σ:St):=loopAt Tryd.prog env (ct m) J (m+1) 18 24 Tryd.f18 d7 p ms M σ
noncomputable def s29_5 (x0:List Dt) (x1:Int):St:=⟨tsOf [(0,(.dat 23 (.lst x0))),(3,(.dat 3 (.int x1)))],[],0⟩
noncomputable def s29_6:St:=⟨tsOf [],[],0⟩
noncomputable def s29_1 (x0:List Dt):St:=⟨tsOf [(0,(.dat 23 (.lst x0)))],[],0⟩
noncomputable def s29_0 (x0:List Dt) (x1:Bool):St:=⟨tsOf [(0,(.dat 23 (.lst x0))),(11,(.dat 4 (.bool x1)))],[],0⟩
abbrev H29_3 (m M3:Nat) (rec3:List Dt→Int→Option Bool):Prop:=∀x0 x1,l29 jn m w29_0 [] M3 (s29_5 x0 x1)=rec3 x0 x1
theorem ref04_Valid_j5_eq m M3 rec3 (h3:H29_3 m M3 rec3) x0 x1:e29 jn m w29_1 [M3] (s29_5 x0 x1)=ref04_Valid_j5 m rec3 x0 x1:=
 tre (g:=fun J=>(jj J 1 4 M3 (s29_5 x0 (IntKind.wrap .i64 (x1+1))) (l29 J m w29_0 [] M3))) (fun J=>by kernel_rfl) (by simp only[jj_eq,h3];rfl)
theorem ref04_Valid_j4_eq m M3 rec3 (h3:H29_3 m M3 rec3) x0 x1:e29 jn m w29_2 [M3] (s29_5 x0 x1)=ref04_Valid_j4 m rec3 x0 x1:=
 tre (g:=fun J=>((idx x0 x1).bind fun v0=>
  ((ref01_Name m (Dt.toStr v0)).bind fun r1=>
  (bif (Bool.not r1) then
  some false
  else
  (jj J 0 5 0 (s29_5 x0 x1) (e29 J m w29_1 [M3])))))) (fun J=>by kernel_rfl) (by simp only[jj_eq,ref04_Valid_j5_eq m M3 rec3 h3];rfl)
theorem ref04_Valid_j6_eq m:e29 jn m [1,1,1] [] s29_6=ref04_Valid_j6 m:=
 tre (g:=fun J=>some true) (fun J=>by kernel_rfl) (by rfl)
theorem ref04_Valid_l3_eq m:∀M3 x0 x1,l29 jn m w29_0 [] M3 (s29_5 x0 x1)=ref04_Valid_l3 m M3 x0 x1
 |0,_,_=>rfl
 | M3+1,x0,x1=>
   trl (g:=fun J=>(bif (decide (x1<(List.length x0:Int))) then
  (jj J 0 6 0 (s29_5 x0 x1) (e29 J m w29_2 [M3]))
   else
  (jj J 0 8 0 s29_6 (e29 J m [1,1,1] [])))) (fun J=>by kernel_rfl) (by simp only[jj_eq,ref04_Valid_j4_eq m M3 (ref04_Valid_l3 m M3) (ref04_Valid_l3_eq m M3),ref04_Valid_j6_eq m];rfl)
theorem ref04_Valid_j2_eq m x0 x1:e29 jn m [1,1,0,1] [] (s29_5 x0 x1)=ref04_Valid_j2 m x0 x1:=
 tre (g:=fun J=>(jj J 1 4 (Nat.succ m) (s29_5 x0 x1) (l29 J m w29_0 [] (Nat.succ m)))) (fun J=>by kernel_rfl) (by simp only[jj_eq,ref04_Valid_l3_eq m];rfl)
theorem ref04_Valid_j1_eq m x0:e29 jn m [1,1] [] (s29_1 x0)=ref04_Valid_j1 m x0:=
 tre (g:=fun J=>(jj J 0 4 0 (s29_5 x0 0) (e29 J m [1,1,0,1] []))) (fun J=>by kernel_rfl) (by simp only[jj_eq,ref04_Valid_j2_eq m];rfl)
theorem ref04_Valid_j0_eq m x0 x1:e29 jn m [1,0,1] [] (s29_0 x0 x1)=ref04_Valid_j0 m x0 x1:=
 tre (g:=fun J=>(bif x1 then
  some false
   else
  (jj J 0 3 0 (s29_1 x0) (e29 J m [1,1] [])))) (fun J=>by kernel_rfl) (by simp only[jj_eq,ref04_Valid_j1_eq m];rfl)
theorem ref04_Valid_eq m a0:e29 jn m [] [] ⟨[(.dat 23 (.lst a0))],[],0⟩=ref04_Valid (m+1) a0:=
 tre (g:=fun J=>(bif (decide ((List.length a0:Int)<1)) then
  (jj J 0 2 0 (s29_0 a0 true) (e29 J m [1,0,1] []))
   else
  (jj J 0 2 0 (s29_0 a0 (decide (16<(List.length a0:Int)))) (e29 J m [1,0,1] [])))) (fun J=>by kernel_rfl) (by simp only[jj_eq,ref04_Valid_j0_eq m];rfl)
def w37_1:List Nat:=[1,0,1,0,0,1]
def w37_0:List Nat:=w37_1++[1]
noncomputable def e37 (J:Nat→Nat→Nat→St→Option Dt→Option Dt) (m:Nat) (p ms:List Nat) (σ:St):=evAt Tryd.prog env (ct m) J (m+1) 75 22 Tryd.f75 d21 p ms σ
noncomputable def l37 (J:Nat→Nat→Nat→St→Option Dt→Option Dt) (m:Nat) (p ms:List Nat) (M:Nat) (σ:St):=loopAt Tryd.prog env (ct m) J (m+1) 75 22 Tryd.f75 d21 p ms M σ
noncomputable def s37_3 (x0:List Dt) (x1:Int) (x2 x3:Dt):St:=⟨tsOf [(0,(.dat 23 (.lst x0))),(3,(.ptr 0 [] 0)),(4,(.ptr 1 [] 0)),(5,(.dat 3 (.int x1)))],[(.box 36 (.dat 36 x2)),(.box 36 (.dat 36 x3))],0⟩
noncomputable def s37_4 (x0 x1:Dt):St:=⟨tsOf [(3,(.ptr 0 [] 0)),(4,(.ptr 1 [] 0))],[(.box 36 (.dat 36 x0)),(.box 36 (.dat 36 x1))],0⟩
abbrev H37_1 (m M1:Nat) (rec1:List Dt→Int→Dt→Dt→Option Dt):Prop:=∀x0 x1 x2 x3,l37 jn m [1,0,1,0] [] M1 (s37_3 x0 x1 x2 x3)=rec1 x0 x1 x2 x3
theorem ref04_fresh_j3_eq m M1 rec1 (h1:H37_1 m M1 rec1) x0 x1 x2 x3:e37 jn m w37_0 [M1] (s37_3 x0 x1 x2 x3)=ref04_fresh_j3 m rec1 x0 x1 x2 x3:=
 tre (g:=fun J=>(jj J 1 2 M1 (s37_3 x0 (IntKind.wrap .i64 (x1-1)) x2 x3) (l37 J m [1,0,1,0] [] M1))) (fun J=>by kernel_rfl) (by simp only[jj_eq,h1];rfl)
theorem ref04_fresh_j2_eq m M1 rec1 (h1:H37_1 m M1 rec1) x0 x1 x2 x3:e37 jn m w37_1 [M1] (s37_3 x0 x1 x2 x3)=ref04_fresh_j2 m rec1 x0 x1 x2 x3:=
 tre (g:=fun J=>((idx x0 x1).bind fun v0=>
  (jj J 0 3 0 (s37_3 x0 x1 (Dt.agg [(Dt.int 5),(Dt.int 0),(Dt.str (ByteArray.mk (List.toArray []))),(Dt.lst []),(Dt.lst [(Dt.agg [(Dt.str (Dt.toStr v0)),x2])])]) x3) (e37 J m w37_0 [M1])))) (fun J=>by kernel_rfl) (by simp only[jj_eq,ref04_fresh_j3_eq m M1 rec1 h1];rfl)
theorem ref04_fresh_j4_eq m x0 x1:e37 jn m [1,1] [] (s37_4 x0 x1)=ref04_fresh_j4 m x0 x1:=
 tre (g:=fun J=>some x0) (fun J=>by kernel_rfl) (by rfl)
theorem ref04_fresh_l1_eq m:∀M1 x0 x1 x2 x3,l37 jn m [1,0,1,0] [] M1 (s37_3 x0 x1 x2 x3)=ref04_fresh_l1 m M1 x0 x1 x2 x3
 |0,_,_,_,_=>rfl
 | M1+1,x0,x1,x2,x3=>
   trl (g:=fun J=>(bif (decide (0≤x1)) then
  (jj J 0 4 0 (s37_3 x0 x1 x2 x3) (e37 J m w37_1 [M1]))
   else
  (jj J 0 5 0 (s37_4 x2 x3) (e37 J m [1,1] [])))) (fun J=>by kernel_rfl) (by simp only[jj_eq,ref04_fresh_j2_eq m M1 (ref04_fresh_l1 m M1) (ref04_fresh_l1_eq m M1),ref04_fresh_j4_eq m];rfl)
theorem ref04_fresh_j0_eq m x0 x1 x2 x3:e37 jn m [1,0,1] [] (s37_3 x0 x1 x2 x3)=ref04_fresh_j0 m x0 x1 x2 x3:=
 tre (g:=fun J=>(jj J 1 2 (Nat.succ m) (s37_3 x0 x1 x2 x3) (l37 J m [1,0,1,0] [] (Nat.succ m)))) (fun J=>by kernel_rfl) (by simp only[jj_eq,ref04_fresh_l1_eq m];rfl)
theorem ref04_fresh_eq m a0 a1:e37 jn m [] [] ⟨[(.dat 23 (.lst a0)),(.dat 36 a1)],[],0⟩=ref04_fresh (m+1) a0 a1:=
 tre (g:=fun J=>(jj J 0 2 0 (s37_3 a0 (IntKind.wrap .i64 ((List.length a0:Int)-1)) a1 kza2373) (e37 J m [1,0,1] []))) (fun J=>by kernel_rfl) (by simp only[jj_eq,ref04_fresh_j0_eq m];rfl)
def w30_6:List Nat:=[1,1,1,1,1]
def w30_7:List Nat:=[1,1,1,1,0,1]
def w30_0:List Nat:=[1,1,0,1,0,1,1]
def w30_5:List Nat:=[1,1,1,1,1,1,1]
def w30_4:List Nat:=w30_5++[1]
def w30_1:List Nat:=w30_5++[0,0]
def w30_3:List Nat:=w30_4++[1,1]
def w30_2:List Nat:=w30_1++[0,1]
noncomputable def e30 (J:Nat→Nat→Nat→St→Option (Dt×Bool)→Option (Dt×Bool)) (m:Nat) (p ms:List Nat) (σ:St):=evAt Tryd.prog env (ct m) J (m+1) 61 113 Tryd.f61 d22 p ms σ
noncomputable def l30 (J:Nat→Nat→Nat→St→Option (Dt×Bool)→Option (Dt×Bool)) (m:Nat) (p ms:List Nat) (M:Nat) (σ:St):=loopAt Tryd.prog env (ct m) J (m+1) 61 113 Tryd.f61 d22 p ms M σ
noncomputable def s30_1 (x0:List Dt) (x1 x2 x3 x4:Dt):St:=⟨tsOf [(1,(.dat 23 (.lst x0))),(3,(.ptr 0 [] 0)),(5,(.ptr 1 [] 0)),(6,(.ptr 2 [] 0)),(8,(.ptr 3 [] 0))],[(.box 36 (.dat 36 x1)),(.box 36 (.dat 36 x2)),(.box 36 (.dat 36 x3)),(.box 36 (.dat 36 x4))],0⟩
noncomputable def s30_7 (x0:List Dt) (x1:Int) (x2 x3 x4:Dt) (x5:List Dt):St:=⟨tsOf [(1,(.dat 23 (.lst x0))),(3,(.ptr 0 [] 0)),(5,(.ptr 1 [] 0)),(6,(.ptr 2 [] 0)),(12,(.dat 3 (.int x1))),(14,(.row 3))],[(.box 36 (.dat 36 x2)),(.box 36 (.dat 36 x3)),(.box 36 (.dat 36 x4)),(.row 33 x5)],0⟩
noncomputable def s30_9 (x0:Bool) (x1 x2:Dt) (x3:List Dt):St:=⟨tsOf [(3,(.ptr 0 [] 0)),(6,(.ptr 1 [] 0)),(14,(.row 2)),(15,(.dat 4 (.bool x0)))],[(.box 36 (.dat 36 x1)),(.box 36 (.dat 36 x2)),(.row 33 x3)],0⟩
noncomputable def s30_4 (x0:List Dt) (x1:Int) (x2 x3 x4:Dt):St:=⟨tsOf [(1,(.dat 23 (.lst x0))),(3,(.ptr 0 [] 0)),(5,(.ptr 1 [] 0)),(6,(.ptr 2 [] 0)),(12,(.dat 3 (.int x1)))],[(.box 36 (.dat 36 x2)),(.box 36 (.dat 36 x3)),(.box 36 (.dat 36 x4))],0⟩
noncomputable def s30_3 (x0:List Dt) (x1:Int) (x2:Bool) (x3 x4 x5:Dt):St:=⟨tsOf [(1,(.dat 23 (.lst x0))),(3,(.ptr 0 [] 0)),(5,(.ptr 1 [] 0)),(6,(.ptr 2 [] 0)),(12,(.dat 3 (.int x1))),(70,(.dat 4 (.bool x2)))],[(.box 36 (.dat 36 x3)),(.box 36 (.dat 36 x4)),(.box 36 (.dat 36 x5))],0⟩
noncomputable def s30_2 (x0:List Dt) (x1 x2 x3:Dt):St:=⟨tsOf [(1,(.dat 23 (.lst x0))),(3,(.ptr 0 [] 0)),(5,(.ptr 1 [] 0)),(6,(.ptr 2 [] 0))],[(.box 36 (.dat 36 x1)),(.box 36 (.dat 36 x2)),(.box 36 (.dat 36 x3))],0⟩
theorem ref04_put_j1_eq m x0 x1 x2 x3 x4:e30 jn m w30_0 [] (s30_1 x0 x1 x2 x3 x4)=ref04_put_j1 m (ref04_put m) x0 x1 x2 x3 x4:=
 tre (g:=fun J=>((cutL x0 1 (List.length x0:Int)).bind fun v6=>
  ((ref04_put m x4 v6 x2).bind fun r7=>
  ((idx x0 0).bind fun v8=>
  ((ref01_Set m x1 (Dt.toStr v8) r7.1).bind fun r9=>
  some (r9,r7.2)))))) (fun J=>by kernel_rfl) (by rfl)
abbrev H30_6 (m M6:Nat) (rec6:List Dt→Int→Dt→Dt→Dt→List Dt→Option (Dt×Bool)):Prop:=∀x0 x1 x2 x3 x4 x5,l30 jn m w30_1 [] M6 (s30_7 x0 x1 x2 x3 x4 x5)=rec6 x0 x1 x2 x3 x4 x5
theorem ref04_put_j7_eq m M6 rec6 (h6:H30_6 m M6 rec6) x0 x1 x2 x3 x4 x5:e30 jn m w30_2 [M6] (s30_7 x0 x1 x2 x3 x4 x5)=ref04_put_j7 m (ref04_put m) rec6 x0 x1 x2 x3 x4 x5:=
 tre (g:=fun J=>((ref01_Null m).bind fun r13=>
  ((app x5 [r13]).bind fun v14=>
  (jj J 1 14 M6 (s30_7 x0 x1 x2 x3 x4 v14) (l30 J m w30_1 [] M6))))) (fun J=>by kernel_rfl) (by simp only[jj_eq,h6];rfl)
theorem ref04_put_j9_eq m x0 x1 x2 x3:e30 jn m w30_3 [] (s30_9 x0 x1 x2 x3)=ref04_put_j9 m (ref04_put m) x0 x1 x2 x3:=
 tre (g:=fun J=>some ((Dt.agg [(Dt.int (Dt.I x1 0)),(Dt.int (Dt.I x1 1)),(Dt.str (Dt.S x1 2)),(Dt.lst x3),(Dt.lst (Dt.L x1 4))]),x0)) (fun J=>by kernel_rfl) (by rfl)
theorem ref04_put_j8_eq m x0 x1 x2 x3 x4 x5:e30 jn m w30_4 [] (s30_7 x0 x1 x2 x3 x4 x5)=ref04_put_j8 m (ref04_put m) x0 x1 x2 x3 x4 x5:=
 tre (g:=fun J=>(bif (decide (x1<(List.length x5:Int))) then
  ((inL x5 x1).bind fun v15=>
  ((x5[(Int.toNat x1)]?).bind fun v16=>
  ((cutL x0 1 (List.length x0:Int)).bind fun v17=>
  ((ref04_put m v16 v17 x3).bind fun r18=>
  ((inL x5 x1).bind fun v19=>
  ((x5[(Int.toNat x1)]?).bind fun v20=>
  (jj J 0 20 0 (s30_9 r18.2 x2 x4 (List.set x5 (Int.toNat x1) r18.1)) (e30 J m w30_3 []))))))))
   else
  ((cutL x0 1 (List.length x0:Int)).bind fun v21=>
  ((ref04_fresh m v21 x3).bind fun r22=>
  ((app x5 [r22]).bind fun v23=>
  (jj J 0 20 0 (s30_9 true x2 x4 v23) (e30 J m w30_3 []))))))) (fun J=>by kernel_rfl) (by simp only[jj_eq,ref04_put_j9_eq m];rfl)
theorem ref04_put_l6_eq m:∀M6 x0 x1 x2 x3 x4 x5,l30 jn m w30_1 [] M6 (s30_7 x0 x1 x2 x3 x4 x5)=ref04_put_l6 m (ref04_put m) M6 x0 x1 x2 x3 x4 x5
 |0,_,_,_,_,_,_=>rfl
 | M6+1,x0,x1,x2,x3,x4,x5=>
   trl (g:=fun J=>(bif (decide ((List.length x5:Int)<x1)) then
  (jj J 0 15 0 (s30_7 x0 x1 x2 x3 x4 x5) (e30 J m w30_2 [M6]))
   else
  (jj J 0 16 0 (s30_7 x0 x1 x2 x3 x4 x5) (e30 J m w30_4 [])))) (fun J=>by kernel_rfl) (by simp only[jj_eq,ref04_put_j7_eq m M6 (ref04_put_l6 m (ref04_put m) M6) (ref04_put_l6_eq m M6),ref04_put_j8_eq m];rfl)
theorem ref04_put_j5_eq m x0 x1 x2 x3 x4 x5:e30 jn m w30_5 [] (s30_7 x0 x1 x2 x3 x4 x5)=ref04_put_j5 m (ref04_put m) x0 x1 x2 x3 x4 x5:=
 tre (g:=fun J=>(jj J 1 14 (Nat.succ m) (s30_7 x0 x1 x2 x3 x4 x5) (l30 J m w30_1 [] (Nat.succ m)))) (fun J=>by kernel_rfl) (by simp only[jj_eq,ref04_put_l6_eq m];rfl)
theorem ref04_put_j4_eq m x0 x1 x2 x3 x4:e30 jn m w30_6 [] (s30_4 x0 x1 x2 x3 x4)=ref04_put_j4 m (ref04_put m) x0 x1 x2 x3 x4:=
 tre (g:=fun J=>((app [] (Dt.L x2 3)).bind fun v12=>
  (jj J 0 14 0 (s30_7 x0 x1 x2 x3 x4 v12) (e30 J m w30_5 [])))) (fun J=>by kernel_rfl) (by simp only[jj_eq,ref04_put_j5_eq m];rfl)
theorem ref04_put_j3_eq m x0 x1 x2 x3 x4 x5:e30 jn m w30_7 [] (s30_3 x0 x1 x2 x3 x4 x5)=ref04_put_j3 m (ref04_put m) x0 x1 x2 x3 x4 x5:=
 tre (g:=fun J=>(bif x2 then
  some (kza2373,false)
   else
  (jj J 0 12 0 (s30_4 x0 x1 x3 x4 x5) (e30 J m w30_6 [])))) (fun J=>by kernel_rfl) (by simp only[jj_eq,ref04_put_j4_eq m];rfl)
theorem ref04_put_j2_eq m x0 x1 x2 x3:e30 jn m [1,1,1] [] (s30_2 x0 x1 x2 x3)=ref04_put_j2 m (ref04_put m) x0 x1 x2 x3:=
 tre (g:=fun J=>((idx x0 0).bind fun v10=>
  ((ref04_Number m (Dt.toStr v10)).bind fun r11=>
  (bif ((Dt.I x1 0) !=6) then
  (jj J 0 11 0 (s30_3 x0 r11.1 true x1 x2 x3) (e30 J m w30_7 []))
  else
  (jj J 0 11 0 (s30_3 x0 r11.1 (Bool.not r11.2) x1 x2 x3) (e30 J m w30_7 [])))))) (fun J=>by kernel_rfl) (by simp only[jj_eq,ref04_put_j3_eq m];rfl)
theorem ref04_put_j0_eq m x0 x1 x2 x3:e30 jn m [1,1] [] (s30_2 x0 x1 x2 x3)=ref04_put_j0 m (ref04_put m) x0 x1 x2 x3:=
 tre (g:=fun J=>(bif ((Dt.I x1 0)==5) then
  ((idx x0 0).bind fun v0=>
  ((ref01_Get m x1 (Dt.toStr v0)).bind fun r1=>
  (bif (Bool.not r1.2) then
  ((idx x0 0).bind fun v2=>
  ((cutL x0 1 (List.length x0:Int)).bind fun v3=>
  ((ref04_fresh m v3 x2).bind fun r4=>
  ((ref01_Set m x1 (Dt.toStr v2) r4).bind fun r5=>
  some (r5,true)))))
  else
  (jj J 0 7 0 (s30_1 x0 x1 x2 x3 r1.1) (e30 J m w30_0 [])))))
   else
  (jj J 0 9 0 (s30_2 x0 x1 x2 x3) (e30 J m [1,1,1] [])))) (fun J=>by kernel_rfl) (by simp only[jj_eq,ref04_put_j1_eq m,ref04_put_j2_eq m];rfl)
theorem ref04_put_eq m a0 a1 a2:e30 jn m [] [] ⟨[(.dat 36 a0),(.dat 23 (.lst a1)),(.dat 36 a2)],[],0⟩=ref04_put (m+1) a0 a1 a2:=
 tre (g:=fun J=>(bif ((List.length a1:Int)==0) then
  some (a2,true)
   else
  (jj J 0 3 0 (s30_2 a1 a0 a2 kza2373) (e30 J m [1,1] [])))) (fun J=>by kernel_rfl) (by simp only[jj_eq,ref04_put_j0_eq m];rfl)
def w14_0:List Nat:=[1,1,1,1,1]
noncomputable def e14 (J:Nat→Nat→Nat→St→Option (Dt×Int)→Option (Dt×Int)) (m:Nat) (p ms:List Nat) (σ:St):=evAt Tryd.prog env (ct m) J (m+1) 32 34 Tryd.f32 d14 p ms σ
noncomputable def l14 (J:Nat→Nat→Nat→St→Option (Dt×Int)→Option (Dt×Int)) (m:Nat) (p ms:List Nat) (M:Nat) (σ:St):=loopAt Tryd.prog env (ct m) J (m+1) 32 34 Tryd.f32 d14 p ms M σ
noncomputable def s14_3 (x0 x1:Dt):St:=⟨tsOf [(6,(.ptr 0 [] 0)),(8,(.ptr 1 [] 0))],[(.box 36 (.dat 36 x0)),(.box 36 (.dat 36 x1))],0⟩
noncomputable def s14_2 (x0:List Dt) (x1 x2 x3:Dt):St:=⟨tsOf [(1,(.dat 23 (.lst x0))),(3,(.ptr 0 [] 0)),(5,(.ptr 1 [] 0)),(6,(.ptr 2 [] 0))],[(.box 36 (.dat 36 x1)),(.box 36 (.dat 36 x2)),(.box 36 (.dat 36 x3))],0⟩
noncomputable def s14_1 (x0:List Dt) (x1:Bool) (x2 x3 x4:Dt):St:=⟨tsOf [(1,(.dat 23 (.lst x0))),(3,(.ptr 0 [] 0)),(5,(.ptr 1 [] 0)),(6,(.ptr 2 [] 0)),(21,(.dat 4 (.bool x1)))],[(.box 36 (.dat 36 x2)),(.box 36 (.dat 36 x3)),(.box 36 (.dat 36 x4))],0⟩
theorem ref04_Put_j3_eq m x0 x1:e14 jn m w14_0 [] (s14_3 x0 x1)=ref04_Put_j3 m x0 x1:=
 tre (g:=fun J=>some (x1,0)) (fun J=>by kernel_rfl) (by rfl)
theorem ref04_Put_j2_eq m x0 x1 x2 x3:e14 jn m [1,1,1] [] (s14_2 x0 x1 x2 x3)=ref04_Put_j2 m x0 x1 x2 x3:=
 tre (g:=fun J=>((ref04_put m x1 x0 x2).bind fun r1=>
  (bif (Bool.not r1.2) then
  some (kza2373,10)
  else
  (jj J 0 8 0 (s14_3 x3 r1.1) (e14 J m w14_0 []))))) (fun J=>by kernel_rfl) (by simp only[jj_eq,ref04_Put_j3_eq m];rfl)
theorem ref04_Put_j1_eq m x0 x1 x2 x3 x4:e14 jn m [1,1,0,1] [] (s14_1 x0 x1 x2 x3 x4)=ref04_Put_j1 m x0 x1 x2 x3 x4:=
 tre (g:=fun J=>(bif x1 then
  some (kza2373,8)
   else
  (jj J 0 5 0 (s14_2 x0 x2 x3 x4) (e14 J m [1,1,1] [])))) (fun J=>by kernel_rfl) (by simp only[jj_eq,ref04_Put_j2_eq m];rfl)
theorem ref04_Put_j0_eq m x0 x1 x2 x3:e14 jn m [1,1] [] (s14_2 x0 x1 x2 x3)=ref04_Put_j0 m x0 x1 x2 x3:=
 tre (g:=fun J=>(bif ((Dt.I x1 0) !=5) then
  (jj J 0 4 0 (s14_1 x0 true x1 x2 x3) (e14 J m [1,1,0,1] []))
   else
  (jj J 0 4 0 (s14_1 x0 ((Dt.I x2 0)==0) x1 x2 x3) (e14 J m [1,1,0,1] [])))) (fun J=>by kernel_rfl) (by simp only[jj_eq,ref04_Put_j1_eq m];rfl)
theorem ref04_Put_eq m a0 a1 a2:e14 jn m [] [] ⟨[(.dat 36 a0),(.dat 23 (.lst a1)),(.dat 36 a2)],[],0⟩=ref04_Put (m+1) a0 a1 a2:=
 tre (g:=fun J=>((ref04_Valid m a1).bind fun r0=>
  (bif (Bool.not r0) then
  some (kza2373,10)
  else
  (jj J 0 3 0 (s14_2 a1 a0 a2 kza2373) (e14 J m [1,1] []))))) (fun J=>by kernel_rfl) (by simp only[jj_eq,ref04_Put_j0_eq m];rfl)
noncomputable def e1 (J:Nat→Nat→Nat→St→Option Bool→Option Bool) (m:Nat) (p ms:List Nat) (σ:St):=evAt Tryd.prog env (ct m) J (m+1) 7 46 Tryd.f7 d7 p ms σ
noncomputable def l1 (J:Nat→Nat→Nat→St→Option Bool→Option Bool) (m:Nat) (p ms:List Nat) (M:Nat) (σ:St):=loopAt Tryd.prog env (ct m) J (m+1) 7 46 Tryd.f7 d7 p ms M σ
noncomputable def s1_1 (x0:List Dt) (x1 x2:Dt):St:=⟨tsOf [(1,(.dat 23 (.lst x0))),(3,(.ptr 0 [] 0)),(5,(.ptr 1 [] 0))],[(.box 36 (.dat 36 x1)),(.box 36 (.dat 36 x2))],0⟩
noncomputable def s1_0 (x0:List Dt) (x1:Bool) (x2 x3:Dt):St:=⟨tsOf [(1,(.dat 23 (.lst x0))),(3,(.ptr 0 [] 0)),(5,(.ptr 1 [] 0)),(19,(.dat 4 (.bool x1)))],[(.box 36 (.dat 36 x2)),(.box 36 (.dat 36 x3))],0⟩
theorem law04_PathPuts_j1_eq m x0 x1 x2:e1 jn m [1,1] [] (s1_1 x0 x1 x2)=law04_PathPuts_j1 m x0 x1 x2:=
 tre (g:=fun J=>((path_PutC x1 x0 x2).bind fun r2=>
  ((ref04_Put m x1 x0 x2).bind fun r3=>
  (bif (r2.2==r3.2) then
  ((ref01_Same m r2.1 r3.1).bind fun r4=>
  (bif r4 then
  ((awakeC).bind fun r5=>
  some r5)
  else
  some false))
  else
  some false)))) (fun J=>by kernel_rfl) (by rfl)
theorem law04_PathPuts_j0_eq m x0 x1 x2 x3:e1 jn m [1,0,1] [] (s1_0 x0 x1 x2 x3)=law04_PathPuts_j0 m x0 x1 x2 x3:=
 tre (g:=fun J=>(bif x1 then
  ((awakeC).bind fun r1=>
  some r1)
   else
  (jj J 0 3 0 (s1_1 x0 x2 x3) (e1 J m [1,1] [])))) (fun J=>by kernel_rfl) (by simp only[jj_eq,law04_PathPuts_j1_eq m];rfl)
theorem law04_PathPuts_eq m a0 a1 a2:e1 jn m [] [] ⟨[(.dat 36 a0),(.dat 23 (.lst a1)),(.dat 36 a2)],[],0⟩=law04_PathPuts (m+1) a0 a1 a2:=
 tre (g:=fun J=>((law04_small m a0 a1).bind fun r0=>
  (bif (Bool.not r0) then
  (jj J 0 2 0 (s1_0 a1 true a0 a2) (e1 J m [1,0,1] []))
  else
  ((law04_small m a2 []).bind fun r6=>
  (jj J 0 2 0 (s1_0 a1 (Bool.not r6) a0 a2) (e1 J m [1,0,1] [])))))) (fun J=>by kernel_rfl) (by simp only[jj_eq,law04_PathPuts_j0_eq m];rfl)
def w40_0:List Nat:=[1,1,0,1,0]
def w40_3:List Nat:=[1,1,0,1,0,0,1]
def w40_1:List Nat:=w40_3++[1]
def w40_2:List Nat:=w40_3++[0,0,1]
noncomputable def e40 (J:Nat→Nat→Nat→St→Option Bool→Option Bool) (m:Nat) (p ms:List Nat) (σ:St):=evAt Tryd.prog env (ct m) J (m+1) 84 33 Tryd.f84 d7 p ms σ
noncomputable def l40 (J:Nat→Nat→Nat→St→Option Bool→Option Bool) (m:Nat) (p ms:List Nat) (M:Nat) (σ:St):=loopAt Tryd.prog env (ct m) J (m+1) 84 33 Tryd.f84 d7 p ms M σ
noncomputable def s40_5 (x0:ByteArray) (x1 x2 x3:Int):St:=⟨tsOf [(0,(.dat 9 (.str x0))),(1,(.dat 3 (.int x1))),(2,(.dat 3 (.int x2))),(7,(.dat 3 (.int x3)))],[],0⟩
noncomputable def s40_4 (x0:ByteArray) (x1 x2 x3:Int) (x4:Bool):St:=⟨tsOf [(0,(.dat 9 (.str x0))),(1,(.dat 3 (.int x1))),(2,(.dat 3 (.int x2))),(7,(.dat 3 (.int x3))),(32,(.dat 4 (.bool x4)))],[],0⟩
noncomputable def s40_6:St:=⟨tsOf [],[],0⟩
noncomputable def s40_0 (x0:ByteArray) (x1 x2:Int):St:=⟨tsOf [(0,(.dat 9 (.str x0))),(1,(.dat 3 (.int x1))),(2,(.dat 3 (.int x2)))],[],0⟩
abbrev H40_2 (m M2:Nat) (rec2:ByteArray→Int→Int→Int→Option Bool):Prop:=∀x0 x1 x2 x3,l40 jn m w40_0 [] M2 (s40_5 x0 x1 x2 x3)=rec2 x0 x1 x2 x3
theorem ref01_tail_j5_eq m M2 rec2 (h2:H40_2 m M2 rec2) x0 x1 x2 x3:e40 jn m w40_1 [M2] (s40_5 x0 x1 x2 x3)=ref01_tail_j5 m rec2 x0 x1 x2 x3:=
 tre (g:=fun J=>(jj J 1 4 M2 (s40_5 x0 x1 x2 (IntKind.wrap .i64 (x3+1))) (l40 J m w40_0 [] M2))) (fun J=>by kernel_rfl) (by simp only[jj_eq,h2];rfl)
theorem ref01_tail_j4_eq m M2 rec2 (h2:H40_2 m M2 rec2) x0 x1 x2 x3 x4:e40 jn m w40_2 [M2] (s40_4 x0 x1 x2 x3 x4)=ref01_tail_j4 m rec2 x0 x1 x2 x3 x4:=
 tre (g:=fun J=>(bif x4 then
  some false
   else
  (jj J 0 5 0 (s40_5 x0 x1 x2 x3) (e40 J m w40_1 [M2])))) (fun J=>by kernel_rfl) (by simp only[jj_eq,ref01_tail_j5_eq m M2 rec2 h2];rfl)
theorem ref01_tail_j3_eq m M2 rec2 (h2:H40_2 m M2 rec2) x0 x1 x2 x3:e40 jn m w40_3 [M2] (s40_5 x0 x1 x2 x3)=ref01_tail_j3 m rec2 x0 x1 x2 x3:=
 tre (g:=fun J=>((idxS x0 (IntKind.wrap .i64 (x1+x3))).bind fun v0=>
  (bif (decide (v0<128)) then
  (jj J 0 7 0 (s40_4 x0 x1 x2 x3 true) (e40 J m w40_2 [M2]))
  else
  ((idxS x0 (IntKind.wrap .i64 (x1+x3))).bind fun v1=>
  (jj J 0 7 0 (s40_4 x0 x1 x2 x3 (decide (191<v1))) (e40 J m w40_2 [M2])))))) (fun J=>by kernel_rfl) (by simp only[jj_eq,ref01_tail_j4_eq m M2 rec2 h2];rfl)
theorem ref01_tail_j6_eq m:e40 jn m [1,1,1] [] s40_6=ref01_tail_j6 m:=
 tre (g:=fun J=>some true) (fun J=>by kernel_rfl) (by rfl)
theorem ref01_tail_l2_eq m:∀M2 x0 x1 x2 x3,l40 jn m w40_0 [] M2 (s40_5 x0 x1 x2 x3)=ref01_tail_l2 m M2 x0 x1 x2 x3
 |0,_,_,_,_=>rfl
 | M2+1,x0,x1,x2,x3=>
   trl (g:=fun J=>(bif (decide (x3<x2)) then
  (jj J 0 6 0 (s40_5 x0 x1 x2 x3) (e40 J m w40_3 [M2]))
   else
  (jj J 0 8 0 s40_6 (e40 J m [1,1,1] [])))) (fun J=>by kernel_rfl) (by simp only[jj_eq,ref01_tail_j3_eq m M2 (ref01_tail_l2 m M2) (ref01_tail_l2_eq m M2),ref01_tail_j6_eq m];rfl)
theorem ref01_tail_j1_eq m x0 x1 x2 x3:e40 jn m [1,1,0,1] [] (s40_5 x0 x1 x2 x3)=ref01_tail_j1 m x0 x1 x2 x3:=
 tre (g:=fun J=>(jj J 1 4 (Nat.succ m) (s40_5 x0 x1 x2 x3) (l40 J m w40_0 [] (Nat.succ m)))) (fun J=>by kernel_rfl) (by simp only[jj_eq,ref01_tail_l2_eq m];rfl)
theorem ref01_tail_j0_eq m x0 x1 x2:e40 jn m [1,1] [] (s40_0 x0 x1 x2)=ref01_tail_j0 m x0 x1 x2:=
 tre (g:=fun J=>(jj J 0 4 0 (s40_5 x0 x1 x2 0) (e40 J m [1,1,0,1] []))) (fun J=>by kernel_rfl) (by simp only[jj_eq,ref01_tail_j1_eq m];rfl)
theorem ref01_tail_eq m a0 a1 a2:e40 jn m [] [] ⟨[(.dat 9 (.str a0)),(.dat 3 (.int a1)),(.dat 3 (.int a2))],[],0⟩=ref01_tail (m+1) a0 a1 a2:=
 tre (g:=fun J=>(bif (decide ((ByteArray.size a0:Int)<(IntKind.wrap .i64 (a1+a2)))) then
  some false
   else
  (jj J 0 3 0 (s40_0 a0 a1 a2) (e40 J m [1,1] [])))) (fun J=>by kernel_rfl) (by simp only[jj_eq,ref01_tail_j0_eq m];rfl)
def w38_7:List Nat:=[1,0,1,0,0,1]
def w38_3:List Nat:=w38_7++[0,1,1,1]
def w38_2:List Nat:=w38_3++[1]
def w38_0:List Nat:=w38_2++[1]
def w38_1:List Nat:=w38_2++[0,1]
def w38_6:List Nat:=w38_7++[0,1,1,0,0,1,1,1]
def w38_5:List Nat:=w38_6++[1,1]
def w38_4:List Nat:=w38_5++[1,1]
noncomputable def e38 (J:Nat→Nat→Nat→St→Option Bool→Option Bool) (m:Nat) (p ms:List Nat) (σ:St):=evAt Tryd.prog env (ct m) J (m+1) 76 89 Tryd.f76 d7 p ms σ
noncomputable def l38 (J:Nat→Nat→Nat→St→Option Bool→Option Bool) (m:Nat) (p ms:List Nat) (M:Nat) (σ:St):=loopAt Tryd.prog env (ct m) J (m+1) 76 89 Tryd.f76 d7 p ms M σ
noncomputable def s38_6 (x0:ByteArray) (x1 x2:Int):St:=⟨tsOf [(0,(.dat 9 (.str x0))),(3,(.dat 3 (.int x1))),(5,(.dat 3 (.int x2)))],[],0⟩
noncomputable def s38_5 (x0:ByteArray) (x1 x2:Int) (x3:Bool):St:=⟨tsOf [(0,(.dat 9 (.str x0))),(3,(.dat 3 (.int x1))),(5,(.dat 3 (.int x2))),(84,(.dat 4 (.bool x3)))],[],0⟩
noncomputable def s38_4 (x0:ByteArray) (x1 x2 x3:Int):St:=⟨tsOf [(0,(.dat 9 (.str x0))),(3,(.dat 3 (.int x1))),(4,(.dat 5 (.int x2))),(5,(.dat 3 (.int x3)))],[],0⟩
noncomputable def s38_9 (x0:ByteArray) (x1 x2:Int) (x3:Bool):St:=⟨tsOf [(0,(.dat 9 (.str x0))),(3,(.dat 3 (.int x1))),(4,(.dat 5 (.int x2))),(30,(.dat 4 (.bool x3)))],[],0⟩
noncomputable def s38_8 (x0:ByteArray) (x1 x2:Int) (x3:Bool):St:=⟨tsOf [(0,(.dat 9 (.str x0))),(3,(.dat 3 (.int x1))),(4,(.dat 5 (.int x2))),(23,(.dat 4 (.bool x3)))],[],0⟩
noncomputable def s38_7 (x0:ByteArray) (x1 x2:Int) (x3:Bool):St:=⟨tsOf [(0,(.dat 9 (.str x0))),(3,(.dat 3 (.int x1))),(4,(.dat 5 (.int x2))),(16,(.dat 4 (.bool x3)))],[],0⟩
noncomputable def s38_2 (x0:ByteArray) (x1:Int):St:=⟨tsOf [(0,(.dat 9 (.str x0))),(3,(.dat 3 (.int x1)))],[],0⟩
noncomputable def s38_10:St:=⟨tsOf [],[],0⟩
abbrev H38_1 (m M1:Nat) (rec1:ByteArray→Int→Option Bool):Prop:=∀x0 x1,l38 jn m [1,0,1,0] [] M1 (s38_2 x0 x1)=rec1 x0 x1
theorem ref01_UTF8_j6_eq m M1 rec1 (h1:H38_1 m M1 rec1) x0 x1 x2:e38 jn m w38_0 [M1] (s38_6 x0 x1 x2)=ref01_UTF8_j6 m rec1 x0 x1 x2:=
 tre (g:=fun J=>(jj J 1 2 M1 (s38_2 x0 (IntKind.wrap .i64 ((IntKind.wrap .i64 (x1+x2))+1))) (l38 J m [1,0,1,0] [] M1))) (fun J=>by kernel_rfl) (by simp only[jj_eq,h1];rfl)
theorem ref01_UTF8_j5_eq m M1 rec1 (h1:H38_1 m M1 rec1) x0 x1 x2 x3:e38 jn m w38_1 [M1] (s38_5 x0 x1 x2 x3)=ref01_UTF8_j5 m rec1 x0 x1 x2 x3:=
 tre (g:=fun J=>(bif x3 then
  some false
   else
  (jj J 0 17 0 (s38_6 x0 x1 x2) (e38 J m w38_0 [M1])))) (fun J=>by kernel_rfl) (by simp only[jj_eq,ref01_UTF8_j6_eq m M1 rec1 h1];rfl)
theorem ref01_UTF8_j4_eq m M1 rec1 (h1:H38_1 m M1 rec1) x0 x1 x2 x3:e38 jn m w38_2 [M1] (s38_4 x0 x1 x2 x3)=ref01_UTF8_j4 m rec1 x0 x1 x2 x3:=
 tre (g:=fun J=>(bif (x2==224) then
  ((idxS x0 (IntKind.wrap .i64 (x1+1))).bind fun v2=>
  (bif (decide (v2<160)) then
  (jj J 0 16 0 (s38_5 x0 x1 x3 true) (e38 J m w38_1 [M1]))
  else
  (bif (x2==237) then
  ((idxS x0 (IntKind.wrap .i64 (x1+1))).bind fun v3=>
  (bif (decide (159<v3)) then
  (jj J 0 16 0 (s38_5 x0 x1 x3 true) (e38 J m w38_1 [M1]))
  else
  (bif (x2==240) then
  ((idxS x0 (IntKind.wrap .i64 (x1+1))).bind fun v4=>
  (bif (decide (v4<144)) then
  (jj J 0 16 0 (s38_5 x0 x1 x3 true) (e38 J m w38_1 [M1]))
  else
  (bif (x2==244) then
  ((idxS x0 (IntKind.wrap .i64 (x1+1))).bind fun v5=>
  (jj J 0 16 0 (s38_5 x0 x1 x3 (decide (143<v5))) (e38 J m w38_1 [M1])))
  else
  (jj J 0 16 0 (s38_5 x0 x1 x3 false) (e38 J m w38_1 [M1])))))
  else
  (bif (x2==244) then
  ((idxS x0 (IntKind.wrap .i64 (x1+1))).bind fun v6=>
  (jj J 0 16 0 (s38_5 x0 x1 x3 (decide (143<v6))) (e38 J m w38_1 [M1])))
  else
  (jj J 0 16 0 (s38_5 x0 x1 x3 false) (e38 J m w38_1 [M1]))))))
  else
  (bif (x2==240) then
  ((idxS x0 (IntKind.wrap .i64 (x1+1))).bind fun v7=>
  (bif (decide (v7<144)) then
  (jj J 0 16 0 (s38_5 x0 x1 x3 true) (e38 J m w38_1 [M1]))
  else
  (bif (x2==244) then
  ((idxS x0 (IntKind.wrap .i64 (x1+1))).bind fun v8=>
  (jj J 0 16 0 (s38_5 x0 x1 x3 (decide (143<v8))) (e38 J m w38_1 [M1])))
  else
  (jj J 0 16 0 (s38_5 x0 x1 x3 false) (e38 J m w38_1 [M1])))))
  else
  (bif (x2==244) then
  ((idxS x0 (IntKind.wrap .i64 (x1+1))).bind fun v9=>
  (jj J 0 16 0 (s38_5 x0 x1 x3 (decide (143<v9))) (e38 J m w38_1 [M1])))
  else
  (jj J 0 16 0 (s38_5 x0 x1 x3 false) (e38 J m w38_1 [M1])))))))
   else
  (bif (x2==237) then
  ((idxS x0 (IntKind.wrap .i64 (x1+1))).bind fun v10=>
  (bif (decide (159<v10)) then
  (jj J 0 16 0 (s38_5 x0 x1 x3 true) (e38 J m w38_1 [M1]))
  else
  (bif (x2==240) then
  ((idxS x0 (IntKind.wrap .i64 (x1+1))).bind fun v11=>
  (bif (decide (v11<144)) then
  (jj J 0 16 0 (s38_5 x0 x1 x3 true) (e38 J m w38_1 [M1]))
  else
  (bif (x2==244) then
  ((idxS x0 (IntKind.wrap .i64 (x1+1))).bind fun v12=>
  (jj J 0 16 0 (s38_5 x0 x1 x3 (decide (143<v12))) (e38 J m w38_1 [M1])))
  else
  (jj J 0 16 0 (s38_5 x0 x1 x3 false) (e38 J m w38_1 [M1])))))
  else
  (bif (x2==244) then
  ((idxS x0 (IntKind.wrap .i64 (x1+1))).bind fun v13=>
  (jj J 0 16 0 (s38_5 x0 x1 x3 (decide (143<v13))) (e38 J m w38_1 [M1])))
  else
  (jj J 0 16 0 (s38_5 x0 x1 x3 false) (e38 J m w38_1 [M1]))))))
  else
  (bif (x2==240) then
  ((idxS x0 (IntKind.wrap .i64 (x1+1))).bind fun v14=>
  (bif (decide (v14<144)) then
  (jj J 0 16 0 (s38_5 x0 x1 x3 true) (e38 J m w38_1 [M1]))
  else
  (bif (x2==244) then
  ((idxS x0 (IntKind.wrap .i64 (x1+1))).bind fun v15=>
  (jj J 0 16 0 (s38_5 x0 x1 x3 (decide (143<v15))) (e38 J m w38_1 [M1])))
  else
  (jj J 0 16 0 (s38_5 x0 x1 x3 false) (e38 J m w38_1 [M1])))))
  else
  (bif (x2==244) then
  ((idxS x0 (IntKind.wrap .i64 (x1+1))).bind fun v16=>
  (jj J 0 16 0 (s38_5 x0 x1 x3 (decide (143<v16))) (e38 J m w38_1 [M1])))
  else
  (jj J 0 16 0 (s38_5 x0 x1 x3 false) (e38 J m w38_1 [M1]))))))) (fun J=>by kernel_rfl) (by simp only[jj_eq,ref01_UTF8_j5_eq m M1 rec1 h1];rfl)
theorem ref01_UTF8_j3_eq m M1 rec1 (h1:H38_1 m M1 rec1) x0 x1 x2 x3:e38 jn m w38_3 [M1] (s38_4 x0 x1 x2 x3)=ref01_UTF8_j3 m rec1 x0 x1 x2 x3:=
 tre (g:=fun J=>((ref01_tail m x0 (IntKind.wrap .i64 (x1+1)) x3).bind fun r1=>
  (bif (Bool.not r1) then
  some false
  else
  (jj J 0 15 0 (s38_4 x0 x1 x2 x3) (e38 J m w38_2 [M1]))))) (fun J=>by kernel_rfl) (by simp only[jj_eq,ref01_UTF8_j4_eq m M1 rec1 h1];rfl)
theorem ref01_UTF8_j9_eq m M1 rec1 (h1:H38_1 m M1 rec1) x0 x1 x2 x3:e38 jn m w38_4 [M1] (s38_9 x0 x1 x2 x3)=ref01_UTF8_j9 m rec1 x0 x1 x2 x3:=
 tre (g:=fun J=>(bif x3 then
  (jj J 0 13 0 (s38_4 x0 x1 x2 3) (e38 J m w38_3 [M1]))
   else
  some false)) (fun J=>by kernel_rfl) (by simp only[jj_eq,ref01_UTF8_j3_eq m M1 rec1 h1];rfl)
theorem ref01_UTF8_j8_eq m M1 rec1 (h1:H38_1 m M1 rec1) x0 x1 x2 x3:e38 jn m w38_5 [M1] (s38_8 x0 x1 x2 x3)=ref01_UTF8_j8 m rec1 x0 x1 x2 x3:=
 tre (g:=fun J=>(bif x3 then
  (jj J 0 13 0 (s38_4 x0 x1 x2 2) (e38 J m w38_3 [M1]))
   else
  (bif (decide (240≤x2)) then
  (jj J 0 12 0 (s38_9 x0 x1 x2 (decide (x2≤244))) (e38 J m w38_4 [M1]))
  else
  (jj J 0 12 0 (s38_9 x0 x1 x2 false) (e38 J m w38_4 [M1]))))) (fun J=>by kernel_rfl) (by simp only[jj_eq,ref01_UTF8_j3_eq m M1 rec1 h1,ref01_UTF8_j9_eq m M1 rec1 h1];rfl)
theorem ref01_UTF8_j7_eq m M1 rec1 (h1:H38_1 m M1 rec1) x0 x1 x2 x3:e38 jn m w38_6 [M1] (s38_7 x0 x1 x2 x3)=ref01_UTF8_j7 m rec1 x0 x1 x2 x3:=
 tre (g:=fun J=>(bif x3 then
  (jj J 0 13 0 (s38_4 x0 x1 x2 1) (e38 J m w38_3 [M1]))
   else
  (bif (decide (224≤x2)) then
  (jj J 0 10 0 (s38_8 x0 x1 x2 (decide (x2≤239))) (e38 J m w38_5 [M1]))
  else
  (jj J 0 10 0 (s38_8 x0 x1 x2 false) (e38 J m w38_5 [M1]))))) (fun J=>by kernel_rfl) (by simp only[jj_eq,ref01_UTF8_j3_eq m M1 rec1 h1,ref01_UTF8_j8_eq m M1 rec1 h1];rfl)
theorem ref01_UTF8_j2_eq m M1 rec1 (h1:H38_1 m M1 rec1) x0 x1:e38 jn m w38_7 [M1] (s38_2 x0 x1)=ref01_UTF8_j2 m rec1 x0 x1:=
 tre (g:=fun J=>((idxS x0 x1).bind fun v0=>
  (bif (decide (v0<128)) then
  (jj J 0 13 0 (s38_4 x0 x1 v0 0) (e38 J m w38_3 [M1]))
  else
  (bif (decide (194≤v0)) then
  (jj J 0 8 0 (s38_7 x0 x1 v0 (decide (v0≤223))) (e38 J m w38_6 [M1]))
  else
  (jj J 0 8 0 (s38_7 x0 x1 v0 false) (e38 J m w38_6 [M1])))))) (fun J=>by kernel_rfl) (by simp only[jj_eq,ref01_UTF8_j3_eq m M1 rec1 h1,ref01_UTF8_j7_eq m M1 rec1 h1];rfl)
theorem ref01_UTF8_j10_eq m:e38 jn m [1,1] [] s38_10=ref01_UTF8_j10 m:=
 tre (g:=fun J=>some true) (fun J=>by kernel_rfl) (by rfl)
theorem ref01_UTF8_l1_eq m:∀M1 x0 x1,l38 jn m [1,0,1,0] [] M1 (s38_2 x0 x1)=ref01_UTF8_l1 m M1 x0 x1
 |0,_,_=>rfl
 | M1+1,x0,x1=>
   trl (g:=fun J=>(bif (decide (x1<(ByteArray.size x0:Int))) then
  (jj J 0 3 0 (s38_2 x0 x1) (e38 J m w38_7 [M1]))
   else
  (jj J 0 18 0 s38_10 (e38 J m [1,1] [])))) (fun J=>by kernel_rfl) (by simp only[jj_eq,ref01_UTF8_j2_eq m M1 (ref01_UTF8_l1 m M1) (ref01_UTF8_l1_eq m M1),ref01_UTF8_j10_eq m];rfl)
theorem ref01_UTF8_j0_eq m x0 x1:e38 jn m [1,0,1] [] (s38_2 x0 x1)=ref01_UTF8_j0 m x0 x1:=
 tre (g:=fun J=>(jj J 1 2 (Nat.succ m) (s38_2 x0 x1) (l38 J m [1,0,1,0] [] (Nat.succ m)))) (fun J=>by kernel_rfl) (by simp only[jj_eq,ref01_UTF8_l1_eq m];rfl)
theorem ref01_UTF8_eq m a0:e38 jn m [] [] ⟨[(.dat 9 (.str a0))],[],0⟩=ref01_UTF8 (m+1) a0:=
 tre (g:=fun J=>(jj J 0 2 0 (s38_2 a0 0) (e38 J m [1,0,1] []))) (fun J=>by kernel_rfl) (by simp only[jj_eq,ref01_UTF8_j0_eq m];rfl)
def w41_0:List Nat:=[1,1,0,1,0]
def w41_3:List Nat:=[1,1,0,1,0,0,1]
def w41_1:List Nat:=w41_3++[1]
def w41_2:List Nat:=w41_3++[0,0,1]
noncomputable def e41 (J:Nat→Nat→Nat→St→Option Bool→Option Bool) (m:Nat) (p ms:List Nat) (σ:St):=evAt Tryd.prog env (ct m) J (m+1) 85 28 Tryd.f85 d7 p ms σ
noncomputable def l41 (J:Nat→Nat→Nat→St→Option Bool→Option Bool) (m:Nat) (p ms:List Nat) (M:Nat) (σ:St):=loopAt Tryd.prog env (ct m) J (m+1) 85 28 Tryd.f85 d7 p ms M σ
noncomputable def s41_6 (x0:ByteArray) (x1:Int):St:=⟨tsOf [(0,(.dat 9 (.str x0))),(3,(.dat 3 (.int x1)))],[],0⟩
noncomputable def s41_5 (x0:ByteArray) (x1:Int) (x2:Bool):St:=⟨tsOf [(0,(.dat 9 (.str x0))),(3,(.dat 3 (.int x1))),(27,(.dat 4 (.bool x2)))],[],0⟩
noncomputable def s41_7:St:=⟨tsOf [],[],0⟩
noncomputable def s41_1 (x0:ByteArray):St:=⟨tsOf [(0,(.dat 9 (.str x0)))],[],0⟩
noncomputable def s41_0 (x0:ByteArray) (x1:Bool):St:=⟨tsOf [(0,(.dat 9 (.str x0))),(11,(.dat 4 (.bool x1)))],[],0⟩
abbrev H41_3 (m M3:Nat) (rec3:ByteArray→Int→Option Bool):Prop:=∀x0 x1,l41 jn m w41_0 [] M3 (s41_6 x0 x1)=rec3 x0 x1
theorem ref01_wide_j6_eq m M3 rec3 (h3:H41_3 m M3 rec3) x0 x1:e41 jn m w41_1 [M3] (s41_6 x0 x1)=ref01_wide_j6 m rec3 x0 x1:=
 tre (g:=fun J=>(jj J 1 4 M3 (s41_6 x0 (IntKind.wrap .i64 (x1+1))) (l41 J m w41_0 [] M3))) (fun J=>by kernel_rfl) (by simp only[jj_eq,h3];rfl)
theorem ref01_wide_j5_eq m M3 rec3 (h3:H41_3 m M3 rec3) x0 x1 x2:e41 jn m w41_2 [M3] (s41_5 x0 x1 x2)=ref01_wide_j5 m rec3 x0 x1 x2:=
 tre (g:=fun J=>(bif x2 then
  some false
   else
  (jj J 0 5 0 (s41_6 x0 x1) (e41 J m w41_1 [M3])))) (fun J=>by kernel_rfl) (by simp only[jj_eq,ref01_wide_j6_eq m M3 rec3 h3];rfl)
theorem ref01_wide_j4_eq m M3 rec3 (h3:H41_3 m M3 rec3) x0 x1:e41 jn m w41_3 [M3] (s41_6 x0 x1)=ref01_wide_j4 m rec3 x0 x1:=
 tre (g:=fun J=>((idxS x0 x1).bind fun v0=>
  (bif (decide (v0<32)) then
  (jj J 0 7 0 (s41_5 x0 x1 true) (e41 J m w41_2 [M3]))
  else
  ((idxS x0 x1).bind fun v1=>
  (jj J 0 7 0 (s41_5 x0 x1 (decide (126<v1))) (e41 J m w41_2 [M3])))))) (fun J=>by kernel_rfl) (by simp only[jj_eq,ref01_wide_j5_eq m M3 rec3 h3];rfl)
theorem ref01_wide_j7_eq m:e41 jn m [1,1,1] [] s41_7=ref01_wide_j7 m:=
 tre (g:=fun J=>some true) (fun J=>by kernel_rfl) (by rfl)
theorem ref01_wide_l3_eq m:∀M3 x0 x1,l41 jn m w41_0 [] M3 (s41_6 x0 x1)=ref01_wide_l3 m M3 x0 x1
 |0,_,_=>rfl
 | M3+1,x0,x1=>
   trl (g:=fun J=>(bif (decide (x1<(ByteArray.size x0:Int))) then
  (jj J 0 6 0 (s41_6 x0 x1) (e41 J m w41_3 [M3]))
   else
  (jj J 0 8 0 s41_7 (e41 J m [1,1,1] [])))) (fun J=>by kernel_rfl) (by simp only[jj_eq,ref01_wide_j4_eq m M3 (ref01_wide_l3 m M3) (ref01_wide_l3_eq m M3),ref01_wide_j7_eq m];rfl)
theorem ref01_wide_j2_eq m x0 x1:e41 jn m [1,1,0,1] [] (s41_6 x0 x1)=ref01_wide_j2 m x0 x1:=
 tre (g:=fun J=>(jj J 1 4 (Nat.succ m) (s41_6 x0 x1) (l41 J m w41_0 [] (Nat.succ m)))) (fun J=>by kernel_rfl) (by simp only[jj_eq,ref01_wide_l3_eq m];rfl)
theorem ref01_wide_j1_eq m x0:e41 jn m [1,1] [] (s41_1 x0)=ref01_wide_j1 m x0:=
 tre (g:=fun J=>(jj J 0 4 0 (s41_6 x0 0) (e41 J m [1,1,0,1] []))) (fun J=>by kernel_rfl) (by simp only[jj_eq,ref01_wide_j2_eq m];rfl)
theorem ref01_wide_j0_eq m x0 x1:e41 jn m [1,0,1] [] (s41_0 x0 x1)=ref01_wide_j0 m x0 x1:=
 tre (g:=fun J=>(bif x1 then
  some false
   else
  (jj J 0 3 0 (s41_1 x0) (e41 J m [1,1] [])))) (fun J=>by kernel_rfl) (by simp only[jj_eq,ref01_wide_j1_eq m];rfl)
theorem ref01_wide_eq m a0:e41 jn m [] [] ⟨[(.dat 9 (.str a0))],[],0⟩=ref01_wide (m+1) a0:=
 tre (g:=fun J=>(bif (decide ((ByteArray.size a0:Int)<1)) then
  (jj J 0 2 0 (s41_0 a0 true) (e41 J m [1,0,1] []))
   else
  (jj J 0 2 0 (s41_0 a0 (decide (128<(ByteArray.size a0:Int)))) (e41 J m [1,0,1] [])))) (fun J=>by kernel_rfl) (by simp only[jj_eq,ref01_wide_j0_eq m];rfl)
def w32_6:List Nat:=[1,1,1,1,1]
def w32_5:List Nat:=[1,1,1,1,1,1]
def w32_7:List Nat:=[1,1,1,1,0,1]
def w32_3:List Nat:=w32_5++[1]
def w32_4:List Nat:=w32_5++[0,1]
def w32_0:List Nat:=w32_4++[0]
def w32_2:List Nat:=w32_0++[0,1]
def w32_1:List Nat:=w32_2++[1]
noncomputable def e32 (J:Nat→Nat→Nat→St→Option Bool→Option Bool) (m:Nat) (p ms:List Nat) (σ:St):=evAt Tryd.prog env (ct m) J (m+1) 62 138 Tryd.f62 d7 p ms σ
noncomputable def l32 (J:Nat→Nat→Nat→St→Option Bool→Option Bool) (m:Nat) (p ms:List Nat) (M:Nat) (σ:St):=loopAt Tryd.prog env (ct m) J (m+1) 62 138 Tryd.f62 d7 p ms M σ
noncomputable def s32_10 (x0:Bool) (x1:Int) (x2:Dt):St:=⟨tsOf [(1,(.dat 4 (.bool x0))),(2,(.ptr 0 [] 0)),(7,(.dat 3 (.int x1)))],[(.box 36 (.dat 36 x2))],0⟩
noncomputable def s32_11 (x0:Bool) (x1:Dt):St:=⟨tsOf [(1,(.dat 4 (.bool x0))),(2,(.ptr 0 [] 0))],[(.box 36 (.dat 36 x1))],0⟩
noncomputable def s32_4 (x0 x1:Bool) (x2:Dt):St:=⟨tsOf [(1,(.dat 4 (.bool x0))),(2,(.ptr 0 [] 0)),(79,(.dat 4 (.bool x1)))],[(.box 36 (.dat 36 x2))],0⟩
noncomputable def s32_3 (x0 x1 x2:Bool) (x3:Dt):St:=⟨tsOf [(1,(.dat 4 (.bool x0))),(2,(.ptr 0 [] 0)),(5,(.dat 4 (.bool x1))),(6,(.dat 4 (.bool x2)))],[(.box 36 (.dat 36 x3))],0⟩
noncomputable def s32_2 (x0 x1:Bool) (x2:Dt):St:=⟨tsOf [(1,(.dat 4 (.bool x0))),(2,(.ptr 0 [] 0)),(5,(.dat 4 (.bool x1)))],[(.box 36 (.dat 36 x2))],0⟩
noncomputable def s32_0 (x0 x1:Bool) (x2:Dt):St:=⟨tsOf [(1,(.dat 4 (.bool x0))),(2,(.ptr 0 [] 0)),(27,(.dat 4 (.bool x1)))],[(.box 36 (.dat 36 x2))],0⟩
abbrev H32_8 (m M8:Nat) (rec8:Bool→Int→Dt→Option Bool):Prop:=∀x0 x1 x2,l32 jn m w32_0 [] M8 (s32_10 x0 x1 x2)=rec8 x0 x1 x2
theorem ref01_formed_j10_eq m M8 rec8 (h8:H32_8 m M8 rec8) x0 x1 x2:e32 jn m w32_1 [M8] (s32_10 x0 x1 x2)=ref01_formed_j10 m (ref01_formed m) (ref01_fields m) rec8 x0 x1 x2:=
 tre (g:=fun J=>(jj J 1 19 M8 (s32_10 x0 (IntKind.wrap .i64 (x1+1)) x2) (l32 J m w32_0 [] M8))) (fun J=>by kernel_rfl) (by simp only[jj_eq,h8];rfl)
theorem ref01_formed_j9_eq m M8 rec8 (h8:H32_8 m M8 rec8) x0 x1 x2:e32 jn m w32_2 [M8] (s32_10 x0 x1 x2)=ref01_formed_j9 m (ref01_formed m) (ref01_fields m) rec8 x0 x1 x2:=
 tre (g:=fun J=>((idx (Dt.L x2 3) x1).bind fun v1=>
  ((ref01_formed m v1 x0).bind fun r2=>
  (bif (Bool.not r2) then
  some false
  else
  (jj J 0 20 0 (s32_10 x0 x1 x2) (e32 J m w32_1 [M8])))))) (fun J=>by kernel_rfl) (by simp only[jj_eq,ref01_formed_j10_eq m M8 rec8 h8];rfl)
theorem ref01_formed_j11_eq m x0 x1:e32 jn m w32_3 [] (s32_11 x0 x1)=ref01_formed_j11 m (ref01_formed m) (ref01_fields m) x0 x1:=
 tre (g:=fun J=>((ref01_fields m x1 x0).bind fun r3=>
  some r3)) (fun J=>by kernel_rfl) (by rfl)
theorem ref01_formed_l8_eq m:∀M8 x0 x1 x2,l32 jn m w32_0 [] M8 (s32_10 x0 x1 x2)=ref01_formed_l8 m (ref01_formed m) (ref01_fields m) M8 x0 x1 x2
 |0,_,_,_=>rfl
 | M8+1,x0,x1,x2=>
   trl (g:=fun J=>(bif (decide (x1<(List.length (Dt.L x2 3):Int))) then
  (jj J 0 21 0 (s32_10 x0 x1 x2) (e32 J m w32_2 [M8]))
   else
  (jj J 0 23 0 (s32_11 x0 x2) (e32 J m w32_3 [])))) (fun J=>by kernel_rfl) (by simp only[jj_eq,ref01_formed_j9_eq m M8 (ref01_formed_l8 m (ref01_formed m) (ref01_fields m) M8) (ref01_formed_l8_eq m M8),ref01_formed_j11_eq m];rfl)
theorem ref01_formed_j7_eq m x0 x1 x2:e32 jn m w32_4 [] (s32_10 x0 x1 x2)=ref01_formed_j7 m (ref01_formed m) (ref01_fields m) x0 x1 x2:=
 tre (g:=fun J=>(jj J 1 19 (Nat.succ m) (s32_10 x0 x1 x2) (l32 J m w32_0 [] (Nat.succ m)))) (fun J=>by kernel_rfl) (by simp only[jj_eq,ref01_formed_l8_eq m];rfl)
theorem ref01_formed_j6_eq m x0 x1:e32 jn m w32_5 [] (s32_11 x0 x1)=ref01_formed_j6 m (ref01_formed m) (ref01_fields m) x0 x1:=
 tre (g:=fun J=>(jj J 0 19 0 (s32_10 x0 0 x1) (e32 J m w32_4 []))) (fun J=>by kernel_rfl) (by simp only[jj_eq,ref01_formed_j7_eq m];rfl)
theorem ref01_formed_j5_eq m x0 x1:e32 jn m w32_6 [] (s32_11 x0 x1)=ref01_formed_j5 m (ref01_formed m) (ref01_fields m) x0 x1:=
 tre (g:=fun J=>(bif ((Dt.I x1 0)==9) then
  (bif ((Dt.I x1 1)==0) then
  some true
  else
  some ((Dt.I x1 1)==1))
   else
  (bif ((Dt.I x1 0)==10) then
  some (decide (0≤(Dt.I x1 1)))
  else
  (bif ((Dt.I x1 0)==4) then
  (bif (decide ((ByteArray.size (Dt.S x1 2):Int)≤4096)) then
  ((ref01_UTF8 m (Dt.S x1 2)).bind fun r0=>
  some r0)
  else
  some false)
  else
  (bif ((Dt.I x1 0)==7) then
  some (decide ((ByteArray.size (Dt.S x1 2):Int)≤4096))
  else
  (bif ((Dt.I x1 0)==8) then
  some ((ByteArray.size (Dt.S x1 2):Int)==12)
  else
  (jj J 0 18 0 (s32_11 x0 x1) (e32 J m w32_5 [])))))))) (fun J=>by kernel_rfl) (by simp only[jj_eq,ref01_formed_j6_eq m];rfl)
theorem ref01_formed_j4_eq m x0 x1 x2:e32 jn m w32_7 [] (s32_4 x0 x1 x2)=ref01_formed_j4 m (ref01_formed m) (ref01_fields m) x0 x1 x2:=
 tre (g:=fun J=>(bif x1 then
  some false
   else
  (jj J 0 7 0 (s32_11 x0 x2) (e32 J m w32_6 [])))) (fun J=>by kernel_rfl) (by simp only[jj_eq,ref01_formed_j5_eq m];rfl)
theorem ref01_formed_j3_eq m x0 x1 x2 x3:e32 jn m [1,1,1,1] [] (s32_3 x0 x1 x2 x3)=ref01_formed_j3 m (ref01_formed m) (ref01_fields m) x0 x1 x2 x3:=
 tre (g:=fun J=>(bif (Bool.not x1) then
  (bif (Bool.not ((ByteArray.toList (Dt.S x3 2))==[])) then
  (jj J 0 6 0 (s32_4 x0 true x3) (e32 J m w32_7 []))
  else
  (bif (Bool.not x2) then
  (bif ((Dt.I x3 1) !=0) then
  (jj J 0 6 0 (s32_4 x0 true x3) (e32 J m w32_7 []))
  else
  (bif (decide ((Dt.I x3 0)<1)) then
  (jj J 0 6 0 (s32_4 x0 true x3) (e32 J m w32_7 []))
  else
  (jj J 0 6 0 (s32_4 x0 (decide (11<(Dt.I x3 0))) x3) (e32 J m w32_7 []))))
  else
  (bif (decide ((Dt.I x3 0)<1)) then
  (jj J 0 6 0 (s32_4 x0 true x3) (e32 J m w32_7 []))
  else
  (jj J 0 6 0 (s32_4 x0 (decide (11<(Dt.I x3 0))) x3) (e32 J m w32_7 [])))))
   else
  (bif (Bool.not x2) then
  (bif ((Dt.I x3 1) !=0) then
  (jj J 0 6 0 (s32_4 x0 true x3) (e32 J m w32_7 []))
  else
  (bif (decide ((Dt.I x3 0)<1)) then
  (jj J 0 6 0 (s32_4 x0 true x3) (e32 J m w32_7 []))
  else
  (jj J 0 6 0 (s32_4 x0 (decide (11<(Dt.I x3 0))) x3) (e32 J m w32_7 []))))
  else
  (bif (decide ((Dt.I x3 0)<1)) then
  (jj J 0 6 0 (s32_4 x0 true x3) (e32 J m w32_7 []))
  else
  (jj J 0 6 0 (s32_4 x0 (decide (11<(Dt.I x3 0))) x3) (e32 J m w32_7 [])))))) (fun J=>by kernel_rfl) (by simp only[jj_eq,ref01_formed_j4_eq m];rfl)
theorem ref01_formed_j2_eq m x0 x1 x2:e32 jn m [1,1,1] [] (s32_2 x0 x1 x2)=ref01_formed_j2 m (ref01_formed m) (ref01_fields m) x0 x1 x2:=
 tre (g:=fun J=>(bif ((Dt.I x2 0)==3) then
  (jj J 0 5 0 (s32_3 x0 x1 true x2) (e32 J m [1,1,1,1] []))
   else
  (bif ((Dt.I x2 0)==9) then
  (jj J 0 5 0 (s32_3 x0 x1 true x2) (e32 J m [1,1,1,1] []))
  else
  (jj J 0 5 0 (s32_3 x0 x1 ((Dt.I x2 0)==10) x2) (e32 J m [1,1,1,1] []))))) (fun J=>by kernel_rfl) (by simp only[jj_eq,ref01_formed_j3_eq m];rfl)
theorem ref01_formed_j1_eq m x0 x1:e32 jn m [1,1] [] (s32_11 x0 x1)=ref01_formed_j1 m (ref01_formed m) (ref01_fields m) x0 x1:=
 tre (g:=fun J=>(bif ((Dt.I x1 0)==4) then
  (jj J 0 4 0 (s32_2 x0 true x1) (e32 J m [1,1,1] []))
   else
  (bif ((Dt.I x1 0)==7) then
  (jj J 0 4 0 (s32_2 x0 true x1) (e32 J m [1,1,1] []))
  else
  (jj J 0 4 0 (s32_2 x0 ((Dt.I x1 0)==8) x1) (e32 J m [1,1,1] []))))) (fun J=>by kernel_rfl) (by simp only[jj_eq,ref01_formed_j2_eq m];rfl)
theorem ref01_formed_j0_eq m x0 x1 x2:e32 jn m [1,0,1] [] (s32_0 x0 x1 x2)=ref01_formed_j0 m (ref01_formed m) (ref01_fields m) x0 x1 x2:=
 tre (g:=fun J=>(bif x1 then
  some false
   else
  (jj J 0 3 0 (s32_11 x0 x2) (e32 J m [1,1] [])))) (fun J=>by kernel_rfl) (by simp only[jj_eq,ref01_formed_j1_eq m];rfl)
theorem ref01_formed_eq m a0 a1:e32 jn m [] [] ⟨[(.dat 36 a0),(.dat 4 (.bool a1))],[],0⟩=ref01_formed (m+1) a0 a1:=
 tre (g:=fun J=>(bif ((Dt.I a0 0) !=6) then
  (bif (decide (0<(List.length (Dt.L a0 3):Int))) then
  (jj J 0 2 0 (s32_0 a1 true a0) (e32 J m [1,0,1] []))
  else
  (bif ((Dt.I a0 0) !=5) then
  (jj J 0 2 0 (s32_0 a1 (decide (0<(List.length (Dt.L a0 4):Int))) a0) (e32 J m [1,0,1] []))
  else
  (jj J 0 2 0 (s32_0 a1 false a0) (e32 J m [1,0,1] []))))
   else
  (bif ((Dt.I a0 0) !=5) then
  (jj J 0 2 0 (s32_0 a1 (decide (0<(List.length (Dt.L a0 4):Int))) a0) (e32 J m [1,0,1] []))
  else
  (jj J 0 2 0 (s32_0 a1 false a0) (e32 J m [1,0,1] []))))) (fun J=>by kernel_rfl) (by simp only[jj_eq,ref01_formed_j0_eq m];rfl)
def w39_7:List Nat:=[1,0,1,0,0,1]
def w39_3:List Nat:=w39_7++[1]
def w39_5:List Nat:=w39_7++[0,0,1,1]
def w39_4:List Nat:=w39_5++[1]
def w39_6:List Nat:=w39_7++[0,0,1,0,1]
def w39_0:List Nat:=w39_4++[0]
def w39_2:List Nat:=w39_0++[0,1]
def w39_1:List Nat:=w39_2++[1]
noncomputable def e39 (J:Nat→Nat→Nat→St→Option Bool→Option Bool) (m:Nat) (p ms:List Nat) (σ:St):=evAt Tryd.prog env (ct m) J (m+1) 77 58 Tryd.f77 d7 p ms σ
noncomputable def l39 (J:Nat→Nat→Nat→St→Option Bool→Option Bool) (m:Nat) (p ms:List Nat) (M:Nat) (σ:St):=loopAt Tryd.prog env (ct m) J (m+1) 77 58 Tryd.f77 d7 p ms M σ
noncomputable def s39_8 (x0:Bool) (x1 x2:Int) (x3 x4:Dt):St:=⟨tsOf [(1,(.dat 4 (.bool x0))),(2,(.ptr 0 [] 0)),(5,(.dat 3 (.int x1))),(6,(.ptr 1 [] 0)),(7,(.dat 3 (.int x2)))],[(.box 36 (.dat 36 x3)),(.box 59 (.dat 59 x4))],0⟩
noncomputable def s39_9 (x0:Bool) (x1:Int) (x2:Dt):St:=⟨tsOf [(1,(.dat 4 (.bool x0))),(2,(.ptr 0 [] 0)),(5,(.dat 3 (.int x1)))],[(.box 36 (.dat 36 x2))],0⟩
noncomputable def s39_4 (x0:Bool) (x1:Int) (x2 x3:Dt):St:=⟨tsOf [(1,(.dat 4 (.bool x0))),(2,(.ptr 0 [] 0)),(5,(.dat 3 (.int x1))),(6,(.ptr 1 [] 0))],[(.box 36 (.dat 36 x2)),(.box 59 (.dat 59 x3))],0⟩
noncomputable def s39_3 (x0:Bool) (x1:Int) (x2:Bool) (x3 x4:Dt):St:=⟨tsOf [(1,(.dat 4 (.bool x0))),(2,(.ptr 0 [] 0)),(5,(.dat 3 (.int x1))),(6,(.ptr 1 [] 0)),(43,(.dat 4 (.bool x2)))],[(.box 36 (.dat 36 x3)),(.box 59 (.dat 59 x4))],0⟩
noncomputable def s39_10:St:=⟨tsOf [],[],0⟩
abbrev H39_1 (m M1:Nat) (rec1:Bool→Int→Dt→Option Bool):Prop:=∀x0 x1 x2,l39 jn m [1,0,1,0] [] M1 (s39_9 x0 x1 x2)=rec1 x0 x1 x2
abbrev H39_6 (m M1 M6:Nat) (rec6:Bool→Int→Int→Dt→Dt→Option Bool):Prop:=∀x0 x1 x2 x3 x4,l39 jn m w39_0 [M1] M6 (s39_8 x0 x1 x2 x3 x4)=rec6 x0 x1 x2 x3 x4
theorem ref01_fields_j8_eq m M1 rec1 (h1:H39_1 m M1 rec1) M6 rec6 (h6:H39_6 m M1 M6 rec6) x0 x1 x2 x3 x4:e39 jn m w39_1 [M1,M6] (s39_8 x0 x1 x2 x3 x4)=ref01_fields_j8 m (ref01_formed m) rec1 rec6 x0 x1 x2 x3 x4:=
 tre (g:=fun J=>(jj J 1 8 M6 (s39_8 x0 x1 (IntKind.wrap .i64 (x2+1)) x3 x4) (l39 J m w39_0 [M1] M6))) (fun J=>by kernel_rfl) (by simp only[jj_eq,h6];rfl)
theorem ref01_fields_j7_eq m M1 rec1 (h1:H39_1 m M1 rec1) M6 rec6 (h6:H39_6 m M1 M6 rec6) x0 x1 x2 x3 x4:e39 jn m w39_2 [M1,M6] (s39_8 x0 x1 x2 x3 x4)=ref01_fields_j7 m (ref01_formed m) rec1 rec6 x0 x1 x2 x3 x4:=
 tre (g:=fun J=>((idx (Dt.L x3 4) x2).bind fun v2=>
  (bif ((ByteArray.toList (Dt.S v2 0))==(ByteArray.toList (Dt.S x4 0))) then
  some false
  else
  (jj J 0 9 0 (s39_8 x0 x1 x2 x3 x4) (e39 J m w39_1 [M1,M6]))))) (fun J=>by kernel_rfl) (by simp only[jj_eq,ref01_fields_j8_eq m M1 rec1 h1 M6 rec6 h6];rfl)
theorem ref01_fields_j9_eq m M1 rec1 (h1:H39_1 m M1 rec1) x0 x1 x2:e39 jn m w39_3 [M1] (s39_9 x0 x1 x2)=ref01_fields_j9 m (ref01_formed m) rec1 x0 x1 x2:=
 tre (g:=fun J=>(jj J 1 2 M1 (s39_9 x0 (IntKind.wrap .i64 (x1+1)) x2) (l39 J m [1,0,1,0] [] M1))) (fun J=>by kernel_rfl) (by simp only[jj_eq,h1];rfl)
theorem ref01_fields_l6_eq m M1 rec1 (h1:H39_1 m M1 rec1):∀M6 x0 x1 x2 x3 x4,l39 jn m w39_0 [M1] M6 (s39_8 x0 x1 x2 x3 x4)=ref01_fields_l6 m (ref01_formed m) rec1 M6 x0 x1 x2 x3 x4
 |0,_,_,_,_,_=>rfl
 | M6+1,x0,x1,x2,x3,x4=>
   trl (g:=fun J=>(bif (decide (x2<x1)) then
  (jj J 0 10 0 (s39_8 x0 x1 x2 x3 x4) (e39 J m w39_2 [M1,M6]))
   else
  (jj J 0 3 0 (s39_9 x0 x1 x3) (e39 J m w39_3 [M1])))) (fun J=>by kernel_rfl) (by simp only[jj_eq,ref01_fields_j7_eq m M1 rec1 h1 M6 (ref01_fields_l6 m (ref01_formed m) rec1 M6) (ref01_fields_l6_eq m M1 rec1 h1 M6),ref01_fields_j9_eq m M1 rec1 h1];rfl)
theorem ref01_fields_j5_eq m M1 rec1 (h1:H39_1 m M1 rec1) x0 x1 x2 x3 x4:e39 jn m w39_4 [M1] (s39_8 x0 x1 x2 x3 x4)=ref01_fields_j5 m (ref01_formed m) rec1 x0 x1 x2 x3 x4:=
 tre (g:=fun J=>(jj J 1 8 (Nat.succ m) (s39_8 x0 x1 x2 x3 x4) (l39 J m w39_0 [M1] (Nat.succ m)))) (fun J=>by kernel_rfl) (by simp only[jj_eq,ref01_fields_l6_eq m M1 rec1 h1];rfl)
theorem ref01_fields_j4_eq m M1 rec1 (h1:H39_1 m M1 rec1) x0 x1 x2 x3:e39 jn m w39_5 [M1] (s39_4 x0 x1 x2 x3)=ref01_fields_j4 m (ref01_formed m) rec1 x0 x1 x2 x3:=
 tre (g:=fun J=>(jj J 0 8 0 (s39_8 x0 x1 0 x2 x3) (e39 J m w39_4 [M1]))) (fun J=>by kernel_rfl) (by simp only[jj_eq,ref01_fields_j5_eq m M1 rec1 h1];rfl)
theorem ref01_fields_j3_eq m M1 rec1 (h1:H39_1 m M1 rec1) x0 x1 x2 x3 x4:e39 jn m w39_6 [M1] (s39_3 x0 x1 x2 x3 x4)=ref01_fields_j3 m (ref01_formed m) rec1 x0 x1 x2 x3 x4:=
 tre (g:=fun J=>(bif x2 then
  some false
   else
  (jj J 0 7 0 (s39_4 x0 x1 x3 x4) (e39 J m w39_5 [M1])))) (fun J=>by kernel_rfl) (by simp only[jj_eq,ref01_fields_j4_eq m M1 rec1 h1];rfl)
theorem ref01_fields_j2_eq m M1 rec1 (h1:H39_1 m M1 rec1) x0 x1 x2:e39 jn m w39_7 [M1] (s39_9 x0 x1 x2)=ref01_fields_j2 m (ref01_formed m) rec1 x0 x1 x2:=
 tre (g:=fun J=>((idx (Dt.L x2 4) x1).bind fun v0=>
  (bif x0 then
  ((ref01_Name m (Dt.S v0 0)).bind fun r1=>
  (bif (Bool.not r1) then
  (jj J 0 6 0 (s39_3 x0 x1 true x2 v0) (e39 J m w39_6 [M1]))
  else
  (bif (Bool.not x0) then
  ((ref01_wide m (Dt.S v0 0)).bind fun r3=>
  (bif (Bool.not r3) then
  (jj J 0 6 0 (s39_3 x0 x1 true x2 v0) (e39 J m w39_6 [M1]))
  else
  ((ref01_formed m (Dt.fld v0 1) x0).bind fun r4=>
  (jj J 0 6 0 (s39_3 x0 x1 (Bool.not r4) x2 v0) (e39 J m w39_6 [M1])))))
  else
  ((ref01_formed m (Dt.fld v0 1) x0).bind fun r5=>
  (jj J 0 6 0 (s39_3 x0 x1 (Bool.not r5) x2 v0) (e39 J m w39_6 [M1]))))))
  else
  (bif (Bool.not x0) then
  ((ref01_wide m (Dt.S v0 0)).bind fun r6=>
  (bif (Bool.not r6) then
  (jj J 0 6 0 (s39_3 x0 x1 true x2 v0) (e39 J m w39_6 [M1]))
  else
  ((ref01_formed m (Dt.fld v0 1) x0).bind fun r7=>
  (jj J 0 6 0 (s39_3 x0 x1 (Bool.not r7) x2 v0) (e39 J m w39_6 [M1])))))
  else
  ((ref01_formed m (Dt.fld v0 1) x0).bind fun r8=>
  (jj J 0 6 0 (s39_3 x0 x1 (Bool.not r8) x2 v0) (e39 J m w39_6 [M1]))))))) (fun J=>by kernel_rfl) (by simp only[jj_eq,ref01_fields_j3_eq m M1 rec1 h1];rfl)
theorem ref01_fields_j10_eq m:e39 jn m [1,1] [] s39_10=ref01_fields_j10 m (ref01_formed m):=
 tre (g:=fun J=>some true) (fun J=>by kernel_rfl) (by rfl)
theorem ref01_fields_l1_eq m:∀M1 x0 x1 x2,l39 jn m [1,0,1,0] [] M1 (s39_9 x0 x1 x2)=ref01_fields_l1 m (ref01_formed m) M1 x0 x1 x2
 |0,_,_,_=>rfl
 | M1+1,x0,x1,x2=>
   trl (g:=fun J=>(bif (decide (x1<(List.length (Dt.L x2 4):Int))) then
  (jj J 0 4 0 (s39_9 x0 x1 x2) (e39 J m w39_7 [M1]))
   else
  (jj J 0 12 0 s39_10 (e39 J m [1,1] [])))) (fun J=>by kernel_rfl) (by simp only[jj_eq,ref01_fields_j2_eq m M1 (ref01_fields_l1 m (ref01_formed m) M1) (ref01_fields_l1_eq m M1),ref01_fields_j10_eq m];rfl)
theorem ref01_fields_j0_eq m x0 x1 x2:e39 jn m [1,0,1] [] (s39_9 x0 x1 x2)=ref01_fields_j0 m (ref01_formed m) x0 x1 x2:=
 tre (g:=fun J=>(jj J 1 2 (Nat.succ m) (s39_9 x0 x1 x2) (l39 J m [1,0,1,0] [] (Nat.succ m)))) (fun J=>by kernel_rfl) (by simp only[jj_eq,ref01_fields_l1_eq m];rfl)
theorem ref01_fields_eq m a0 a1:e39 jn m [] [] ⟨[(.dat 36 a0),(.dat 4 (.bool a1))],[],0⟩=ref01_fields (m+1) a0 a1:=
 tre (g:=fun J=>(jj J 0 2 0 (s39_9 a1 0 a0) (e39 J m [1,0,1] []))) (fun J=>by kernel_rfl) (by simp only[jj_eq,ref01_fields_j0_eq m];rfl)
noncomputable def e16 (J:Nat→Nat→Nat→St→Option Bool→Option Bool) (m:Nat) (p ms:List Nat) (σ:St):=evAt Tryd.prog env (ct m) J (m+1) 33 15 Tryd.f33 d7 p ms σ
noncomputable def l16 (J:Nat→Nat→Nat→St→Option Bool→Option Bool) (m:Nat) (p ms:List Nat) (M:Nat) (σ:St):=loopAt Tryd.prog env (ct m) J (m+1) 33 15 Tryd.f33 d7 p ms M σ
theorem ref01_Valid_eq m a0:e16 jn m [] [] ⟨[(.dat 36 a0)],[],0⟩=ref01_Valid (m+1) a0:=
 tre (g:=fun J=>((ref01_Depth m a0).bind fun r0=>
  (bif (decide (r0≤16)) then
  ((ref01_Nodes m a0).bind fun r1=>
  (bif (decide (r1≤1024)) then
  ((ref01_formed m a0 true).bind fun r2=>
  some r2)
  else
  some false))
  else
  some false))) (fun J=>by kernel_rfl) (by rfl)
def w2_0:List Nat:=[1,1,1,1,1,1,1]
def w2_3:List Nat:=[1,1,1,0,1,0,1]
def w2_1:List Nat:=[1,1,1,1,1,1,0,1]
def w2_2:List Nat:=w2_3++[1,0,1,1]
noncomputable def e2 (J:Nat→Nat→Nat→St→Option Bool→Option Bool) (m:Nat) (p ms:List Nat) (σ:St):=evAt Tryd.prog env (ct m) J (m+1) 8 111 Tryd.f8 d7 p ms σ
noncomputable def l2 (J:Nat→Nat→Nat→St→Option Bool→Option Bool) (m:Nat) (p ms:List Nat) (M:Nat) (σ:St):=loopAt Tryd.prog env (ct m) J (m+1) 8 111 Tryd.f8 d7 p ms M σ
noncomputable def s2_6 (x0 x1:Dt):St:=⟨tsOf [(1,(.ptr 0 [] 0)),(7,(.ptr 1 [] 0))],[(.box 47 (.dat 47 x0)),(.box 36 (.dat 36 x1))],0⟩
noncomputable def s2_5 (x0:Bool) (x1 x2:Dt):St:=⟨tsOf [(1,(.ptr 0 [] 0)),(7,(.ptr 1 [] 0)),(101,(.dat 4 (.bool x0)))],[(.box 47 (.dat 47 x1)),(.box 36 (.dat 36 x2))],0⟩
noncomputable def s2_4 (x0:Dt):St:=⟨tsOf [(1,(.ptr 0 [] 0))],[(.box 47 (.dat 47 x0))],0⟩
noncomputable def s2_3 (x0:Bool) (x1:Dt):St:=⟨tsOf [(1,(.ptr 0 [] 0)),(78,(.dat 4 (.bool x0)))],[(.box 47 (.dat 47 x1))],0⟩
noncomputable def s2_2 (x0 x1:Dt):St:=⟨tsOf [(1,(.ptr 0 [] 0)),(3,(.ptr 1 [] 0))],[(.box 47 (.dat 47 x0)),(.box 36 (.dat 36 x1))],0⟩
noncomputable def s2_0 (x0:Bool) (x1:Dt):St:=⟨tsOf [(1,(.ptr 0 [] 0)),(28,(.dat 4 (.bool x0)))],[(.box 47 (.dat 47 x1))],0⟩
theorem law04_PathChanges_j6_eq m x0 x1:e2 jn m w2_0 [] (s2_6 x0 x1)=law04_PathChanges_j6 m x0 x1:=
 tre (g:=fun J=>((path_DropC x1 (Dt.L x0 1)).bind fun r11=>
  ((ref01_Same m r11 x1).bind fun r12=>
  (bif r12 then
  ((awakeC).bind fun r13=>
  some r13)
  else
  some false)))) (fun J=>by kernel_rfl) (by rfl)
theorem law04_PathChanges_j5_eq m x0 x1 x2:e2 jn m w2_1 [] (s2_5 x0 x1 x2)=law04_PathChanges_j5 m x0 x1 x2:=
 tre (g:=fun J=>(bif x0 then
  some false
   else
  (jj J 0 15 0 (s2_6 x1 x2) (e2 J m w2_0 [])))) (fun J=>by kernel_rfl) (by simp only[jj_eq,law04_PathChanges_j6_eq m];rfl)
theorem law04_PathChanges_j4_eq m x0:e2 jn m [1,1,1,1] [] (s2_4 x0)=law04_PathChanges_j4 m x0:=
 tre (g:=fun J=>((path_DropC (Dt.fld x0 0) (Dt.L x0 1)).bind fun r9=>
  ((path_Get m r9 (Dt.L x0 1)).bind fun r10=>
  (bif (decide (0<(List.length (Dt.L x0 1):Int))) then
  (bif ((Dt.I r10 0) !=0) then
  (jj J 0 14 0 (s2_5 ((Dt.I r10 0) !=2) x0 r9) (e2 J m w2_1 []))
  else
  (jj J 0 14 0 (s2_5 false x0 r9) (e2 J m w2_1 [])))
  else
  (jj J 0 14 0 (s2_5 false x0 r9) (e2 J m w2_1 [])))))) (fun J=>by kernel_rfl) (by simp only[jj_eq,law04_PathChanges_j5_eq m];rfl)
theorem law04_PathChanges_j3_eq m x0 x1:e2 jn m w2_2 [] (s2_3 x0 x1)=law04_PathChanges_j3 m x0 x1:=
 tre (g:=fun J=>(bif x0 then
  some false
   else
  (jj J 0 11 0 (s2_4 x1) (e2 J m [1,1,1,1] [])))) (fun J=>by kernel_rfl) (by simp only[jj_eq,law04_PathChanges_j4_eq m];rfl)
theorem law04_PathChanges_j2_eq m x0 x1:e2 jn m w2_3 [] (s2_2 x0 x1)=law04_PathChanges_j2 m x0 x1:=
 tre (g:=fun J=>((path_Overlap m (Dt.L x0 1) (Dt.L x0 3)).bind fun r5=>
  (bif (Bool.not r5) then
  ((path_Get m (Dt.fld x0 0) (Dt.L x0 3)).bind fun r6=>
  ((path_Get m x1 (Dt.L x0 3)).bind fun r7=>
  ((ref01_Same m r6 r7).bind fun r8=>
  (bif (Bool.not r8) then
  (bif ((Dt.I r6 0) !=0) then
  (jj J 0 10 0 (s2_3 true x0) (e2 J m w2_2 []))
  else
  (jj J 0 10 0 (s2_3 ((Dt.I r7 0) !=2) x0) (e2 J m w2_2 [])))
  else
  (jj J 0 10 0 (s2_3 false x0) (e2 J m w2_2 []))))))
  else
  (jj J 0 11 0 (s2_4 x0) (e2 J m [1,1,1,1] []))))) (fun J=>by kernel_rfl) (by simp only[jj_eq,law04_PathChanges_j3_eq m,law04_PathChanges_j4_eq m];rfl)
theorem law04_PathChanges_j1_eq m x0:e2 jn m [1,1] [] (s2_4 x0)=law04_PathChanges_j1 m x0:=
 tre (g:=fun J=>((path_PutC (Dt.fld x0 0) (Dt.L x0 1) (Dt.fld x0 2)).bind fun r2=>
  (bif (r2.2==0) then
  ((path_Get m r2.1 (Dt.L x0 1)).bind fun r3=>
  ((ref01_Same m r3 (Dt.fld x0 2)).bind fun r4=>
  (bif (Bool.not r4) then
  some false
  else
  (jj J 0 7 0 (s2_2 x0 r2.1) (e2 J m w2_3 [])))))
  else
  (jj J 0 11 0 (s2_4 x0) (e2 J m [1,1,1,1] []))))) (fun J=>by kernel_rfl) (by simp only[jj_eq,law04_PathChanges_j2_eq m,law04_PathChanges_j4_eq m];rfl)
theorem law04_PathChanges_j0_eq m x0 x1:e2 jn m [1,0,1] [] (s2_0 x0 x1)=law04_PathChanges_j0 m x0 x1:=
 tre (g:=fun J=>(bif x0 then
  ((awakeC).bind fun r1=>
  some r1)
   else
  (jj J 0 3 0 (s2_4 x1) (e2 J m [1,1] [])))) (fun J=>by kernel_rfl) (by simp only[jj_eq,law04_PathChanges_j1_eq m];rfl)
theorem law04_PathChanges_eq m a0:e2 jn m [] [] ⟨[(.dat 47 a0)],[],0⟩=law04_PathChanges (m+1) a0:=
 tre (g:=fun J=>((law04_small m (Dt.fld a0 0) (Dt.L a0 1)).bind fun r0=>
  (bif (Bool.not r0) then
  (jj J 0 2 0 (s2_0 true a0) (e2 J m [1,0,1] []))
  else
  ((law04_small m (Dt.fld a0 2) (Dt.L a0 3)).bind fun r14=>
  (bif (Bool.not r14) then
  (jj J 0 2 0 (s2_0 true a0) (e2 J m [1,0,1] []))
  else
  ((ref01_Valid m (Dt.fld a0 0)).bind fun r15=>
  (jj J 0 2 0 (s2_0 (Bool.not r15) a0) (e2 J m [1,0,1] [])))))))) (fun J=>by kernel_rfl) (by simp only[jj_eq,law04_PathChanges_j0_eq m];rfl)
end Go.Proofs.YtmjnmiahblaanaaDoor
