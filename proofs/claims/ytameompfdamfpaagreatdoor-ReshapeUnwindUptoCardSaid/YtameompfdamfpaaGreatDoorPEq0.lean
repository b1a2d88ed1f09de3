/- Generated: each function's run in the abstract machine is its shallow function. -/
import Derived.Test.YtameompfdamfpaaGreatDoorPCt
import Derived.Test.YtameompfdamfpaaGreatDoorAmEnv
import Derived.KernelRfl
set_option linter.unusedVariables false
set_option linter.unusedSimpArgs false
namespace Go.Proofs.YtameompfdamfpaaGreatDoor.P1
open Go.Am
set_option maxRecDepth 100000
def w1_5:List Nat:=[1,1,1,0,1]
def w1_0:List Nat:=[1,1,1,0,1,0]
def w1_4:List Nat:=w1_0++[0,1,1]
def w1_1:List Nat:=w1_4++[1]
def w1_2:List Nat:=w1_4++[0,0,1,1]
def w1_3:List Nat:=w1_4++[0,0,1,0,1]
noncomputable def e1 (J:Nat→Nat→Nat→St→Option (Int×Bool)→Option (Int×Bool)) (m:Nat) (p ms:List Nat) (σ:St):=evAt Tryz.prog env (ct m) J (m+1) 139 49 Tryz.f139 d1 p ms σ
noncomputable def l1 (J:Nat→Nat→Nat→St→Option (Int×Bool)→Option (Int×Bool)) (m:Nat) (p ms:List Nat) (M:Nat) (σ:St):=loopAt Tryz.prog env (ct m) J (m+1) 139 49 Tryz.f139 d1 p ms M σ
noncomputable def s1_7 (x0:ByteArray) (x1 x2 x3:Int):St:=⟨tsOf [(0,(.dat 9 (.str x0))),(4,(.dat 3 (.int x1))),(25,(.dat 3 (.int x2))),(26,(.dat 3 (.int x3)))],[],0⟩
noncomputable def s1_6 (x0:ByteArray) (x1 x2 x3 x4:Int):St:=⟨tsOf [(0,(.dat 9 (.str x0))),(4,(.dat 3 (.int x1))),(5,(.dat 3 (.int x2))),(25,(.dat 3 (.int x3))),(26,(.dat 3 (.int x4)))],[],0⟩
noncomputable def s1_5 (x0:ByteArray) (x1 x2 x3 x4:Int) (x5:Bool):St:=⟨tsOf [(0,(.dat 9 (.str x0))),(4,(.dat 3 (.int x1))),(5,(.dat 3 (.int x2))),(25,(.dat 3 (.int x3))),(26,(.dat 3 (.int x4))),(38,(.dat 4 (.bool x5)))],[],0⟩
noncomputable def s1_8 (x0:Int):St:=⟨tsOf [(4,(.dat 3 (.int x0)))],[],0⟩
noncomputable def s1_1 (x0:ByteArray):St:=⟨tsOf [(0,(.dat 9 (.str x0)))],[],0⟩
noncomputable def s1_0 (x0:ByteArray) (x1:Bool):St:=⟨tsOf [(0,(.dat 9 (.str x0))),(23,(.dat 4 (.bool x1)))],[],0⟩
abbrev H1_3 (m M3:Nat) (rec3:ByteArray→Int→Int→Int→Option (Int×Bool)):Prop:=∀x0 x1 x2 x3,l1 jn m w1_0 [] M3 (s1_7 x0 x1 x2 x3)=rec3 x0 x1 x2 x3
theorem path_Number_j7_eq m M3 rec3 (h3:H1_3 m M3 rec3) x0 x1 x2 x3:e1 jn m w1_1 [M3] (s1_7 x0 x1 x2 x3)=path_Number_j7 m rec3 x0 x1 x2 x3:=
 tre (g:=fun J=>(jj J 1 5 M3 (s1_7 x0 x1 x2 (IntKind.wrap .i64 (x3+1))) (l1 J m w1_0 [] M3))) (fun J=>by kernel_rfl) (by simp only[jj_eq,h3];rfl)
theorem path_Number_j6_eq m M3 rec3 (h3:H1_3 m M3 rec3) x0 x1 x2 x3 x4:e1 jn m w1_2 [M3] (s1_6 x0 x1 x2 x3 x4)=path_Number_j6 m rec3 x0 x1 x2 x3 x4:=
 tre (g:=fun J=>((idxS x0 x2).bind fun v1=>
  (jj J 0 10 0 (s1_7 x0 (IntKind.wrap .i64 ((IntKind.wrap .i64 (10*x1))+(IntKind.wrap .i64 (IntKind.wrap IntKind.u8 (v1-48))))) x3 x4) (e1 J m w1_1 [M3])))) (fun J=>by kernel_rfl) (by simp only[jj_eq,path_Number_j7_eq m M3 rec3 h3];rfl)
theorem path_Number_j5_eq m M3 rec3 (h3:H1_3 m M3 rec3) x0 x1 x2 x3 x4 x5:e1 jn m w1_3 [M3] (s1_5 x0 x1 x2 x3 x4 x5)=path_Number_j5 m rec3 x0 x1 x2 x3 x4 x5:=
 tre (g:=fun J=>(bif x5 then
  some (0,false)
   else
  (jj J 0 9 0 (s1_6 x0 x1 x2 x3 x4) (e1 J m w1_2 [M3])))) (fun J=>by kernel_rfl) (by simp only[jj_eq,path_Number_j6_eq m M3 rec3 h3];rfl)
theorem path_Number_j4_eq m M3 rec3 (h3:H1_3 m M3 rec3) x0 x1 x2 x3:e1 jn m w1_4 [M3] (s1_7 x0 x1 x2 x3)=path_Number_j4 m rec3 x0 x1 x2 x3:=
 tre (g:=fun J=>((idxS x0 x3).bind fun v0=>
  (bif (decide (v0<48)) then
  (jj J 0 8 0 (s1_5 x0 x1 x3 x2 x3 true) (e1 J m w1_3 [M3]))
  else
  ((idxS x0 x3).bind fun v2=>
  (jj J 0 8 0 (s1_5 x0 x1 x3 x2 x3 (decide (57<v2))) (e1 J m w1_3 [M3])))))) (fun J=>by kernel_rfl) (by simp only[jj_eq,path_Number_j5_eq m M3 rec3 h3];rfl)
theorem path_Number_j8_eq m x0:e1 jn m [1,1,1,1] [] (s1_8 x0)=path_Number_j8 m x0:=
 tre (g:=fun J=>some (x0,true)) (fun J=>by kernel_rfl) (by rfl)
theorem path_Number_l3_eq m:∀M3 x0 x1 x2 x3,l1 jn m w1_0 [] M3 (s1_7 x0 x1 x2 x3)=path_Number_l3 m M3 x0 x1 x2 x3
 |0,_,_,_,_=>rfl
 | M3+1,x0,x1,x2,x3=>
   trl (g:=fun J=>(bif (decide (x3<x2)) then
  (jj J 0 6 0 (s1_7 x0 x1 x2 x3) (e1 J m w1_4 [M3]))
   else
  (jj J 0 11 0 (s1_8 x1) (e1 J m [1,1,1,1] [])))) (fun J=>by kernel_rfl) (by simp only[jj_eq,path_Number_j4_eq m M3 (path_Number_l3 m M3) (path_Number_l3_eq m M3),path_Number_j8_eq m];rfl)
theorem path_Number_j2_eq m x0 x1 x2 x3:e1 jn m w1_5 [] (s1_7 x0 x1 x2 x3)=path_Number_j2 m x0 x1 x2 x3:=
 tre (g:=fun J=>(jj J 1 5 (Nat.succ m) (s1_7 x0 x1 x2 x3) (l1 J m w1_0 [] (Nat.succ m)))) (fun J=>by kernel_rfl) (by simp only[jj_eq,path_Number_l3_eq m];rfl)
theorem path_Number_j1_eq m x0:e1 jn m [1,1] [] (s1_1 x0)=path_Number_j1 m x0:=
 tre (g:=fun J=>(jj J 0 5 0 (s1_7 x0 0 (ByteArray.size x0:Int) 0) (e1 J m w1_5 []))) (fun J=>by kernel_rfl) (by simp only[jj_eq,path_Number_j2_eq m];rfl)
theorem path_Number_j0_eq m x0 x1:e1 jn m [1,0,1] [] (s1_0 x0 x1)=path_Number_j0 m x0 x1:=
 tre (g:=fun J=>(bif x1 then
  some (0,false)
   else
  (jj J 0 3 0 (s1_1 x0) (e1 J m [1,1] [])))) (fun J=>by kernel_rfl) (by simp only[jj_eq,path_Number_j1_eq m];rfl)
theorem path_Number_eq m a0:e1 jn m [] [] ⟨[(.dat 9 (.str a0))],[],0⟩=path_Number (m+1) a0:=
 tre (g:=fun J=>(bif (decide ((ByteArray.size a0:Int)<1)) then
  (jj J 0 2 0 (s1_0 a0 true) (e1 J m [1,0,1] []))
   else
  (bif (decide (4<(ByteArray.size a0:Int))) then
  (jj J 0 2 0 (s1_0 a0 true) (e1 J m [1,0,1] []))
  else
  ((idxS a0 0).bind fun v3=>
  (bif (v3==48) then
  (jj J 0 2 0 (s1_0 a0 (decide (1<(ByteArray.size a0:Int)))) (e1 J m [1,0,1] []))
  else
  (jj J 0 2 0 (s1_0 a0 false) (e1 J m [1,0,1] []))))))) (fun J=>by kernel_rfl) (by simp only[jj_eq,path_Number_j0_eq m];rfl)
def w2_1:List Nat:=[1,0,1,0,0,1,1]
def w2_0:List Nat:=w2_1++[1]
noncomputable def e2 (J:Nat→Nat→Nat→St→Option Int→Option Int) (m:Nat) (p ms:List Nat) (σ:St):=evAt Tryz.prog env (ct m) J (m+1) 138 20 Tryz.f138 d2 p ms σ
noncomputable def l2 (J:Nat→Nat→Nat→St→Option Int→Option Int) (m:Nat) (p ms:List Nat) (M:Nat) (σ:St):=loopAt Tryz.prog env (ct m) J (m+1) 138 20 Tryz.f138 d2 p ms M σ
noncomputable def s2_3 (x0:List Dt) (x1:ByteArray) (x2 x3:Int):St:=⟨tsOf [(0,(.dat 31 (.lst x0))),(1,(.dat 9 (.str x1))),(7,(.dat 3 (.int x2))),(8,(.dat 3 (.int x3)))],[],0⟩
noncomputable def s2_4:St:=⟨tsOf [],[],0⟩
abbrev H2_1 (m M1:Nat) (rec1:List Dt→ByteArray→Int→Int→Option Int):Prop:=∀x0 x1 x2 x3,l2 jn m [1,0,1,0] [] M1 (s2_3 x0 x1 x2 x3)=rec1 x0 x1 x2 x3
theorem path_field_j3_eq m M1 rec1 (h1:H2_1 m M1 rec1) x0 x1 x2 x3:e2 jn m w2_0 [M1] (s2_3 x0 x1 x2 x3)=path_field_j3 m rec1 x0 x1 x2 x3:=
 tre (g:=fun J=>(jj J 1 2 M1 (s2_3 x0 x1 x2 (IntKind.wrap .i64 (x3+1))) (l2 J m [1,0,1,0] [] M1))) (fun J=>by kernel_rfl) (by simp only[jj_eq,h1];rfl)
theorem path_field_j2_eq m M1 rec1 (h1:H2_1 m M1 rec1) x0 x1 x2 x3:e2 jn m w2_1 [M1] (s2_3 x0 x1 x2 x3)=path_field_j2 m rec1 x0 x1 x2 x3:=
 tre (g:=fun J=>((idx x0 x3).bind fun v0=>
  (bif ((ByteArray.toList (Dt.S v0 0))==(ByteArray.toList x1)) then
  some x3
  else
  (jj J 0 6 0 (s2_3 x0 x1 x2 x3) (e2 J m w2_0 [M1]))))) (fun J=>by kernel_rfl) (by simp only[jj_eq,path_field_j3_eq m M1 rec1 h1];rfl)
theorem path_field_j4_eq m:e2 jn m [1,1] [] s2_4=path_field_j4 m:=
 tre (g:=fun J=>some (-1)) (fun J=>by kernel_rfl) (by rfl)
theorem path_field_l1_eq m:∀M1 x0 x1 x2 x3,l2 jn m [1,0,1,0] [] M1 (s2_3 x0 x1 x2 x3)=path_field_l1 m M1 x0 x1 x2 x3
 |0,_,_,_,_=>rfl
 | M1+1,x0,x1,x2,x3=>
   trl (g:=fun J=>(bif (decide (x3<x2)) then
  (jj J 0 3 0 (s2_3 x0 x1 x2 x3) (e2 J m w2_1 [M1]))
   else
  (jj J 0 7 0 s2_4 (e2 J m [1,1] [])))) (fun J=>by kernel_rfl) (by simp only[jj_eq,path_field_j2_eq m M1 (path_field_l1 m M1) (path_field_l1_eq m M1),path_field_j4_eq m];rfl)
theorem path_field_j0_eq m x0 x1 x2 x3:e2 jn m [1,0,1] [] (s2_3 x0 x1 x2 x3)=path_field_j0 m x0 x1 x2 x3:=
 tre (g:=fun J=>(jj J 1 2 (Nat.succ m) (s2_3 x0 x1 x2 x3) (l2 J m [1,0,1,0] [] (Nat.succ m)))) (fun J=>by kernel_rfl) (by simp only[jj_eq,path_field_l1_eq m];rfl)
theorem path_field_eq m a0 a1:e2 jn m [] [] ⟨[(.dat 31 (.lst a0)),(.dat 9 (.str a1))],[],0⟩=path_field (m+1) a0 a1:=
 tre (g:=fun J=>(jj J 0 2 0 (s2_3 a0 a1 (List.length a0:Int) 0) (e2 J m [1,0,1] []))) (fun J=>by kernel_rfl) (by simp only[jj_eq,path_field_j0_eq m];rfl)
def w5_0:List Nat:=[1,1,0,1,0]
def w5_3:List Nat:=[1,1,0,1,0,0,1,1]
def w5_1:List Nat:=w5_3++[1]
def w5_2:List Nat:=w5_3++[0,0,1,1]
noncomputable def e5 (J:Nat→Nat→Nat→St→Option Bool→Option Bool) (m:Nat) (p ms:List Nat) (σ:St):=evAt Tryz.prog env (ct m) J (m+1) 182 39 Tryz.f182 d5 p ms σ
noncomputable def l5 (J:Nat→Nat→Nat→St→Option Bool→Option Bool) (m:Nat) (p ms:List Nat) (M:Nat) (σ:St):=loopAt Tryz.prog env (ct m) J (m+1) 182 39 Tryz.f182 d5 p ms M σ
noncomputable def s5_6 (x0:ByteArray) (x1 x2:Int):St:=⟨tsOf [(0,(.dat 9 (.str x0))),(18,(.dat 3 (.int x1))),(19,(.dat 3 (.int x2)))],[],0⟩
noncomputable def s5_5 (x0:ByteArray) (x1 x2:Int) (x3:Bool):St:=⟨tsOf [(0,(.dat 9 (.str x0))),(18,(.dat 3 (.int x1))),(19,(.dat 3 (.int x2))),(37,(.dat 4 (.bool x3)))],[],0⟩
noncomputable def s5_7:St:=⟨tsOf [],[],0⟩
noncomputable def s5_1 (x0:ByteArray):St:=⟨tsOf [(0,(.dat 9 (.str x0)))],[],0⟩
noncomputable def s5_0 (x0:ByteArray) (x1:Bool):St:=⟨tsOf [(0,(.dat 9 (.str x0))),(16,(.dat 4 (.bool x1)))],[],0⟩
abbrev H5_3 (m M3:Nat) (rec3:ByteArray→Int→Int→Option Bool):Prop:=∀x0 x1 x2,l5 jn m w5_0 [] M3 (s5_6 x0 x1 x2)=rec3 x0 x1 x2
theorem path_notName_j6_eq m M3 rec3 (h3:H5_3 m M3 rec3) x0 x1 x2:e5 jn m w5_1 [M3] (s5_6 x0 x1 x2)=path_notName_j6 m rec3 x0 x1 x2:=
 tre (g:=fun J=>(jj J 1 4 M3 (s5_6 x0 x1 (IntKind.wrap .i64 (x2+1))) (l5 J m w5_0 [] M3))) (fun J=>by kernel_rfl) (by simp only[jj_eq,h3];rfl)
theorem path_notName_j5_eq m M3 rec3 (h3:H5_3 m M3 rec3) x0 x1 x2 x3:e5 jn m w5_2 [M3] (s5_5 x0 x1 x2 x3)=path_notName_j5 m rec3 x0 x1 x2 x3:=
 tre (g:=fun J=>(bif x3 then
  some true
   else
  (jj J 0 8 0 (s5_6 x0 x1 x2) (e5 J m w5_1 [M3])))) (fun J=>by kernel_rfl) (by simp only[jj_eq,path_notName_j6_eq m M3 rec3 h3];rfl)
theorem path_notName_j4_eq m M3 rec3 (h3:H5_3 m M3 rec3) x0 x1 x2:e5 jn m w5_3 [M3] (s5_6 x0 x1 x2)=path_notName_j4 m rec3 x0 x1 x2:=
 tre (g:=fun J=>((idxS x0 x2).bind fun v0=>
  (bif (decide (v0<33)) then
  (jj J 0 7 0 (s5_5 x0 x1 x2 true) (e5 J m w5_2 [M3]))
  else
  ((idxS x0 x2).bind fun v1=>
  (bif (decide (126<v1)) then
  (jj J 0 7 0 (s5_5 x0 x1 x2 true) (e5 J m w5_2 [M3]))
  else
  ((idxS x0 x2).bind fun v2=>
  (jj J 0 7 0 (s5_5 x0 x1 x2 (v2==46)) (e5 J m w5_2 [M3])))))))) (fun J=>by kernel_rfl) (by simp only[jj_eq,path_notName_j5_eq m M3 rec3 h3];rfl)
theorem path_notName_j7_eq m:e5 jn m [1,1,1] [] s5_7=path_notName_j7 m:=
 tre (g:=fun J=>some false) (fun J=>by kernel_rfl) (by rfl)
theorem path_notName_l3_eq m:∀M3 x0 x1 x2,l5 jn m w5_0 [] M3 (s5_6 x0 x1 x2)=path_notName_l3 m M3 x0 x1 x2
 |0,_,_,_=>rfl
 | M3+1,x0,x1,x2=>
   trl (g:=fun J=>(bif (decide (x2<x1)) then
  (jj J 0 5 0 (s5_6 x0 x1 x2) (e5 J m w5_3 [M3]))
   else
  (jj J 0 9 0 s5_7 (e5 J m [1,1,1] [])))) (fun J=>by kernel_rfl) (by simp only[jj_eq,path_notName_j4_eq m M3 (path_notName_l3 m M3) (path_notName_l3_eq m M3),path_notName_j7_eq m];rfl)
theorem path_notName_j2_eq m x0 x1 x2:e5 jn m [1,1,0,1] [] (s5_6 x0 x1 x2)=path_notName_j2 m x0 x1 x2:=
 tre (g:=fun J=>(jj J 1 4 (Nat.succ m) (s5_6 x0 x1 x2) (l5 J m w5_0 [] (Nat.succ m)))) (fun J=>by kernel_rfl) (by simp only[jj_eq,path_notName_l3_eq m];rfl)
theorem path_notName_j1_eq m x0:e5 jn m [1,1] [] (s5_1 x0)=path_notName_j1 m x0:=
 tre (g:=fun J=>(jj J 0 4 0 (s5_6 x0 (ByteArray.size x0:Int) 0) (e5 J m [1,1,0,1] []))) (fun J=>by kernel_rfl) (by simp only[jj_eq,path_notName_j2_eq m];rfl)
theorem path_notName_j0_eq m x0 x1:e5 jn m [1,0,1] [] (s5_0 x0 x1)=path_notName_j0 m x0 x1:=
 tre (g:=fun J=>(bif x1 then
  some true
   else
  (jj J 0 3 0 (s5_1 x0) (e5 J m [1,1] [])))) (fun J=>by kernel_rfl) (by simp only[jj_eq,path_notName_j1_eq m];rfl)
theorem path_notName_eq m a0:e5 jn m [] [] ⟨[(.dat 9 (.str a0))],[],0⟩=path_notName (m+1) a0:=
 tre (g:=fun J=>(bif (decide ((ByteArray.size a0:Int)<1)) then
  (jj J 0 2 0 (s5_0 a0 true) (e5 J m [1,0,1] []))
   else
  (bif (decide (32<(ByteArray.size a0:Int))) then
  (jj J 0 2 0 (s5_0 a0 true) (e5 J m [1,0,1] []))
  else
  ((idxS a0 0).bind fun v3=>
  (jj J 0 2 0 (s5_0 a0 (v3==36)) (e5 J m [1,0,1] [])))))) (fun J=>by kernel_rfl) (by simp only[jj_eq,path_notName_j0_eq m];rfl)
def w4_1:List Nat:=[1,0,1,0,0,1,1]
def w4_0:List Nat:=w4_1++[1]
noncomputable def e4 (J:Nat→Nat→Nat→St→Option Int→Option Int) (m:Nat) (p ms:List Nat) (σ:St):=evAt Tryz.prog env (ct m) J (m+1) 228 19 Tryz.f228 d2 p ms σ
noncomputable def l4 (J:Nat→Nat→Nat→St→Option Int→Option Int) (m:Nat) (p ms:List Nat) (M:Nat) (σ:St):=loopAt Tryz.prog env (ct m) J (m+1) 228 19 Tryz.f228 d2 p ms M σ
noncomputable def s4_3 (x0:List Dt) (x1 x2:Int):St:=⟨tsOf [(0,(.dat 22 (.lst x0))),(1,(.fn 182 [])),(7,(.dat 3 (.int x1))),(8,(.dat 3 (.int x2)))],[],0⟩
noncomputable def s4_4:St:=⟨tsOf [],[],0⟩
abbrev H4_1 (m M1:Nat) (rec1:List Dt→Int→Int→Option Int):Prop:=∀x0 x1 x2,l4 jn m [1,0,1,0] [] M1 (s4_3 x0 x1 x2)=rec1 x0 x1 x2
theorem i4_j3_eq m M1 rec1 (h1:H4_1 m M1 rec1) x0 x1 x2:e4 jn m w4_0 [M1] (s4_3 x0 x1 x2)=i4_j3 m rec1 x0 x1 x2:=
 tre (g:=fun J=>(jj J 1 2 M1 (s4_3 x0 x1 (IntKind.wrap .i64 (x2+1))) (l4 J m [1,0,1,0] [] M1))) (fun J=>by kernel_rfl) (by simp only[jj_eq,h1];rfl)
theorem i4_j2_eq m M1 rec1 (h1:H4_1 m M1 rec1) x0 x1 x2:e4 jn m w4_1 [M1] (s4_3 x0 x1 x2)=i4_j2 m rec1 x0 x1 x2:=
 tre (g:=fun J=>((idx x0 x2).bind fun v0=>
  ((path_notName m (Dt.toStr v0)).bind fun r1=>
  (bif r1 then
  some x2
  else
  (jj J 0 6 0 (s4_3 x0 x1 x2) (e4 J m w4_0 [M1])))))) (fun J=>by kernel_rfl) (by simp only[jj_eq,i4_j3_eq m M1 rec1 h1];rfl)
theorem i4_j4_eq m:e4 jn m [1,1] [] s4_4=i4_j4 m:=
 tre (g:=fun J=>some (-1)) (fun J=>by kernel_rfl) (by rfl)
theorem i4_l1_eq m:∀M1 x0 x1 x2,l4 jn m [1,0,1,0] [] M1 (s4_3 x0 x1 x2)=i4_l1 m M1 x0 x1 x2
 |0,_,_,_=>rfl
 | M1+1,x0,x1,x2=>
   trl (g:=fun J=>(bif (decide (x2<x1)) then
  (jj J 0 3 0 (s4_3 x0 x1 x2) (e4 J m w4_1 [M1]))
   else
  (jj J 0 7 0 s4_4 (e4 J m [1,1] [])))) (fun J=>by kernel_rfl) (by simp only[jj_eq,i4_j2_eq m M1 (i4_l1 m M1) (i4_l1_eq m M1),i4_j4_eq m];rfl)
theorem i4_j0_eq m x0 x1 x2:e4 jn m [1,0,1] [] (s4_3 x0 x1 x2)=i4_j0 m x0 x1 x2:=
 tre (g:=fun J=>(jj J 1 2 (Nat.succ m) (s4_3 x0 x1 x2) (l4 J m [1,0,1,0] [] (Nat.succ m)))) (fun J=>by kernel_rfl) (by simp only[jj_eq,i4_l1_eq m];rfl)
theorem i4_eq m a0:e4 jn m [] [] ⟨[(.dat 22 (.lst a0)),(.fn 182 [])],[],0⟩=i4 (m+1) a0:=
 tre (g:=fun J=>(jj J 0 2 0 (s4_3 a0 (List.length a0:Int) 0) (e4 J m [1,0,1] []))) (fun J=>by kernel_rfl) (by simp only[jj_eq,i4_j0_eq m];rfl)
noncomputable def e3 (J:Nat→Nat→Nat→St→Option Bool→Option Bool) (m:Nat) (p ms:List Nat) (σ:St):=evAt Tryz.prog env (ct m) J (m+1) 181 9 Tryz.f181 d5 p ms σ
noncomputable def l3 (J:Nat→Nat→Nat→St→Option Bool→Option Bool) (m:Nat) (p ms:List Nat) (M:Nat) (σ:St):=loopAt Tryz.prog env (ct m) J (m+1) 181 9 Tryz.f181 d5 p ms M σ
theorem i3_eq m a0:e3 jn m [] [] ⟨[(.dat 22 (.lst a0)),(.fn 182 [])],[],0⟩=i3 (m+1) a0:=
 tre (g:=fun J=>((i4 m a0).bind fun r0=>
  some (decide (0≤r0)))) (fun J=>by kernel_rfl) (by rfl)
noncomputable def e0 (J:Nat→Nat→Nat→St→Option Bool→Option Bool) (m:Nat) (p ms:List Nat) (σ:St):=evAt Tryz.prog env (ct m) J (m+1) 141 16 Tryz.f141 d5 p ms σ
noncomputable def l0 (J:Nat→Nat→Nat→St→Option Bool→Option Bool) (m:Nat) (p ms:List Nat) (M:Nat) (σ:St):=loopAt Tryz.prog env (ct m) J (m+1) 141 16 Tryz.f141 d5 p ms M σ
theorem path_Valid_eq m a0:e0 jn m [] [] ⟨[(.dat 22 (.lst a0))],[],0⟩=path_Valid (m+1) a0:=
 tre (g:=fun J=>(bif (decide (1≤(List.length a0:Int))) then
  (bif (decide ((List.length a0:Int)≤16)) then
  ((i3 m a0).bind fun r0=>
  some (Bool.not r0))
  else
  some false)
   else
  some false)) (fun J=>by kernel_rfl) (by rfl)
end Go.Proofs.YtameompfdamfpaaGreatDoor.P1
