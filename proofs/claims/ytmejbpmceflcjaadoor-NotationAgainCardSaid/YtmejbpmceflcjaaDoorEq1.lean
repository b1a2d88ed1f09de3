/- Generated: each function's run in the abstract machine is its shallow function. -/
import Derived.Test.YtmejbpmceflcjaaDoorCt
import Derived.Test.YtmejbpmceflcjaaDoorAmEnv
import Derived.KernelRfl
set_option linter.unusedVariables false
set_option linter.unusedSimpArgs false
namespace Go.Proofs.YtmejbpmceflcjaaDoor
open Go.Am
set_option maxRecDepth 100000
def w68_0:List Nat:=[1,1,0,1,0]
def w68_3:List Nat:=[1,1,0,1,0,0,1]
def w68_1:List Nat:=w68_3++[1]
def w68_2:List Nat:=w68_3++[0,0,1]
noncomputable def e68 (J:Nat→Nat→Nat→St→Option Bool→Option Bool) (m:Nat) (p ms:List Nat) (σ:St):=evAt Tryd.prog env (ct m) J (m+1) 56 33 Tryd.f56 d3 p ms σ
noncomputable def l68 (J:Nat→Nat→Nat→St→Option Bool→Option Bool) (m:Nat) (p ms:List Nat) (M:Nat) (σ:St):=loopAt Tryd.prog env (ct m) J (m+1) 56 33 Tryd.f56 d3 p ms M σ
noncomputable def s68_5 (x0:ByteArray) (x1 x2 x3:Int):St:=⟨tsOf [(0,(.dat 9 (.str x0))),(1,(.dat 3 (.int x1))),(2,(.dat 3 (.int x2))),(7,(.dat 3 (.int x3)))],[],0⟩
noncomputable def s68_4 (x0:ByteArray) (x1 x2 x3:Int) (x4:Bool):St:=⟨tsOf [(0,(.dat 9 (.str x0))),(1,(.dat 3 (.int x1))),(2,(.dat 3 (.int x2))),(7,(.dat 3 (.int x3))),(32,(.dat 4 (.bool x4)))],[],0⟩
noncomputable def s68_6:St:=⟨tsOf [],[],0⟩
noncomputable def s68_0 (x0:ByteArray) (x1 x2:Int):St:=⟨tsOf [(0,(.dat 9 (.str x0))),(1,(.dat 3 (.int x1))),(2,(.dat 3 (.int x2)))],[],0⟩
abbrev H68_2 (m M2:Nat) (rec2:ByteArray→Int→Int→Int→Option Bool):Prop:=∀x0 x1 x2 x3,l68 jn m w68_0 [] M2 (s68_5 x0 x1 x2 x3)=rec2 x0 x1 x2 x3
theorem ref01_tail_j5_eq m M2 rec2 (h2:H68_2 m M2 rec2) x0 x1 x2 x3:e68 jn m w68_1 [M2] (s68_5 x0 x1 x2 x3)=ref01_tail_j5 m rec2 x0 x1 x2 x3:=
 tre (g:=fun J=>(jj J 1 4 M2 (s68_5 x0 x1 x2 (IntKind.wrap .i64 (x3+1))) (l68 J m w68_0 [] M2))) (fun J=>by kernel_rfl) (by simp only[jj_eq,h2];rfl)
theorem ref01_tail_j4_eq m M2 rec2 (h2:H68_2 m M2 rec2) x0 x1 x2 x3 x4:e68 jn m w68_2 [M2] (s68_4 x0 x1 x2 x3 x4)=ref01_tail_j4 m rec2 x0 x1 x2 x3 x4:=
 tre (g:=fun J=>(bif x4 then
  some false
   else
  (jj J 0 5 0 (s68_5 x0 x1 x2 x3) (e68 J m w68_1 [M2])))) (fun J=>by kernel_rfl) (by simp only[jj_eq,ref01_tail_j5_eq m M2 rec2 h2];rfl)
theorem ref01_tail_j3_eq m M2 rec2 (h2:H68_2 m M2 rec2) x0 x1 x2 x3:e68 jn m w68_3 [M2] (s68_5 x0 x1 x2 x3)=ref01_tail_j3 m rec2 x0 x1 x2 x3:=
 tre (g:=fun J=>((idxS x0 (IntKind.wrap .i64 (x1+x3))).bind fun v0=>
  (bif (decide (v0<128)) then
  (jj J 0 7 0 (s68_4 x0 x1 x2 x3 true) (e68 J m w68_2 [M2]))
  else
  ((idxS x0 (IntKind.wrap .i64 (x1+x3))).bind fun v1=>
  (jj J 0 7 0 (s68_4 x0 x1 x2 x3 (decide (191<v1))) (e68 J m w68_2 [M2])))))) (fun J=>by kernel_rfl) (by simp only[jj_eq,ref01_tail_j4_eq m M2 rec2 h2];rfl)
theorem ref01_tail_j6_eq m:e68 jn m [1,1,1] [] s68_6=ref01_tail_j6 m:=
 tre (g:=fun J=>some true) (fun J=>by kernel_rfl) (by rfl)
theorem ref01_tail_l2_eq m:∀M2 x0 x1 x2 x3,l68 jn m w68_0 [] M2 (s68_5 x0 x1 x2 x3)=ref01_tail_l2 m M2 x0 x1 x2 x3
 |0,_,_,_,_=>rfl
 | M2+1,x0,x1,x2,x3=>
   trl (g:=fun J=>(bif (decide (x3<x2)) then
  (jj J 0 6 0 (s68_5 x0 x1 x2 x3) (e68 J m w68_3 [M2]))
   else
  (jj J 0 8 0 s68_6 (e68 J m [1,1,1] [])))) (fun J=>by kernel_rfl) (by simp only[jj_eq,ref01_tail_j3_eq m M2 (ref01_tail_l2 m M2) (ref01_tail_l2_eq m M2),ref01_tail_j6_eq m];rfl)
theorem ref01_tail_j1_eq m x0 x1 x2 x3:e68 jn m [1,1,0,1] [] (s68_5 x0 x1 x2 x3)=ref01_tail_j1 m x0 x1 x2 x3:=
 tre (g:=fun J=>(jj J 1 4 (Nat.succ m) (s68_5 x0 x1 x2 x3) (l68 J m w68_0 [] (Nat.succ m)))) (fun J=>by kernel_rfl) (by simp only[jj_eq,ref01_tail_l2_eq m];rfl)
theorem ref01_tail_j0_eq m x0 x1 x2:e68 jn m [1,1] [] (s68_0 x0 x1 x2)=ref01_tail_j0 m x0 x1 x2:=
 tre (g:=fun J=>(jj J 0 4 0 (s68_5 x0 x1 x2 0) (e68 J m [1,1,0,1] []))) (fun J=>by kernel_rfl) (by simp only[jj_eq,ref01_tail_j1_eq m];rfl)
theorem ref01_tail_eq m a0 a1 a2:e68 jn m [] [] ⟨[(.dat 9 (.str a0)),(.dat 3 (.int a1)),(.dat 3 (.int a2))],[],0⟩=ref01_tail (m+1) a0 a1 a2:=
 tre (g:=fun J=>(bif (decide ((ByteArray.size a0:Int)<(IntKind.wrap .i64 (a1+a2)))) then
  some false
   else
  (jj J 0 3 0 (s68_0 a0 a1 a2) (e68 J m [1,1] [])))) (fun J=>by kernel_rfl) (by simp only[jj_eq,ref01_tail_j0_eq m];rfl)
def w65_7:List Nat:=[1,0,1,0,0,1]
def w65_3:List Nat:=w65_7++[0,1,1,1]
def w65_2:List Nat:=w65_3++[1]
def w65_0:List Nat:=w65_2++[1]
def w65_1:List Nat:=w65_2++[0,1]
def w65_6:List Nat:=w65_7++[0,1,1,0,0,1,1,1]
def w65_5:List Nat:=w65_6++[1,1]
def w65_4:List Nat:=w65_5++[1,1]
noncomputable def e65 (J:Nat→Nat→Nat→St→Option Bool→Option Bool) (m:Nat) (p ms:List Nat) (σ:St):=evAt Tryd.prog env (ct m) J (m+1) 37 89 Tryd.f37 d3 p ms σ
noncomputable def l65 (J:Nat→Nat→Nat→St→Option Bool→Option Bool) (m:Nat) (p ms:List Nat) (M:Nat) (σ:St):=loopAt Tryd.prog env (ct m) J (m+1) 37 89 Tryd.f37 d3 p ms M σ
noncomputable def s65_6 (x0:ByteArray) (x1 x2:Int):St:=⟨tsOf [(0,(.dat 9 (.str x0))),(3,(.dat 3 (.int x1))),(5,(.dat 3 (.int x2)))],[],0⟩
noncomputable def s65_5 (x0:ByteArray) (x1 x2:Int) (x3:Bool):St:=⟨tsOf [(0,(.dat 9 (.str x0))),(3,(.dat 3 (.int x1))),(5,(.dat 3 (.int x2))),(84,(.dat 4 (.bool x3)))],[],0⟩
noncomputable def s65_4 (x0:ByteArray) (x1 x2 x3:Int):St:=⟨tsOf [(0,(.dat 9 (.str x0))),(3,(.dat 3 (.int x1))),(4,(.dat 5 (.int x2))),(5,(.dat 3 (.int x3)))],[],0⟩
noncomputable def s65_9 (x0:ByteArray) (x1 x2:Int) (x3:Bool):St:=⟨tsOf [(0,(.dat 9 (.str x0))),(3,(.dat 3 (.int x1))),(4,(.dat 5 (.int x2))),(30,(.dat 4 (.bool x3)))],[],0⟩
noncomputable def s65_8 (x0:ByteArray) (x1 x2:Int) (x3:Bool):St:=⟨tsOf [(0,(.dat 9 (.str x0))),(3,(.dat 3 (.int x1))),(4,(.dat 5 (.int x2))),(23,(.dat 4 (.bool x3)))],[],0⟩
noncomputable def s65_7 (x0:ByteArray) (x1 x2:Int) (x3:Bool):St:=⟨tsOf [(0,(.dat 9 (.str x0))),(3,(.dat 3 (.int x1))),(4,(.dat 5 (.int x2))),(16,(.dat 4 (.bool x3)))],[],0⟩
noncomputable def s65_2 (x0:ByteArray) (x1:Int):St:=⟨tsOf [(0,(.dat 9 (.str x0))),(3,(.dat 3 (.int x1)))],[],0⟩
noncomputable def s65_10:St:=⟨tsOf [],[],0⟩
abbrev H65_1 (m M1:Nat) (rec1:ByteArray→Int→Option Bool):Prop:=∀x0 x1,l65 jn m [1,0,1,0] [] M1 (s65_2 x0 x1)=rec1 x0 x1
theorem ref01_UTF8_j6_eq m M1 rec1 (h1:H65_1 m M1 rec1) x0 x1 x2:e65 jn m w65_0 [M1] (s65_6 x0 x1 x2)=ref01_UTF8_j6 m rec1 x0 x1 x2:=
 tre (g:=fun J=>(jj J 1 2 M1 (s65_2 x0 (IntKind.wrap .i64 ((IntKind.wrap .i64 (x1+x2))+1))) (l65 J m [1,0,1,0] [] M1))) (fun J=>by kernel_rfl) (by simp only[jj_eq,h1];rfl)
theorem ref01_UTF8_j5_eq m M1 rec1 (h1:H65_1 m M1 rec1) x0 x1 x2 x3:e65 jn m w65_1 [M1] (s65_5 x0 x1 x2 x3)=ref01_UTF8_j5 m rec1 x0 x1 x2 x3:=
 tre (g:=fun J=>(bif x3 then
  some false
   else
  (jj J 0 17 0 (s65_6 x0 x1 x2) (e65 J m w65_0 [M1])))) (fun J=>by kernel_rfl) (by simp only[jj_eq,ref01_UTF8_j6_eq m M1 rec1 h1];rfl)
theorem ref01_UTF8_j4_eq m M1 rec1 (h1:H65_1 m M1 rec1) x0 x1 x2 x3:e65 jn m w65_2 [M1] (s65_4 x0 x1 x2 x3)=ref01_UTF8_j4 m rec1 x0 x1 x2 x3:=
 tre (g:=fun J=>(bif (x2==224) then
  ((idxS x0 (IntKind.wrap .i64 (x1+1))).bind fun v2=>
  (bif (decide (v2<160)) then
  (jj J 0 16 0 (s65_5 x0 x1 x3 true) (e65 J m w65_1 [M1]))
  else
  (bif (x2==237) then
  ((idxS x0 (IntKind.wrap .i64 (x1+1))).bind fun v3=>
  (bif (decide (159<v3)) then
  (jj J 0 16 0 (s65_5 x0 x1 x3 true) (e65 J m w65_1 [M1]))
  else
  (bif (x2==240) then
  ((idxS x0 (IntKind.wrap .i64 (x1+1))).bind fun v4=>
  (bif (decide (v4<144)) then
  (jj J 0 16 0 (s65_5 x0 x1 x3 true) (e65 J m w65_1 [M1]))
  else
  (bif (x2==244) then
  ((idxS x0 (IntKind.wrap .i64 (x1+1))).bind fun v5=>
  (jj J 0 16 0 (s65_5 x0 x1 x3 (decide (143<v5))) (e65 J m w65_1 [M1])))
  else
  (jj J 0 16 0 (s65_5 x0 x1 x3 false) (e65 J m w65_1 [M1])))))
  else
  (bif (x2==244) then
  ((idxS x0 (IntKind.wrap .i64 (x1+1))).bind fun v6=>
  (jj J 0 16 0 (s65_5 x0 x1 x3 (decide (143<v6))) (e65 J m w65_1 [M1])))
  else
  (jj J 0 16 0 (s65_5 x0 x1 x3 false) (e65 J m w65_1 [M1]))))))
  else
  (bif (x2==240) then
  ((idxS x0 (IntKind.wrap .i64 (x1+1))).bind fun v7=>
  (bif (decide (v7<144)) then
  (jj J 0 16 0 (s65_5 x0 x1 x3 true) (e65 J m w65_1 [M1]))
  else
  (bif (x2==244) then
  ((idxS x0 (IntKind.wrap .i64 (x1+1))).bind fun v8=>
  (jj J 0 16 0 (s65_5 x0 x1 x3 (decide (143<v8))) (e65 J m w65_1 [M1])))
  else
  (jj J 0 16 0 (s65_5 x0 x1 x3 false) (e65 J m w65_1 [M1])))))
  else
  (bif (x2==244) then
  ((idxS x0 (IntKind.wrap .i64 (x1+1))).bind fun v9=>
  (jj J 0 16 0 (s65_5 x0 x1 x3 (decide (143<v9))) (e65 J m w65_1 [M1])))
  else
  (jj J 0 16 0 (s65_5 x0 x1 x3 false) (e65 J m w65_1 [M1])))))))
   else
  (bif (x2==237) then
  ((idxS x0 (IntKind.wrap .i64 (x1+1))).bind fun v10=>
  (bif (decide (159<v10)) then
  (jj J 0 16 0 (s65_5 x0 x1 x3 true) (e65 J m w65_1 [M1]))
  else
  (bif (x2==240) then
  ((idxS x0 (IntKind.wrap .i64 (x1+1))).bind fun v11=>
  (bif (decide (v11<144)) then
  (jj J 0 16 0 (s65_5 x0 x1 x3 true) (e65 J m w65_1 [M1]))
  else
  (bif (x2==244) then
  ((idxS x0 (IntKind.wrap .i64 (x1+1))).bind fun v12=>
  (jj J 0 16 0 (s65_5 x0 x1 x3 (decide (143<v12))) (e65 J m w65_1 [M1])))
  else
  (jj J 0 16 0 (s65_5 x0 x1 x3 false) (e65 J m w65_1 [M1])))))
  else
  (bif (x2==244) then
  ((idxS x0 (IntKind.wrap .i64 (x1+1))).bind fun v13=>
  (jj J 0 16 0 (s65_5 x0 x1 x3 (decide (143<v13))) (e65 J m w65_1 [M1])))
  else
  (jj J 0 16 0 (s65_5 x0 x1 x3 false) (e65 J m w65_1 [M1]))))))
  else
  (bif (x2==240) then
  ((idxS x0 (IntKind.wrap .i64 (x1+1))).bind fun v14=>
  (bif (decide (v14<144)) then
  (jj J 0 16 0 (s65_5 x0 x1 x3 true) (e65 J m w65_1 [M1]))
  else
  (bif (x2==244) then
  ((idxS x0 (IntKind.wrap .i64 (x1+1))).bind fun v15=>
  (jj J 0 16 0 (s65_5 x0 x1 x3 (decide (143<v15))) (e65 J m w65_1 [M1])))
  else
  (jj J 0 16 0 (s65_5 x0 x1 x3 false) (e65 J m w65_1 [M1])))))
  else
  (bif (x2==244) then
  ((idxS x0 (IntKind.wrap .i64 (x1+1))).bind fun v16=>
  (jj J 0 16 0 (s65_5 x0 x1 x3 (decide (143<v16))) (e65 J m w65_1 [M1])))
  else
  (jj J 0 16 0 (s65_5 x0 x1 x3 false) (e65 J m w65_1 [M1]))))))) (fun J=>by kernel_rfl) (by simp only[jj_eq,ref01_UTF8_j5_eq m M1 rec1 h1];rfl)
theorem ref01_UTF8_j3_eq m M1 rec1 (h1:H65_1 m M1 rec1) x0 x1 x2 x3:e65 jn m w65_3 [M1] (s65_4 x0 x1 x2 x3)=ref01_UTF8_j3 m rec1 x0 x1 x2 x3:=
 tre (g:=fun J=>((ref01_tail m x0 (IntKind.wrap .i64 (x1+1)) x3).bind fun r1=>
  (bif (Bool.not r1) then
  some false
  else
  (jj J 0 15 0 (s65_4 x0 x1 x2 x3) (e65 J m w65_2 [M1]))))) (fun J=>by kernel_rfl) (by simp only[jj_eq,ref01_UTF8_j4_eq m M1 rec1 h1];rfl)
theorem ref01_UTF8_j9_eq m M1 rec1 (h1:H65_1 m M1 rec1) x0 x1 x2 x3:e65 jn m w65_4 [M1] (s65_9 x0 x1 x2 x3)=ref01_UTF8_j9 m rec1 x0 x1 x2 x3:=
 tre (g:=fun J=>(bif x3 then
  (jj J 0 13 0 (s65_4 x0 x1 x2 3) (e65 J m w65_3 [M1]))
   else
  some false)) (fun J=>by kernel_rfl) (by simp only[jj_eq,ref01_UTF8_j3_eq m M1 rec1 h1];rfl)
theorem ref01_UTF8_j8_eq m M1 rec1 (h1:H65_1 m M1 rec1) x0 x1 x2 x3:e65 jn m w65_5 [M1] (s65_8 x0 x1 x2 x3)=ref01_UTF8_j8 m rec1 x0 x1 x2 x3:=
 tre (g:=fun J=>(bif x3 then
  (jj J 0 13 0 (s65_4 x0 x1 x2 2) (e65 J m w65_3 [M1]))
   else
  (bif (decide (240≤x2)) then
  (jj J 0 12 0 (s65_9 x0 x1 x2 (decide (x2≤244))) (e65 J m w65_4 [M1]))
  else
  (jj J 0 12 0 (s65_9 x0 x1 x2 false) (e65 J m w65_4 [M1]))))) (fun J=>by kernel_rfl) (by simp only[jj_eq,ref01_UTF8_j3_eq m M1 rec1 h1,ref01_UTF8_j9_eq m M1 rec1 h1];rfl)
theorem ref01_UTF8_j7_eq m M1 rec1 (h1:H65_1 m M1 rec1) x0 x1 x2 x3:e65 jn m w65_6 [M1] (s65_7 x0 x1 x2 x3)=ref01_UTF8_j7 m rec1 x0 x1 x2 x3:=
 tre (g:=fun J=>(bif x3 then
  (jj J 0 13 0 (s65_4 x0 x1 x2 1) (e65 J m w65_3 [M1]))
   else
  (bif (decide (224≤x2)) then
  (jj J 0 10 0 (s65_8 x0 x1 x2 (decide (x2≤239))) (e65 J m w65_5 [M1]))
  else
  (jj J 0 10 0 (s65_8 x0 x1 x2 false) (e65 J m w65_5 [M1]))))) (fun J=>by kernel_rfl) (by simp only[jj_eq,ref01_UTF8_j3_eq m M1 rec1 h1,ref01_UTF8_j8_eq m M1 rec1 h1];rfl)
theorem ref01_UTF8_j2_eq m M1 rec1 (h1:H65_1 m M1 rec1) x0 x1:e65 jn m w65_7 [M1] (s65_2 x0 x1)=ref01_UTF8_j2 m rec1 x0 x1:=
 tre (g:=fun J=>((idxS x0 x1).bind fun v0=>
  (bif (decide (v0<128)) then
  (jj J 0 13 0 (s65_4 x0 x1 v0 0) (e65 J m w65_3 [M1]))
  else
  (bif (decide (194≤v0)) then
  (jj J 0 8 0 (s65_7 x0 x1 v0 (decide (v0≤223))) (e65 J m w65_6 [M1]))
  else
  (jj J 0 8 0 (s65_7 x0 x1 v0 false) (e65 J m w65_6 [M1])))))) (fun J=>by kernel_rfl) (by simp only[jj_eq,ref01_UTF8_j3_eq m M1 rec1 h1,ref01_UTF8_j7_eq m M1 rec1 h1];rfl)
theorem ref01_UTF8_j10_eq m:e65 jn m [1,1] [] s65_10=ref01_UTF8_j10 m:=
 tre (g:=fun J=>some true) (fun J=>by kernel_rfl) (by rfl)
theorem ref01_UTF8_l1_eq m:∀M1 x0 x1,l65 jn m [1,0,1,0] [] M1 (s65_2 x0 x1)=ref01_UTF8_l1 m M1 x0 x1
 |0,_,_=>rfl
 | M1+1,x0,x1=>
   trl (g:=fun J=>(bif (decide (x1<(ByteArray.size x0:Int))) then
  (jj J 0 3 0 (s65_2 x0 x1) (e65 J m w65_7 [M1]))
   else
  (jj J 0 18 0 s65_10 (e65 J m [1,1] [])))) (fun J=>by kernel_rfl) (by simp only[jj_eq,ref01_UTF8_j2_eq m M1 (ref01_UTF8_l1 m M1) (ref01_UTF8_l1_eq m M1),ref01_UTF8_j10_eq m];rfl)
theorem ref01_UTF8_j0_eq m x0 x1:e65 jn m [1,0,1] [] (s65_2 x0 x1)=ref01_UTF8_j0 m x0 x1:=
 tre (g:=fun J=>(jj J 1 2 (Nat.succ m) (s65_2 x0 x1) (l65 J m [1,0,1,0] [] (Nat.succ m)))) (fun J=>by kernel_rfl) (by simp only[jj_eq,ref01_UTF8_l1_eq m];rfl)
theorem ref01_UTF8_eq m a0:e65 jn m [] [] ⟨[(.dat 9 (.str a0))],[],0⟩=ref01_UTF8 (m+1) a0:=
 tre (g:=fun J=>(jj J 0 2 0 (s65_2 a0 0) (e65 J m [1,0,1] []))) (fun J=>by kernel_rfl) (by simp only[jj_eq,ref01_UTF8_j0_eq m];rfl)
def w69_0:List Nat:=[1,1,0,1,0]
def w69_3:List Nat:=[1,1,0,1,0,0,1]
def w69_1:List Nat:=w69_3++[1]
def w69_2:List Nat:=w69_3++[0,0,1]
noncomputable def e69 (J:Nat→Nat→Nat→St→Option Bool→Option Bool) (m:Nat) (p ms:List Nat) (σ:St):=evAt Tryd.prog env (ct m) J (m+1) 57 39 Tryd.f57 d3 p ms σ
noncomputable def l69 (J:Nat→Nat→Nat→St→Option Bool→Option Bool) (m:Nat) (p ms:List Nat) (M:Nat) (σ:St):=loopAt Tryd.prog env (ct m) J (m+1) 57 39 Tryd.f57 d3 p ms M σ
noncomputable def s69_6 (x0:ByteArray) (x1:Int):St:=⟨tsOf [(0,(.dat 9 (.str x0))),(3,(.dat 3 (.int x1)))],[],0⟩
noncomputable def s69_5 (x0:ByteArray) (x1:Int) (x2:Bool):St:=⟨tsOf [(0,(.dat 9 (.str x0))),(3,(.dat 3 (.int x1))),(38,(.dat 4 (.bool x2)))],[],0⟩
noncomputable def s69_7:St:=⟨tsOf [],[],0⟩
noncomputable def s69_1 (x0:ByteArray):St:=⟨tsOf [(0,(.dat 9 (.str x0)))],[],0⟩
noncomputable def s69_0 (x0:ByteArray) (x1:Bool):St:=⟨tsOf [(0,(.dat 9 (.str x0))),(16,(.dat 4 (.bool x1)))],[],0⟩
abbrev H69_3 (m M3:Nat) (rec3:ByteArray→Int→Option Bool):Prop:=∀x0 x1,l69 jn m w69_0 [] M3 (s69_6 x0 x1)=rec3 x0 x1
theorem ref01_Name_j6_eq m M3 rec3 (h3:H69_3 m M3 rec3) x0 x1:e69 jn m w69_1 [M3] (s69_6 x0 x1)=ref01_Name_j6 m rec3 x0 x1:=
 tre (g:=fun J=>(jj J 1 4 M3 (s69_6 x0 (IntKind.wrap .i64 (x1+1))) (l69 J m w69_0 [] M3))) (fun J=>by kernel_rfl) (by simp only[jj_eq,h3];rfl)
theorem ref01_Name_j5_eq m M3 rec3 (h3:H69_3 m M3 rec3) x0 x1 x2:e69 jn m w69_2 [M3] (s69_5 x0 x1 x2)=ref01_Name_j5 m rec3 x0 x1 x2:=
 tre (g:=fun J=>(bif x2 then
  some false
   else
  (jj J 0 5 0 (s69_6 x0 x1) (e69 J m w69_1 [M3])))) (fun J=>by kernel_rfl) (by simp only[jj_eq,ref01_Name_j6_eq m M3 rec3 h3];rfl)
theorem ref01_Name_j4_eq m M3 rec3 (h3:H69_3 m M3 rec3) x0 x1:e69 jn m w69_3 [M3] (s69_6 x0 x1)=ref01_Name_j4 m rec3 x0 x1:=
 tre (g:=fun J=>((idxS x0 x1).bind fun v0=>
  (bif (decide (v0<33)) then
  (jj J 0 7 0 (s69_5 x0 x1 true) (e69 J m w69_2 [M3]))
  else
  ((idxS x0 x1).bind fun v1=>
  (bif (decide (126<v1)) then
  (jj J 0 7 0 (s69_5 x0 x1 true) (e69 J m w69_2 [M3]))
  else
  ((idxS x0 x1).bind fun v2=>
  (jj J 0 7 0 (s69_5 x0 x1 (v2==46)) (e69 J m w69_2 [M3])))))))) (fun J=>by kernel_rfl) (by simp only[jj_eq,ref01_Name_j5_eq m M3 rec3 h3];rfl)
theorem ref01_Name_j7_eq m:e69 jn m [1,1,1] [] s69_7=ref01_Name_j7 m:=
 tre (g:=fun J=>some true) (fun J=>by kernel_rfl) (by rfl)
theorem ref01_Name_l3_eq m:∀M3 x0 x1,l69 jn m w69_0 [] M3 (s69_6 x0 x1)=ref01_Name_l3 m M3 x0 x1
 |0,_,_=>rfl
 | M3+1,x0,x1=>
   trl (g:=fun J=>(bif (decide (x1<(ByteArray.size x0:Int))) then
  (jj J 0 6 0 (s69_6 x0 x1) (e69 J m w69_3 [M3]))
   else
  (jj J 0 8 0 s69_7 (e69 J m [1,1,1] [])))) (fun J=>by kernel_rfl) (by simp only[jj_eq,ref01_Name_j4_eq m M3 (ref01_Name_l3 m M3) (ref01_Name_l3_eq m M3),ref01_Name_j7_eq m];rfl)
theorem ref01_Name_j2_eq m x0 x1:e69 jn m [1,1,0,1] [] (s69_6 x0 x1)=ref01_Name_j2 m x0 x1:=
 tre (g:=fun J=>(jj J 1 4 (Nat.succ m) (s69_6 x0 x1) (l69 J m w69_0 [] (Nat.succ m)))) (fun J=>by kernel_rfl) (by simp only[jj_eq,ref01_Name_l3_eq m];rfl)
theorem ref01_Name_j1_eq m x0:e69 jn m [1,1] [] (s69_1 x0)=ref01_Name_j1 m x0:=
 tre (g:=fun J=>(jj J 0 4 0 (s69_6 x0 0) (e69 J m [1,1,0,1] []))) (fun J=>by kernel_rfl) (by simp only[jj_eq,ref01_Name_j2_eq m];rfl)
theorem ref01_Name_j0_eq m x0 x1:e69 jn m [1,0,1] [] (s69_0 x0 x1)=ref01_Name_j0 m x0 x1:=
 tre (g:=fun J=>(bif x1 then
  some false
   else
  (jj J 0 3 0 (s69_1 x0) (e69 J m [1,1] [])))) (fun J=>by kernel_rfl) (by simp only[jj_eq,ref01_Name_j1_eq m];rfl)
theorem ref01_Name_eq m a0:e69 jn m [] [] ⟨[(.dat 9 (.str a0))],[],0⟩=ref01_Name (m+1) a0:=
 tre (g:=fun J=>(bif (decide ((ByteArray.size a0:Int)<1)) then
  (jj J 0 2 0 (s69_0 a0 true) (e69 J m [1,0,1] []))
   else
  (bif (decide (32<(ByteArray.size a0:Int))) then
  (jj J 0 2 0 (s69_0 a0 true) (e69 J m [1,0,1] []))
  else
  ((idxS a0 0).bind fun v3=>
  (jj J 0 2 0 (s69_0 a0 (v3==36)) (e69 J m [1,0,1] [])))))) (fun J=>by kernel_rfl) (by simp only[jj_eq,ref01_Name_j0_eq m];rfl)
def w70_0:List Nat:=[1,1,0,1,0]
def w70_3:List Nat:=[1,1,0,1,0,0,1]
def w70_1:List Nat:=w70_3++[1]
def w70_2:List Nat:=w70_3++[0,0,1]
noncomputable def e70 (J:Nat→Nat→Nat→St→Option Bool→Option Bool) (m:Nat) (p ms:List Nat) (σ:St):=evAt Tryd.prog env (ct m) J (m+1) 58 28 Tryd.f58 d3 p ms σ
noncomputable def l70 (J:Nat→Nat→Nat→St→Option Bool→Option Bool) (m:Nat) (p ms:List Nat) (M:Nat) (σ:St):=loopAt Tryd.prog env (ct m) J (m+1) 58 28 Tryd.f58 d3 p ms M σ
noncomputable def s70_6 (x0:ByteArray) (x1:Int):St:=⟨tsOf [(0,(.dat 9 (.str x0))),(3,(.dat 3 (.int x1)))],[],0⟩
noncomputable def s70_5 (x0:ByteArray) (x1:Int) (x2:Bool):St:=⟨tsOf [(0,(.dat 9 (.str x0))),(3,(.dat 3 (.int x1))),(27,(.dat 4 (.bool x2)))],[],0⟩
noncomputable def s70_7:St:=⟨tsOf [],[],0⟩
noncomputable def s70_1 (x0:ByteArray):St:=⟨tsOf [(0,(.dat 9 (.str x0)))],[],0⟩
noncomputable def s70_0 (x0:ByteArray) (x1:Bool):St:=⟨tsOf [(0,(.dat 9 (.str x0))),(11,(.dat 4 (.bool x1)))],[],0⟩
abbrev H70_3 (m M3:Nat) (rec3:ByteArray→Int→Option Bool):Prop:=∀x0 x1,l70 jn m w70_0 [] M3 (s70_6 x0 x1)=rec3 x0 x1
theorem ref01_wide_j6_eq m M3 rec3 (h3:H70_3 m M3 rec3) x0 x1:e70 jn m w70_1 [M3] (s70_6 x0 x1)=ref01_wide_j6 m rec3 x0 x1:=
 tre (g:=fun J=>(jj J 1 4 M3 (s70_6 x0 (IntKind.wrap .i64 (x1+1))) (l70 J m w70_0 [] M3))) (fun J=>by kernel_rfl) (by simp only[jj_eq,h3];rfl)
theorem ref01_wide_j5_eq m M3 rec3 (h3:H70_3 m M3 rec3) x0 x1 x2:e70 jn m w70_2 [M3] (s70_5 x0 x1 x2)=ref01_wide_j5 m rec3 x0 x1 x2:=
 tre (g:=fun J=>(bif x2 then
  some false
   else
  (jj J 0 5 0 (s70_6 x0 x1) (e70 J m w70_1 [M3])))) (fun J=>by kernel_rfl) (by simp only[jj_eq,ref01_wide_j6_eq m M3 rec3 h3];rfl)
theorem ref01_wide_j4_eq m M3 rec3 (h3:H70_3 m M3 rec3) x0 x1:e70 jn m w70_3 [M3] (s70_6 x0 x1)=ref01_wide_j4 m rec3 x0 x1:=
 tre (g:=fun J=>((idxS x0 x1).bind fun v0=>
  (bif (decide (v0<32)) then
  (jj J 0 7 0 (s70_5 x0 x1 true) (e70 J m w70_2 [M3]))
  else
  ((idxS x0 x1).bind fun v1=>
  (jj J 0 7 0 (s70_5 x0 x1 (decide (126<v1))) (e70 J m w70_2 [M3])))))) (fun J=>by kernel_rfl) (by simp only[jj_eq,ref01_wide_j5_eq m M3 rec3 h3];rfl)
theorem ref01_wide_j7_eq m:e70 jn m [1,1,1] [] s70_7=ref01_wide_j7 m:=
 tre (g:=fun J=>some true) (fun J=>by kernel_rfl) (by rfl)
theorem ref01_wide_l3_eq m:∀M3 x0 x1,l70 jn m w70_0 [] M3 (s70_6 x0 x1)=ref01_wide_l3 m M3 x0 x1
 |0,_,_=>rfl
 | M3+1,x0,x1=>
   trl (g:=fun J=>(bif (decide (x1<(ByteArray.size x0:Int))) then
  (jj J 0 6 0 (s70_6 x0 x1) (e70 J m w70_3 [M3]))
   else
  (jj J 0 8 0 s70_7 (e70 J m [1,1,1] [])))) (fun J=>by kernel_rfl) (by simp only[jj_eq,ref01_wide_j4_eq m M3 (ref01_wide_l3 m M3) (ref01_wide_l3_eq m M3),ref01_wide_j7_eq m];rfl)
theorem ref01_wide_j2_eq m x0 x1:e70 jn m [1,1,0,1] [] (s70_6 x0 x1)=ref01_wide_j2 m x0 x1:=
 tre (g:=fun J=>(jj J 1 4 (Nat.succ m) (s70_6 x0 x1) (l70 J m w70_0 [] (Nat.succ m)))) (fun J=>by kernel_rfl) (by simp only[jj_eq,ref01_wide_l3_eq m];rfl)
theorem ref01_wide_j1_eq m x0:e70 jn m [1,1] [] (s70_1 x0)=ref01_wide_j1 m x0:=
 tre (g:=fun J=>(jj J 0 4 0 (s70_6 x0 0) (e70 J m [1,1,0,1] []))) (fun J=>by kernel_rfl) (by simp only[jj_eq,ref01_wide_j2_eq m];rfl)
theorem ref01_wide_j0_eq m x0 x1:e70 jn m [1,0,1] [] (s70_0 x0 x1)=ref01_wide_j0 m x0 x1:=
 tre (g:=fun J=>(bif x1 then
  some false
   else
  (jj J 0 3 0 (s70_1 x0) (e70 J m [1,1] [])))) (fun J=>by kernel_rfl) (by simp only[jj_eq,ref01_wide_j1_eq m];rfl)
theorem ref01_wide_eq m a0:e70 jn m [] [] ⟨[(.dat 9 (.str a0))],[],0⟩=ref01_wide (m+1) a0:=
 tre (g:=fun J=>(bif (decide ((ByteArray.size a0:Int)<1)) then
  (jj J 0 2 0 (s70_0 a0 true) (e70 J m [1,0,1] []))
   else
  (jj J 0 2 0 (s70_0 a0 (decide (128<(ByteArray.size a0:Int)))) (e70 J m [1,0,1] [])))) (fun J=>by kernel_rfl) (by simp only[jj_eq,ref01_wide_j0_eq m];rfl)
def w59_6:List Nat:=[1,1,1,1,1]
def w59_5:List Nat:=[1,1,1,1,1,1]
def w59_7:List Nat:=[1,1,1,1,0,1]
def w59_3:List Nat:=w59_5++[1]
def w59_4:List Nat:=w59_5++[0,1]
def w59_0:List Nat:=w59_4++[0]
def w59_2:List Nat:=w59_0++[0,1]
def w59_1:List Nat:=w59_2++[1]
noncomputable def e59 (J:Nat→Nat→Nat→St→Option Bool→Option Bool) (m:Nat) (p ms:List Nat) (σ:St):=evAt Tryd.prog env (ct m) J (m+1) 22 138 Tryd.f22 d3 p ms σ
noncomputable def l59 (J:Nat→Nat→Nat→St→Option Bool→Option Bool) (m:Nat) (p ms:List Nat) (M:Nat) (σ:St):=loopAt Tryd.prog env (ct m) J (m+1) 22 138 Tryd.f22 d3 p ms M σ
noncomputable def s59_10 (x0:Bool) (x1:Int) (x2:Dt):St:=⟨tsOf [(1,(.dat 4 (.bool x0))),(2,(.ptr 0 [] 0)),(7,(.dat 3 (.int x1)))],[(.box 27 (.dat 27 x2))],0⟩
noncomputable def s59_11 (x0:Bool) (x1:Dt):St:=⟨tsOf [(1,(.dat 4 (.bool x0))),(2,(.ptr 0 [] 0))],[(.box 27 (.dat 27 x1))],0⟩
noncomputable def s59_4 (x0 x1:Bool) (x2:Dt):St:=⟨tsOf [(1,(.dat 4 (.bool x0))),(2,(.ptr 0 [] 0)),(79,(.dat 4 (.bool x1)))],[(.box 27 (.dat 27 x2))],0⟩
noncomputable def s59_3 (x0 x1 x2:Bool) (x3:Dt):St:=⟨tsOf [(1,(.dat 4 (.bool x0))),(2,(.ptr 0 [] 0)),(5,(.dat 4 (.bool x1))),(6,(.dat 4 (.bool x2)))],[(.box 27 (.dat 27 x3))],0⟩
noncomputable def s59_2 (x0 x1:Bool) (x2:Dt):St:=⟨tsOf [(1,(.dat 4 (.bool x0))),(2,(.ptr 0 [] 0)),(5,(.dat 4 (.bool x1)))],[(.box 27 (.dat 27 x2))],0⟩
noncomputable def s59_0 (x0 x1:Bool) (x2:Dt):St:=⟨tsOf [(1,(.dat 4 (.bool x0))),(2,(.ptr 0 [] 0)),(27,(.dat 4 (.bool x1)))],[(.box 27 (.dat 27 x2))],0⟩
abbrev H59_8 (m M8:Nat) (rec8:Bool→Int→Dt→Option Bool):Prop:=∀x0 x1 x2,l59 jn m w59_0 [] M8 (s59_10 x0 x1 x2)=rec8 x0 x1 x2
theorem ref01_formed_j10_eq m M8 rec8 (h8:H59_8 m M8 rec8) x0 x1 x2:e59 jn m w59_1 [M8] (s59_10 x0 x1 x2)=ref01_formed_j10 m (ref01_formed m) (ref01_fields m) rec8 x0 x1 x2:=
 tre (g:=fun J=>(jj J 1 19 M8 (s59_10 x0 (IntKind.wrap .i64 (x1+1)) x2) (l59 J m w59_0 [] M8))) (fun J=>by kernel_rfl) (by simp only[jj_eq,h8];rfl)
theorem ref01_formed_j9_eq m M8 rec8 (h8:H59_8 m M8 rec8) x0 x1 x2:e59 jn m w59_2 [M8] (s59_10 x0 x1 x2)=ref01_formed_j9 m (ref01_formed m) (ref01_fields m) rec8 x0 x1 x2:=
 tre (g:=fun J=>((idx (Dt.L x2 3) x1).bind fun v1=>
  ((ref01_formed m v1 x0).bind fun r2=>
  (bif (Bool.not r2) then
  some false
  else
  (jj J 0 20 0 (s59_10 x0 x1 x2) (e59 J m w59_1 [M8])))))) (fun J=>by kernel_rfl) (by simp only[jj_eq,ref01_formed_j10_eq m M8 rec8 h8];rfl)
theorem ref01_formed_j11_eq m x0 x1:e59 jn m w59_3 [] (s59_11 x0 x1)=ref01_formed_j11 m (ref01_formed m) (ref01_fields m) x0 x1:=
 tre (g:=fun J=>((ref01_fields m x1 x0).bind fun r3=>
  some r3)) (fun J=>by kernel_rfl) (by rfl)
theorem ref01_formed_l8_eq m:∀M8 x0 x1 x2,l59 jn m w59_0 [] M8 (s59_10 x0 x1 x2)=ref01_formed_l8 m (ref01_formed m) (ref01_fields m) M8 x0 x1 x2
 |0,_,_,_=>rfl
 | M8+1,x0,x1,x2=>
   trl (g:=fun J=>(bif (decide (x1<(List.length (Dt.L x2 3):Int))) then
  (jj J 0 21 0 (s59_10 x0 x1 x2) (e59 J m w59_2 [M8]))
   else
  (jj J 0 23 0 (s59_11 x0 x2) (e59 J m w59_3 [])))) (fun J=>by kernel_rfl) (by simp only[jj_eq,ref01_formed_j9_eq m M8 (ref01_formed_l8 m (ref01_formed m) (ref01_fields m) M8) (ref01_formed_l8_eq m M8),ref01_formed_j11_eq m];rfl)
theorem ref01_formed_j7_eq m x0 x1 x2:e59 jn m w59_4 [] (s59_10 x0 x1 x2)=ref01_formed_j7 m (ref01_formed m) (ref01_fields m) x0 x1 x2:=
 tre (g:=fun J=>(jj J 1 19 (Nat.succ m) (s59_10 x0 x1 x2) (l59 J m w59_0 [] (Nat.succ m)))) (fun J=>by kernel_rfl) (by simp only[jj_eq,ref01_formed_l8_eq m];rfl)
theorem ref01_formed_j6_eq m x0 x1:e59 jn m w59_5 [] (s59_11 x0 x1)=ref01_formed_j6 m (ref01_formed m) (ref01_fields m) x0 x1:=
 tre (g:=fun J=>(jj J 0 19 0 (s59_10 x0 0 x1) (e59 J m w59_4 []))) (fun J=>by kernel_rfl) (by simp only[jj_eq,ref01_formed_j7_eq m];rfl)
theorem ref01_formed_j5_eq m x0 x1:e59 jn m w59_6 [] (s59_11 x0 x1)=ref01_formed_j5 m (ref01_formed m) (ref01_fields m) x0 x1:=
 tre (g:=fun J=>(bif ((Dt.I x1 0)==9) then
  (bif ((Dt.I x1 1)==0) then
  some true
  else
  some ((Dt.I x1 1)==1))
   else
  (bif ((Dt.I x1 0)==10) then
  some (decide (0≤(Dt.I x1 1)))
  else
  (bif ((Dt.I x1 0)==4) then
  (bif (decide ((ByteArray.size (Dt.S x1 2):Int)≤4096)) then
  ((ref01_UTF8 m (Dt.S x1 2)).bind fun r0=>
  some r0)
  else
  some false)
  else
  (bif ((Dt.I x1 0)==7) then
  some (decide ((ByteArray.size (Dt.S x1 2):Int)≤4096))
  else
  (bif ((Dt.I x1 0)==8) then
  some ((ByteArray.size (Dt.S x1 2):Int)==12)
  else
  (jj J 0 18 0 (s59_11 x0 x1) (e59 J m w59_5 [])))))))) (fun J=>by kernel_rfl) (by simp only[jj_eq,ref01_formed_j6_eq m];rfl)
theorem ref01_formed_j4_eq m x0 x1 x2:e59 jn m w59_7 [] (s59_4 x0 x1 x2)=ref01_formed_j4 m (ref01_formed m) (ref01_fields m) x0 x1 x2:=
 tre (g:=fun J=>(bif x1 then
  some false
   else
  (jj J 0 7 0 (s59_11 x0 x2) (e59 J m w59_6 [])))) (fun J=>by kernel_rfl) (by simp only[jj_eq,ref01_formed_j5_eq m];rfl)
theorem ref01_formed_j3_eq m x0 x1 x2 x3:e59 jn m [1,1,1,1] [] (s59_3 x0 x1 x2 x3)=ref01_formed_j3 m (ref01_formed m) (ref01_fields m) x0 x1 x2 x3:=
 tre (g:=fun J=>(bif (Bool.not x1) then
  (bif (Bool.not ((ByteArray.toList (Dt.S x3 2))==[])) then
  (jj J 0 6 0 (s59_4 x0 true x3) (e59 J m w59_7 []))
  else
  (bif (Bool.not x2) then
  (bif ((Dt.I x3 1) !=0) then
  (jj J 0 6 0 (s59_4 x0 true x3) (e59 J m w59_7 []))
  else
  (bif (decide ((Dt.I x3 0)<1)) then
  (jj J 0 6 0 (s59_4 x0 true x3) (e59 J m w59_7 []))
  else
  (jj J 0 6 0 (s59_4 x0 (decide (11<(Dt.I x3 0))) x3) (e59 J m w59_7 []))))
  else
  (bif (decide ((Dt.I x3 0)<1)) then
  (jj J 0 6 0 (s59_4 x0 true x3) (e59 J m w59_7 []))
  else
  (jj J 0 6 0 (s59_4 x0 (decide (11<(Dt.I x3 0))) x3) (e59 J m w59_7 [])))))
   else
  (bif (Bool.not x2) then
  (bif ((Dt.I x3 1) !=0) then
  (jj J 0 6 0 (s59_4 x0 true x3) (e59 J m w59_7 []))
  else
  (bif (decide ((Dt.I x3 0)<1)) then
  (jj J 0 6 0 (s59_4 x0 true x3) (e59 J m w59_7 []))
  else
  (jj J 0 6 0 (s59_4 x0 (decide (11<(Dt.I x3 0))) x3) (e59 J m w59_7 []))))
  else
  (bif (decide ((Dt.I x3 0)<1)) then
  (jj J 0 6 0 (s59_4 x0 true x3) (e59 J m w59_7 []))
  else
  (jj J 0 6 0 (s59_4 x0 (decide (11<(Dt.I x3 0))) x3) (e59 J m w59_7 [])))))) (fun J=>by kernel_rfl) (by simp only[jj_eq,ref01_formed_j4_eq m];rfl)
theorem ref01_formed_j2_eq m x0 x1 x2:e59 jn m [1,1,1] [] (s59_2 x0 x1 x2)=ref01_formed_j2 m (ref01_formed m) (ref01_fields m) x0 x1 x2:=
 tre (g:=fun J=>(bif ((Dt.I x2 0)==3) then
  (jj J 0 5 0 (s59_3 x0 x1 true x2) (e59 J m [1,1,1,1] []))
   else
  (bif ((Dt.I x2 0)==9) then
  (jj J 0 5 0 (s59_3 x0 x1 true x2) (e59 J m [1,1,1,1] []))
  else
  (jj J 0 5 0 (s59_3 x0 x1 ((Dt.I x2 0)==10) x2) (e59 J m [1,1,1,1] []))))) (fun J=>by kernel_rfl) (by simp only[jj_eq,ref01_formed_j3_eq m];rfl)
theorem ref01_formed_j1_eq m x0 x1:e59 jn m [1,1] [] (s59_11 x0 x1)=ref01_formed_j1 m (ref01_formed m) (ref01_fields m) x0 x1:=
 tre (g:=fun J=>(bif ((Dt.I x1 0)==4) then
  (jj J 0 4 0 (s59_2 x0 true x1) (e59 J m [1,1,1] []))
   else
  (bif ((Dt.I x1 0)==7) then
  (jj J 0 4 0 (s59_2 x0 true x1) (e59 J m [1,1,1] []))
  else
  (jj J 0 4 0 (s59_2 x0 ((Dt.I x1 0)==8) x1) (e59 J m [1,1,1] []))))) (fun J=>by kernel_rfl) (by simp only[jj_eq,ref01_formed_j2_eq m];rfl)
theorem ref01_formed_j0_eq m x0 x1 x2:e59 jn m [1,0,1] [] (s59_0 x0 x1 x2)=ref01_formed_j0 m (ref01_formed m) (ref01_fields m) x0 x1 x2:=
 tre (g:=fun J=>(bif x1 then
  some false
   else
  (jj J 0 3 0 (s59_11 x0 x2) (e59 J m [1,1] [])))) (fun J=>by kernel_rfl) (by simp only[jj_eq,ref01_formed_j1_eq m];rfl)
theorem ref01_formed_eq m a0 a1:e59 jn m [] [] ⟨[(.dat 27 a0),(.dat 4 (.bool a1))],[],0⟩=ref01_formed (m+1) a0 a1:=
 tre (g:=fun J=>(bif ((Dt.I a0 0) !=6) then
  (bif (decide (0<(List.length (Dt.L a0 3):Int))) then
  (jj J 0 2 0 (s59_0 a1 true a0) (e59 J m [1,0,1] []))
  else
  (bif ((Dt.I a0 0) !=5) then
  (jj J 0 2 0 (s59_0 a1 (decide (0<(List.length (Dt.L a0 4):Int))) a0) (e59 J m [1,0,1] []))
  else
  (jj J 0 2 0 (s59_0 a1 false a0) (e59 J m [1,0,1] []))))
   else
  (bif ((Dt.I a0 0) !=5) then
  (jj J 0 2 0 (s59_0 a1 (decide (0<(List.length (Dt.L a0 4):Int))) a0) (e59 J m [1,0,1] []))
  else
  (jj J 0 2 0 (s59_0 a1 false a0) (e59 J m [1,0,1] []))))) (fun J=>by kernel_rfl) (by simp only[jj_eq,ref01_formed_j0_eq m];rfl)
def w66_7:List Nat:=[1,0,1,0,0,1]
def w66_3:List Nat:=w66_7++[1]
def w66_5:List Nat:=w66_7++[0,0,1,1]
def w66_4:List Nat:=w66_5++[1]
def w66_6:List Nat:=w66_7++[0,0,1,0,1]
def w66_0:List Nat:=w66_4++[0]
def w66_2:List Nat:=w66_0++[0,1]
def w66_1:List Nat:=w66_2++[1]
noncomputable def e66 (J:Nat→Nat→Nat→St→Option Bool→Option Bool) (m:Nat) (p ms:List Nat) (σ:St):=evAt Tryd.prog env (ct m) J (m+1) 38 58 Tryd.f38 d3 p ms σ
noncomputable def l66 (J:Nat→Nat→Nat→St→Option Bool→Option Bool) (m:Nat) (p ms:List Nat) (M:Nat) (σ:St):=loopAt Tryd.prog env (ct m) J (m+1) 38 58 Tryd.f38 d3 p ms M σ
noncomputable def s66_8 (x0:Bool) (x1 x2:Int) (x3 x4:Dt):St:=⟨tsOf [(1,(.dat 4 (.bool x0))),(2,(.ptr 0 [] 0)),(5,(.dat 3 (.int x1))),(6,(.ptr 1 [] 0)),(7,(.dat 3 (.int x2)))],[(.box 27 (.dat 27 x3)),(.box 41 (.dat 41 x4))],0⟩
noncomputable def s66_9 (x0:Bool) (x1:Int) (x2:Dt):St:=⟨tsOf [(1,(.dat 4 (.bool x0))),(2,(.ptr 0 [] 0)),(5,(.dat 3 (.int x1)))],[(.box 27 (.dat 27 x2))],0⟩
noncomputable def s66_4 (x0:Bool) (x1:Int) (x2 x3:Dt):St:=⟨tsOf [(1,(.dat 4 (.bool x0))),(2,(.ptr 0 [] 0)),(5,(.dat 3 (.int x1))),(6,(.ptr 1 [] 0))],[(.box 27 (.dat 27 x2)),(.box 41 (.dat 41 x3))],0⟩
noncomputable def s66_3 (x0:Bool) (x1:Int) (x2:Bool) (x3 x4:Dt):St:=⟨tsOf [(1,(.dat 4 (.bool x0))),(2,(.ptr 0 [] 0)),(5,(.dat 3 (.int x1))),(6,(.ptr 1 [] 0)),(43,(.dat 4 (.bool x2)))],[(.box 27 (.dat 27 x3)),(.box 41 (.dat 41 x4))],0⟩
noncomputable def s66_10:St:=⟨tsOf [],[],0⟩
abbrev H66_1 (m M1:Nat) (rec1:Bool→Int→Dt→Option Bool):Prop:=∀x0 x1 x2,l66 jn m [1,0,1,0] [] M1 (s66_9 x0 x1 x2)=rec1 x0 x1 x2
abbrev H66_6 (m M1 M6:Nat) (rec6:Bool→Int→Int→Dt→Dt→Option Bool):Prop:=∀x0 x1 x2 x3 x4,l66 jn m w66_0 [M1] M6 (s66_8 x0 x1 x2 x3 x4)=rec6 x0 x1 x2 x3 x4
theorem ref01_fields_j8_eq m M1 rec1 (h1:H66_1 m M1 rec1) M6 rec6 (h6:H66_6 m M1 M6 rec6) x0 x1 x2 x3 x4:e66 jn m w66_1 [M1,M6] (s66_8 x0 x1 x2 x3 x4)=ref01_fields_j8 m (ref01_formed m) rec1 rec6 x0 x1 x2 x3 x4:=
 tre (g:=fun J=>(jj J 1 8 M6 (s66_8 x0 x1 (IntKind.wrap .i64 (x2+1)) x3 x4) (l66 J m w66_0 [M1] M6))) (fun J=>by kernel_rfl) (by simp only[jj_eq,h6];rfl)
theorem ref01_fields_j7_eq m M1 rec1 (h1:H66_1 m M1 rec1) M6 rec6 (h6:H66_6 m M1 M6 rec6) x0 x1 x2 x3 x4:e66 jn m w66_2 [M1,M6] (s66_8 x0 x1 x2 x3 x4)=ref01_fields_j7 m (ref01_formed m) rec1 rec6 x0 x1 x2 x3 x4:=
 tre (g:=fun J=>((idx (Dt.L x3 4) x2).bind fun v2=>
  (bif ((ByteArray.toList (Dt.S v2 0))==(ByteArray.toList (Dt.S x4 0))) then
  some false
  else
  (jj J 0 9 0 (s66_8 x0 x1 x2 x3 x4) (e66 J m w66_1 [M1,M6]))))) (fun J=>by kernel_rfl) (by simp only[jj_eq,ref01_fields_j8_eq m M1 rec1 h1 M6 rec6 h6];rfl)
theorem ref01_fields_j9_eq m M1 rec1 (h1:H66_1 m M1 rec1) x0 x1 x2:e66 jn m w66_3 [M1] (s66_9 x0 x1 x2)=ref01_fields_j9 m (ref01_formed m) rec1 x0 x1 x2:=
 tre (g:=fun J=>(jj J 1 2 M1 (s66_9 x0 (IntKind.wrap .i64 (x1+1)) x2) (l66 J m [1,0,1,0] [] M1))) (fun J=>by kernel_rfl) (by simp only[jj_eq,h1];rfl)
theorem ref01_fields_l6_eq m M1 rec1 (h1:H66_1 m M1 rec1):∀M6 x0 x1 x2 x3 x4,l66 jn m w66_0 [M1] M6 (s66_8 x0 x1 x2 x3 x4)=ref01_fields_l6 m (ref01_formed m) rec1 M6 x0 x1 x2 x3 x4
 |0,_,_,_,_,_=>rfl
 | M6+1,x0,x1,x2,x3,x4=>
   trl (g:=fun J=>(bif (decide (x2<x1)) then
  (jj J 0 10 0 (s66_8 x0 x1 x2 x3 x4) (e66 J m w66_2 [M1,M6]))
   else
  (jj J 0 3 0 (s66_9 x0 x1 x3) (e66 J m w66_3 [M1])))) (fun J=>by kernel_rfl) (by simp only[jj_eq,ref01_fields_j7_eq m M1 rec1 h1 M6 (ref01_fields_l6 m (ref01_formed m) rec1 M6) (ref01_fields_l6_eq m M1 rec1 h1 M6),ref01_fields_j9_eq m M1 rec1 h1];rfl)
theorem ref01_fields_j5_eq m M1 rec1 (h1:H66_1 m M1 rec1) x0 x1 x2 x3 x4:e66 jn m w66_4 [M1] (s66_8 x0 x1 x2 x3 x4)=ref01_fields_j5 m (ref01_formed m) rec1 x0 x1 x2 x3 x4:=
 tre (g:=fun J=>(jj J 1 8 (Nat.succ m) (s66_8 x0 x1 x2 x3 x4) (l66 J m w66_0 [M1] (Nat.succ m)))) (fun J=>by kernel_rfl) (by simp only[jj_eq,ref01_fields_l6_eq m M1 rec1 h1];rfl)
theorem ref01_fields_j4_eq m M1 rec1 (h1:H66_1 m M1 rec1) x0 x1 x2 x3:e66 jn m w66_5 [M1] (s66_4 x0 x1 x2 x3)=ref01_fields_j4 m (ref01_formed m) rec1 x0 x1 x2 x3:=
 tre (g:=fun J=>(jj J 0 8 0 (s66_8 x0 x1 0 x2 x3) (e66 J m w66_4 [M1]))) (fun J=>by kernel_rfl) (by simp only[jj_eq,ref01_fields_j5_eq m M1 rec1 h1];rfl)
theorem ref01_fields_j3_eq m M1 rec1 (h1:H66_1 m M1 rec1) x0 x1 x2 x3 x4:e66 jn m w66_6 [M1] (s66_3 x0 x1 x2 x3 x4)=ref01_fields_j3 m (ref01_formed m) rec1 x0 x1 x2 x3 x4:=
 tre (g:=fun J=>(bif x2 then
  some false
   else
  (jj J 0 7 0 (s66_4 x0 x1 x3 x4) (e66 J m w66_5 [M1])))) (fun J=>by kernel_rfl) (by simp only[jj_eq,ref01_fields_j4_eq m M1 rec1 h1];rfl)
theorem ref01_fields_j2_eq m M1 rec1 (h1:H66_1 m M1 rec1) x0 x1 x2:e66 jn m w66_7 [M1] (s66_9 x0 x1 x2)=ref01_fields_j2 m (ref01_formed m) rec1 x0 x1 x2:=
 tre (g:=fun J=>((idx (Dt.L x2 4) x1).bind fun v0=>
  (bif x0 then
  ((ref01_Name m (Dt.S v0 0)).bind fun r1=>
  (bif (Bool.not r1) then
  (jj J 0 6 0 (s66_3 x0 x1 true x2 v0) (e66 J m w66_6 [M1]))
  else
  (bif (Bool.not x0) then
  ((ref01_wide m (Dt.S v0 0)).bind fun r3=>
  (bif (Bool.not r3) then
  (jj J 0 6 0 (s66_3 x0 x1 true x2 v0) (e66 J m w66_6 [M1]))
  else
  ((ref01_formed m (Dt.fld v0 1) x0).bind fun r4=>
  (jj J 0 6 0 (s66_3 x0 x1 (Bool.not r4) x2 v0) (e66 J m w66_6 [M1])))))
  else
  ((ref01_formed m (Dt.fld v0 1) x0).bind fun r5=>
  (jj J 0 6 0 (s66_3 x0 x1 (Bool.not r5) x2 v0) (e66 J m w66_6 [M1]))))))
  else
  (bif (Bool.not x0) then
  ((ref01_wide m (Dt.S v0 0)).bind fun r6=>
  (bif (Bool.not r6) then
  (jj J 0 6 0 (s66_3 x0 x1 true x2 v0) (e66 J m w66_6 [M1]))
  else
  ((ref01_formed m (Dt.fld v0 1) x0).bind fun r7=>
  (jj J 0 6 0 (s66_3 x0 x1 (Bool.not r7) x2 v0) (e66 J m w66_6 [M1])))))
  else
  ((ref01_formed m (Dt.fld v0 1) x0).bind fun r8=>
  (jj J 0 6 0 (s66_3 x0 x1 (Bool.not r8) x2 v0) (e66 J m w66_6 [M1]))))))) (fun J=>by kernel_rfl) (by simp only[jj_eq,ref01_fields_j3_eq m M1 rec1 h1];rfl)
theorem ref01_fields_j10_eq m:e66 jn m [1,1] [] s66_10=ref01_fields_j10 m (ref01_formed m):=
 tre (g:=fun J=>some true) (fun J=>by kernel_rfl) (by rfl)
theorem ref01_fields_l1_eq m:∀M1 x0 x1 x2,l66 jn m [1,0,1,0] [] M1 (s66_9 x0 x1 x2)=ref01_fields_l1 m (ref01_formed m) M1 x0 x1 x2
 |0,_,_,_=>rfl
 | M1+1,x0,x1,x2=>
   trl (g:=fun J=>(bif (decide (x1<(List.length (Dt.L x2 4):Int))) then
  (jj J 0 4 0 (s66_9 x0 x1 x2) (e66 J m w66_7 [M1]))
   else
  (jj J 0 12 0 s66_10 (e66 J m [1,1] [])))) (fun J=>by kernel_rfl) (by simp only[jj_eq,ref01_fields_j2_eq m M1 (ref01_fields_l1 m (ref01_formed m) M1) (ref01_fields_l1_eq m M1),ref01_fields_j10_eq m];rfl)
theorem ref01_fields_j0_eq m x0 x1 x2:e66 jn m [1,0,1] [] (s66_9 x0 x1 x2)=ref01_fields_j0 m (ref01_formed m) x0 x1 x2:=
 tre (g:=fun J=>(jj J 1 2 (Nat.succ m) (s66_9 x0 x1 x2) (l66 J m [1,0,1,0] [] (Nat.succ m)))) (fun J=>by kernel_rfl) (by simp only[jj_eq,ref01_fields_l1_eq m];rfl)
theorem ref01_fields_eq m a0 a1:e66 jn m [] [] ⟨[(.dat 27 a0),(.dat 4 (.bool a1))],[],0⟩=ref01_fields (m+1) a0 a1:=
 tre (g:=fun J=>(jj J 0 2 0 (s66_9 a1 0 a0) (e66 J m [1,0,1] []))) (fun J=>by kernel_rfl) (by simp only[jj_eq,ref01_fields_j0_eq m];rfl)
noncomputable def e53 (J:Nat→Nat→Nat→St→Option Bool→Option Bool) (m:Nat) (p ms:List Nat) (σ:St):=evAt Tryd.prog env (ct m) J (m+1) 11 15 Tryd.f11 d3 p ms σ
noncomputable def l53 (J:Nat→Nat→Nat→St→Option Bool→Option Bool) (m:Nat) (p ms:List Nat) (M:Nat) (σ:St):=loopAt Tryd.prog env (ct m) J (m+1) 11 15 Tryd.f11 d3 p ms M σ
theorem ref01_Valid_eq m a0:e53 jn m [] [] ⟨[(.dat 27 a0)],[],0⟩=ref01_Valid (m+1) a0:=
 tre (g:=fun J=>((ref01_Depth m a0).bind fun r0=>
  (bif (decide (r0≤16)) then
  ((ref01_Nodes m a0).bind fun r1=>
  (bif (decide (r1≤1024)) then
  ((ref01_formed m a0 true).bind fun r2=>
  some r2)
  else
  some false))
  else
  some false))) (fun J=>by kernel_rfl) (by rfl)
def w22_16:List Nat:=[1,1,1,1,1]
def w22_14:List Nat:=[1,1,1,1,1,1]
def w22_17:List Nat:=[1,1,1,1,0,1]
def w22_12:List Nat:=w22_14++[1]
def w22_15:List Nat:=[1,1,1,1,1,0,1]
def w22_0:List Nat:=w22_15++[0]
def w22_13:List Nat:=w22_14++[0,1]
def w22_3:List Nat:=w22_13++[0]
def w22_2:List Nat:=w22_0++[0,1]
def w22_1:List Nat:=w22_2++[1]
def w22_11:List Nat:=w22_3++[0,1]
def w22_7:List Nat:=w22_11++[1]
def w22_9:List Nat:=w22_11++[0,0,1]
def w22_8:List Nat:=w22_9++[1]
def w22_10:List Nat:=w22_11++[0,0,0,1]
def w22_4:List Nat:=w22_8++[0]
def w22_6:List Nat:=w22_4++[0,1]
def w22_5:List Nat:=w22_6++[1]
noncomputable def e22 (J:Nat→Nat→Nat→St→Option Bool→Option Bool) (m:Nat) (p ms:List Nat) (σ:St):=evAt Tryd.prog env (ct m) J (m+1) 26 92 Tryd.f26 d3 p ms σ
noncomputable def l22 (J:Nat→Nat→Nat→St→Option Bool→Option Bool) (m:Nat) (p ms:List Nat) (M:Nat) (σ:St):=loopAt Tryd.prog env (ct m) J (m+1) 26 92 Tryd.f26 d3 p ms M σ
noncomputable def s22_5 (x0:Int) (x1:Dt):St:=⟨tsOf [(1,(.ptr 0 [] 0)),(4,(.dat 3 (.int x0)))],[(.box 27 (.dat 27 x1))],0⟩
noncomputable def s22_15 (x0 x1:Int) (x2:Dt):St:=⟨tsOf [(1,(.ptr 0 [] 0)),(5,(.dat 3 (.int x0))),(6,(.dat 3 (.int x1)))],[(.box 27 (.dat 27 x2))],0⟩
noncomputable def s22_16 (x0:Int) (x1:Dt):St:=⟨tsOf [(1,(.ptr 0 [] 0)),(5,(.dat 3 (.int x0)))],[(.box 27 (.dat 27 x1))],0⟩
noncomputable def s22_10 (x0:Int) (x1:Bool) (x2:Dt):St:=⟨tsOf [(1,(.ptr 0 [] 0)),(5,(.dat 3 (.int x0))),(73,(.dat 4 (.bool x1)))],[(.box 27 (.dat 27 x2))],0⟩
noncomputable def s22_17:St:=⟨tsOf [],[],0⟩
noncomputable def s22_6 (x0:Dt):St:=⟨tsOf [(1,(.ptr 0 [] 0))],[(.box 27 (.dat 27 x0))],0⟩
noncomputable def s22_0 (x0:Bool) (x1:Dt):St:=⟨tsOf [(1,(.ptr 0 [] 0)),(34,(.dat 4 (.bool x0)))],[(.box 27 (.dat 27 x1))],0⟩
abbrev H22_3 (m M3:Nat) (rec3:Int→Dt→Option Bool):Prop:=∀x0 x1,l22 jn m w22_0 [] M3 (s22_5 x0 x1)=rec3 x0 x1
theorem ref05_formed_j5_eq m M3 rec3 (h3:H22_3 m M3 rec3) x0 x1:e22 jn m w22_1 [M3] (s22_5 x0 x1)=ref05_formed_j5 m (ref05_formed m) rec3 x0 x1:=
 tre (g:=fun J=>(jj J 1 7 M3 (s22_5 (IntKind.wrap .i64 (x0+1)) x1) (l22 J m w22_0 [] M3))) (fun J=>by kernel_rfl) (by simp only[jj_eq,h3];rfl)
theorem ref05_formed_j4_eq m M3 rec3 (h3:H22_3 m M3 rec3) x0 x1:e22 jn m w22_2 [M3] (s22_5 x0 x1)=ref05_formed_j4 m (ref05_formed m) rec3 x0 x1:=
 tre (g:=fun J=>((idx (Dt.L x1 3) x0).bind fun v0=>
  ((ref05_formed m v0).bind fun r1=>
  (bif (Bool.not r1) then
  some false
  else
  (jj J 0 8 0 (s22_5 x0 x1) (e22 J m w22_1 [M3])))))) (fun J=>by kernel_rfl) (by simp only[jj_eq,ref05_formed_j5_eq m M3 rec3 h3];rfl)
abbrev H22_8 (m M8:Nat) (rec8:Int→Dt→Option Bool):Prop:=∀x0 x1,l22 jn m w22_3 [] M8 (s22_16 x0 x1)=rec8 x0 x1
abbrev H22_13 (m M8 M13:Nat) (rec13:Int→Int→Dt→Option Bool):Prop:=∀x0 x1 x2,l22 jn m w22_4 [M8] M13 (s22_15 x0 x1 x2)=rec13 x0 x1 x2
theorem ref05_formed_j15_eq m M8 rec8 (h8:H22_8 m M8 rec8) M13 rec13 (h13:H22_13 m M8 M13 rec13) x0 x1 x2:e22 jn m w22_5 [M8,M13] (s22_15 x0 x1 x2)=ref05_formed_j15 m (ref05_formed m) rec8 rec13 x0 x1 x2:=
 tre (g:=fun J=>(jj J 1 17 M13 (s22_15 x0 (IntKind.wrap .i64 (x1+1)) x2) (l22 J m w22_4 [M8] M13))) (fun J=>by kernel_rfl) (by simp only[jj_eq,h13];rfl)
theorem ref05_formed_j14_eq m M8 rec8 (h8:H22_8 m M8 rec8) M13 rec13 (h13:H22_13 m M8 M13 rec13) x0 x1 x2:e22 jn m w22_6 [M8,M13] (s22_15 x0 x1 x2)=ref05_formed_j14 m (ref05_formed m) rec8 rec13 x0 x1 x2:=
 tre (g:=fun J=>((idx (Dt.L x2 4) x1).bind fun v4=>
  ((idx (Dt.L x2 4) x0).bind fun v5=>
  (bif ((ByteArray.toList (Dt.S v4 0))==(ByteArray.toList (Dt.S v5 0))) then
  some false
  else
  (jj J 0 18 0 (s22_15 x0 x1 x2) (e22 J m w22_5 [M8,M13])))))) (fun J=>by kernel_rfl) (by simp only[jj_eq,ref05_formed_j15_eq m M8 rec8 h8 M13 rec13 h13];rfl)
theorem ref05_formed_j16_eq m M8 rec8 (h8:H22_8 m M8 rec8) x0 x1:e22 jn m w22_7 [M8] (s22_16 x0 x1)=ref05_formed_j16 m (ref05_formed m) rec8 x0 x1:=
 tre (g:=fun J=>(jj J 1 12 M8 (s22_16 (IntKind.wrap .i64 (x0+1)) x1) (l22 J m w22_3 [] M8))) (fun J=>by kernel_rfl) (by simp only[jj_eq,h8];rfl)
theorem ref05_formed_l13_eq m M8 rec8 (h8:H22_8 m M8 rec8):∀M13 x0 x1 x2,l22 jn m w22_4 [M8] M13 (s22_15 x0 x1 x2)=ref05_formed_l13 m (ref05_formed m) rec8 M13 x0 x1 x2
 |0,_,_,_=>rfl
 | M13+1,x0,x1,x2=>
   trl (g:=fun J=>(bif (decide (x1<x0)) then
  (jj J 0 19 0 (s22_15 x0 x1 x2) (e22 J m w22_6 [M8,M13]))
   else
  (jj J 0 13 0 (s22_16 x0 x2) (e22 J m w22_7 [M8])))) (fun J=>by kernel_rfl) (by simp only[jj_eq,ref05_formed_j14_eq m M8 rec8 h8 M13 (ref05_formed_l13 m (ref05_formed m) rec8 M13) (ref05_formed_l13_eq m M8 rec8 h8 M13),ref05_formed_j16_eq m M8 rec8 h8];rfl)
theorem ref05_formed_j12_eq m M8 rec8 (h8:H22_8 m M8 rec8) x0 x1 x2:e22 jn m w22_8 [M8] (s22_15 x0 x1 x2)=ref05_formed_j12 m (ref05_formed m) rec8 x0 x1 x2:=
 tre (g:=fun J=>(jj J 1 17 (Nat.succ m) (s22_15 x0 x1 x2) (l22 J m w22_4 [M8] (Nat.succ m)))) (fun J=>by kernel_rfl) (by simp only[jj_eq,ref05_formed_l13_eq m M8 rec8 h8];rfl)
theorem ref05_formed_j11_eq m M8 rec8 (h8:H22_8 m M8 rec8) x0 x1:e22 jn m w22_9 [M8] (s22_16 x0 x1)=ref05_formed_j11 m (ref05_formed m) rec8 x0 x1:=
 tre (g:=fun J=>(jj J 0 17 0 (s22_15 x0 0 x1) (e22 J m w22_8 [M8]))) (fun J=>by kernel_rfl) (by simp only[jj_eq,ref05_formed_j12_eq m M8 rec8 h8];rfl)
theorem ref05_formed_j10_eq m M8 rec8 (h8:H22_8 m M8 rec8) x0 x1 x2:e22 jn m w22_10 [M8] (s22_10 x0 x1 x2)=ref05_formed_j10 m (ref05_formed m) rec8 x0 x1 x2:=
 tre (g:=fun J=>(bif x1 then
  some false
   else
  (jj J 0 16 0 (s22_16 x0 x2) (e22 J m w22_9 [M8])))) (fun J=>by kernel_rfl) (by simp only[jj_eq,ref05_formed_j11_eq m M8 rec8 h8];rfl)
theorem ref05_formed_j9_eq m M8 rec8 (h8:H22_8 m M8 rec8) x0 x1:e22 jn m w22_11 [M8] (s22_16 x0 x1)=ref05_formed_j9 m (ref05_formed m) rec8 x0 x1:=
 tre (g:=fun J=>((idx (Dt.L x1 4) x0).bind fun v2=>
  ((ref05_Label m (Dt.S v2 0)).bind fun r3=>
  (bif (Bool.not r3) then
  (jj J 0 15 0 (s22_10 x0 true x1) (e22 J m w22_10 [M8]))
  else
  ((idx (Dt.L x1 4) x0).bind fun v6=>
  ((ref05_formed m (Dt.fld v6 1)).bind fun r7=>
  (jj J 0 15 0 (s22_10 x0 (Bool.not r7) x1) (e22 J m w22_10 [M8])))))))) (fun J=>by kernel_rfl) (by simp only[jj_eq,ref05_formed_j10_eq m M8 rec8 h8];rfl)
theorem ref05_formed_j17_eq m:e22 jn m w22_12 [] s22_17=ref05_formed_j17 m (ref05_formed m):=
 tre (g:=fun J=>some true) (fun J=>by kernel_rfl) (by rfl)
theorem ref05_formed_l8_eq m:∀M8 x0 x1,l22 jn m w22_3 [] M8 (s22_16 x0 x1)=ref05_formed_l8 m (ref05_formed m) M8 x0 x1
 |0,_,_=>rfl
 | M8+1,x0,x1=>
   trl (g:=fun J=>(bif (decide (x0<(List.length (Dt.L x1 4):Int))) then
  (jj J 0 14 0 (s22_16 x0 x1) (e22 J m w22_11 [M8]))
   else
  (jj J 0 21 0 s22_17 (e22 J m w22_12 [])))) (fun J=>by kernel_rfl) (by simp only[jj_eq,ref05_formed_j9_eq m M8 (ref05_formed_l8 m (ref05_formed m) M8) (ref05_formed_l8_eq m M8),ref05_formed_j17_eq m];rfl)
theorem ref05_formed_j7_eq m x0 x1:e22 jn m w22_13 [] (s22_16 x0 x1)=ref05_formed_j7 m (ref05_formed m) x0 x1:=
 tre (g:=fun J=>(jj J 1 12 (Nat.succ m) (s22_16 x0 x1) (l22 J m w22_3 [] (Nat.succ m)))) (fun J=>by kernel_rfl) (by simp only[jj_eq,ref05_formed_l8_eq m];rfl)
theorem ref05_formed_j6_eq m x0:e22 jn m w22_14 [] (s22_6 x0)=ref05_formed_j6 m (ref05_formed m) x0:=
 tre (g:=fun J=>(jj J 0 12 0 (s22_16 0 x0) (e22 J m w22_13 []))) (fun J=>by kernel_rfl) (by simp only[jj_eq,ref05_formed_j7_eq m];rfl)
theorem ref05_formed_l3_eq m:∀M3 x0 x1,l22 jn m w22_0 [] M3 (s22_5 x0 x1)=ref05_formed_l3 m (ref05_formed m) M3 x0 x1
 |0,_,_=>rfl
 | M3+1,x0,x1=>
   trl (g:=fun J=>(bif (decide (x0<(List.length (Dt.L x1 3):Int))) then
  (jj J 0 9 0 (s22_5 x0 x1) (e22 J m w22_2 [M3]))
   else
  (jj J 0 11 0 (s22_6 x1) (e22 J m w22_14 [])))) (fun J=>by kernel_rfl) (by simp only[jj_eq,ref05_formed_j4_eq m M3 (ref05_formed_l3 m (ref05_formed m) M3) (ref05_formed_l3_eq m M3),ref05_formed_j6_eq m];rfl)
theorem ref05_formed_j2_eq m x0 x1:e22 jn m w22_15 [] (s22_5 x0 x1)=ref05_formed_j2 m (ref05_formed m) x0 x1:=
 tre (g:=fun J=>(jj J 1 7 (Nat.succ m) (s22_5 x0 x1) (l22 J m w22_0 [] (Nat.succ m)))) (fun J=>by kernel_rfl) (by simp only[jj_eq,ref05_formed_l3_eq m];rfl)
theorem ref05_formed_j1_eq m x0:e22 jn m w22_16 [] (s22_6 x0)=ref05_formed_j1 m (ref05_formed m) x0:=
 tre (g:=fun J=>(jj J 0 7 0 (s22_5 0 x0) (e22 J m w22_15 []))) (fun J=>by kernel_rfl) (by simp only[jj_eq,ref05_formed_j2_eq m];rfl)
theorem ref05_formed_j0_eq m x0 x1:e22 jn m w22_17 [] (s22_0 x0 x1)=ref05_formed_j0 m (ref05_formed m) x0 x1:=
 tre (g:=fun J=>(bif x0 then
  some false
   else
  (jj J 0 6 0 (s22_6 x1) (e22 J m w22_16 [])))) (fun J=>by kernel_rfl) (by simp only[jj_eq,ref05_formed_j1_eq m];rfl)
theorem ref05_formed_eq m a0:e22 jn m [] [] ⟨[(.dat 27 a0)],[],0⟩=ref05_formed (m+1) a0:=
 tre (g:=fun J=>(bif ((Dt.I a0 0) !=6) then
  (bif (decide (0<(List.length (Dt.L a0 3):Int))) then
  (jj J 0 5 0 (s22_0 true a0) (e22 J m w22_17 []))
  else
  (bif ((Dt.I a0 0) !=5) then
  (bif (decide (0<(List.length (Dt.L a0 4):Int))) then
  (jj J 0 5 0 (s22_0 true a0) (e22 J m w22_17 []))
  else
  ((ref01_Valid m (Dt.agg [(Dt.int (Dt.I a0 0)),(Dt.int (Dt.I a0 1)),(Dt.str (Dt.S a0 2)),(Dt.lst []),(Dt.lst [])])).bind fun r8=>
  (jj J 0 5 0 (s22_0 (Bool.not r8) a0) (e22 J m w22_17 []))))
  else
  ((ref01_Valid m (Dt.agg [(Dt.int (Dt.I a0 0)),(Dt.int (Dt.I a0 1)),(Dt.str (Dt.S a0 2)),(Dt.lst []),(Dt.lst [])])).bind fun r9=>
  (jj J 0 5 0 (s22_0 (Bool.not r9) a0) (e22 J m w22_17 [])))))
   else
  (bif ((Dt.I a0 0) !=5) then
  (bif (decide (0<(List.length (Dt.L a0 4):Int))) then
  (jj J 0 5 0 (s22_0 true a0) (e22 J m w22_17 []))
  else
  ((ref01_Valid m (Dt.agg [(Dt.int (Dt.I a0 0)),(Dt.int (Dt.I a0 1)),(Dt.str (Dt.S a0 2)),(Dt.lst []),(Dt.lst [])])).bind fun r10=>
  (jj J 0 5 0 (s22_0 (Bool.not r10) a0) (e22 J m w22_17 []))))
  else
  ((ref01_Valid m (Dt.agg [(Dt.int (Dt.I a0 0)),(Dt.int (Dt.I a0 1)),(Dt.str (Dt.S a0 2)),(Dt.lst []),(Dt.lst [])])).bind fun r11=>
  (jj J 0 5 0 (s22_0 (Bool.not r11) a0) (e22 J m w22_17 [])))))) (fun J=>by kernel_rfl) (by simp only[jj_eq,ref05_formed_j0_eq m];rfl)
noncomputable def e6 (J:Nat→Nat→Nat→St→Option Bool→Option Bool) (m:Nat) (p ms:List Nat) (σ:St):=evAt Tryd.prog env (ct m) J (m+1) 14 15 Tryd.f14 d3 p ms σ
noncomputable def l6 (J:Nat→Nat→Nat→St→Option Bool→Option Bool) (m:Nat) (p ms:List Nat) (M:Nat) (σ:St):=loopAt Tryd.prog env (ct m) J (m+1) 14 15 Tryd.f14 d3 p ms M σ
theorem ref05_WellFormed_eq m a0:e6 jn m [] [] ⟨[(.dat 27 a0)],[],0⟩=ref05_WellFormed (m+1) a0:=
 tre (g:=fun J=>((ref01_Depth m a0).bind fun r0=>
  (bif (decide (r0≤16)) then
  ((ref01_Nodes m a0).bind fun r1=>
  (bif (decide (r1≤1024)) then
  ((ref05_formed m a0).bind fun r2=>
  some r2)
  else
  some false))
  else
  some false))) (fun J=>by kernel_rfl) (by rfl)
noncomputable def e0 (J:Nat→Nat→Nat→St→Option Bool→Option Bool) (m:Nat) (p ms:List Nat) (σ:St):=evAt Tryd.prog env (ct m) J (m+1) 4 71 Tryd.f4 d3 p ms σ
noncomputable def l0 (J:Nat→Nat→Nat→St→Option Bool→Option Bool) (m:Nat) (p ms:List Nat) (M:Nat) (σ:St):=loopAt Tryd.prog env (ct m) J (m+1) 4 71 Tryd.f4 d3 p ms M σ
noncomputable def s0_1 (x0 x1:Int) (x2:ByteArray) (x3:Dt):St:=⟨tsOf [(1,(.dat 5 (.int x0))),(2,(.dat 5 (.int x1))),(3,(.ptr 0 [] 0)),(7,(.dat 9 (.str x2)))],[(.box 27 (.dat 27 x3))],0⟩
noncomputable def s0_0 (x0 x1:Int) (x2:Dt):St:=⟨tsOf [(1,(.dat 5 (.int x0))),(2,(.dat 5 (.int x1))),(3,(.ptr 0 [] 0))],[(.box 27 (.dat 27 x2))],0⟩
theorem law05_NotationBack_j1_eq m x0 x1 x2 x3:e0 jn m [1,1,1,1] [] (s0_1 x0 x1 x2 x3)=law05_NotationBack_j1 m x0 x1 x2 x3:=
 tre (g:=fun J=>((cutS (ByteArray.mk (List.toArray [32,9,10,13,32,9,10,13])) 0 (Int.tmod x0 9)).bind fun v5=>
  (bif (Nat.ble ((ByteArray.size v5)+(ByteArray.size x2)) 1152921504606846976) then
  ((cutS (ByteArray.mk (List.toArray [32,9,10,13,32,9,10,13])) 0 (Int.tmod x1 9)).bind fun v6=>
  (bif (Nat.ble ((ByteArray.size (v5++x2))+(ByteArray.size v6)) 1152921504606846976) then
  ((notation_Parse m ((v5++x2)++v6)).bind fun r7=>
  ((ref05_WellFormed m x3).bind fun r8=>
  (bif r8 then
  (bif (r7.2.2==0) then
  (bif (r7.2.1==0) then
  ((ref05_Same m x3 r7.1).bind fun r9=>
  (bif r9 then
  ((awakeC).bind fun r10=>
  some r10)
  else
  some false))
  else
  some false)
  else
  some false)
  else
  some false)))
  else
  none))
  else
  none))) (fun J=>by kernel_rfl) (by rfl)
theorem law05_NotationBack_j0_eq m x0 x1 x2:e0 jn m [1,1] [] (s0_0 x0 x1 x2)=law05_NotationBack_j0 m x0 x1 x2:=
 tre (g:=fun J=>((notation_Print m x2).bind fun r2=>
  (bif (r2.2 !=0) then
  (bif ((ByteArray.toList r2.1)==[]) then
  ((ref05_WellFormed m x2).bind fun r3=>
  (bif ((r2.2==8)==(Bool.not r3)) then
  ((awakeC).bind fun r4=>
  some r4)
  else
  some false))
  else
  some false)
  else
  (jj J 0 6 0 (s0_1 x0 x1 r2.1 x2) (e0 J m [1,1,1,1] []))))) (fun J=>by kernel_rfl) (by simp only[jj_eq,law05_NotationBack_j1_eq m];rfl)
theorem law05_NotationBack_eq m a0 a1 a2:e0 jn m [] [] ⟨[(.dat 27 a0),(.dat 5 (.int a1)),(.dat 5 (.int a2))],[],0⟩=law05_NotationBack (m+1) a0 a1 a2:=
 tre (g:=fun J=>((ref02_Few m a0 3000).bind fun r0=>
  (bif (Bool.not r0) then
  ((awakeC).bind fun r1=>
  some r1)
  else
  (jj J 0 3 0 (s0_0 a1 a2 a0) (e0 J m [1,1] []))))) (fun J=>by kernel_rfl) (by simp only[jj_eq,law05_NotationBack_j0_eq m];rfl)
noncomputable def e1 (J:Nat→Nat→Nat→St→Option Bool→Option Bool) (m:Nat) (p ms:List Nat) (σ:St):=evAt Tryd.prog env (ct m) J (m+1) 5 80 Tryd.f5 d3 p ms σ
noncomputable def l1 (J:Nat→Nat→Nat→St→Option Bool→Option Bool) (m:Nat) (p ms:List Nat) (M:Nat) (σ:St):=loopAt Tryd.prog env (ct m) J (m+1) 5 80 Tryd.f5 d3 p ms M σ
noncomputable def s1_1 (x0:Int) (x1:Dt):St:=⟨tsOf [(3,(.ptr 0 [] 0)),(4,(.dat 3 (.int x0)))],[(.box 27 (.dat 27 x1))],0⟩
noncomputable def s1_0 (x0:ByteArray):St:=⟨tsOf [(0,(.dat 9 (.str x0)))],[],0⟩
theorem law05_NotationAgain_j1_eq m x0 x1:e1 jn m [1,1,1,1] [] (s1_1 x0 x1)=law05_NotationAgain_j1 m x0 x1:=
 tre (g:=fun J=>((notation_Print m x1).bind fun r6=>
  ((notation_Parse m r6.1).bind fun r7=>
  (bif (x0==0) then
  ((ref05_WellFormed m x1).bind fun r8=>
  (bif r8 then
  (bif (r6.2==0) then
  (bif (r7.2.2==0) then
  ((ref05_Same m x1 r7.1).bind fun r9=>
  (bif r9 then
  ((awakeC).bind fun r10=>
  some r10)
  else
  some false))
  else
  some false)
  else
  some false)
  else
  some false))
  else
  some false)))) (fun J=>by kernel_rfl) (by rfl)
theorem law05_NotationAgain_j0_eq m x0:e1 jn m [1,1] [] (s1_0 x0)=law05_NotationAgain_j0 m x0:=
 tre (g:=fun J=>((notation_Parse m x0).bind fun r1=>
  (bif (r1.2.2 !=0) then
  (bif (decide (0≤r1.2.1)) then
  (bif (decide (r1.2.1≤(ByteArray.size x0:Int))) then
  (bif (r1.2.2==4) then
  ((ref05_Same m r1.1 kza2373).bind fun r2=>
  (bif r2 then
  ((awakeC).bind fun r3=>
  some r3)
  else
  some false))
  else
  (bif (r1.2.2==2) then
  ((ref05_Same m r1.1 kza2373).bind fun r4=>
  (bif r4 then
  ((awakeC).bind fun r5=>
  some r5)
  else
  some false))
  else
  some false))
  else
  some false)
  else
  some false)
  else
  (jj J 0 6 0 (s1_1 r1.2.1 r1.1) (e1 J m [1,1,1,1] []))))) (fun J=>by kernel_rfl) (by simp only[jj_eq,law05_NotationAgain_j1_eq m];rfl)
theorem law05_NotationAgain_eq m a0:e1 jn m [] [] ⟨[(.dat 9 (.str a0))],[],0⟩=law05_NotationAgain (m+1) a0:=
 tre (g:=fun J=>(bif (decide (10000<(ByteArray.size a0:Int))) then
  ((awakeC).bind fun r0=>
  some r0)
   else
  (jj J 0 3 0 (s1_0 a0) (e1 J m [1,1] [])))) (fun J=>by kernel_rfl) (by simp only[jj_eq,law05_NotationAgain_j0_eq m];rfl)
end Go.Proofs.YtmejbpmceflcjaaDoor
