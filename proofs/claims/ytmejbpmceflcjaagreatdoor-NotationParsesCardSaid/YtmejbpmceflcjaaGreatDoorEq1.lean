/- Generated: each function's run in the abstract machine is its shallow function. -/
import Derived.Test.YtmejbpmceflcjaaGreatDoorCt
import Derived.Test.YtmejbpmceflcjaaGreatDoorAmEnv
import Derived.KernelRfl
set_option linter.unusedVariables false
set_option linter.unusedSimpArgs false
namespace Go.Proofs.YtmejbpmceflcjaaGreatDoor
open Go.Am
set_option maxRecDepth 100000
def w57_7:List Nat:=[1,0,1,0,0,1]
def w57_3:List Nat:=w57_7++[1]
def w57_5:List Nat:=w57_7++[0,0,1,1]
def w57_4:List Nat:=w57_5++[1]
def w57_6:List Nat:=w57_7++[0,0,1,0,1]
def w57_0:List Nat:=w57_4++[0]
def w57_2:List Nat:=w57_0++[0,1]
def w57_1:List Nat:=w57_2++[1]
noncomputable def e57 (J:Nat→Nat→Nat→St→Option Bool→Option Bool) (m:Nat) (p ms:List Nat) (σ:St):=evAt Tryz.prog env (ct m) J (m+1) 102 58 Tryz.f102 d20 p ms σ
noncomputable def l57 (J:Nat→Nat→Nat→St→Option Bool→Option Bool) (m:Nat) (p ms:List Nat) (M:Nat) (σ:St):=loopAt Tryz.prog env (ct m) J (m+1) 102 58 Tryz.f102 d20 p ms M σ
noncomputable def s57_8 (x0:Bool) (x1 x2:Int) (x3 x4:Dt):St:=⟨tsOf [(1,(.dat 4 (.bool x0))),(2,(.ptr 0 [] 0)),(5,(.dat 3 (.int x1))),(6,(.ptr 1 [] 0)),(7,(.dat 3 (.int x2)))],[(.box 25 (.dat 25 x3)),(.box 38 (.dat 38 x4))],0⟩
noncomputable def s57_9 (x0:Bool) (x1:Int) (x2:Dt):St:=⟨tsOf [(1,(.dat 4 (.bool x0))),(2,(.ptr 0 [] 0)),(5,(.dat 3 (.int x1)))],[(.box 25 (.dat 25 x2))],0⟩
noncomputable def s57_4 (x0:Bool) (x1:Int) (x2 x3:Dt):St:=⟨tsOf [(1,(.dat 4 (.bool x0))),(2,(.ptr 0 [] 0)),(5,(.dat 3 (.int x1))),(6,(.ptr 1 [] 0))],[(.box 25 (.dat 25 x2)),(.box 38 (.dat 38 x3))],0⟩
noncomputable def s57_3 (x0:Bool) (x1:Int) (x2:Bool) (x3 x4:Dt):St:=⟨tsOf [(1,(.dat 4 (.bool x0))),(2,(.ptr 0 [] 0)),(5,(.dat 3 (.int x1))),(6,(.ptr 1 [] 0)),(43,(.dat 4 (.bool x2)))],[(.box 25 (.dat 25 x3)),(.box 38 (.dat 38 x4))],0⟩
noncomputable def s57_10:St:=⟨tsOf [],[],0⟩
abbrev H57_1 (m M1:Nat) (rec1:Bool→Int→Dt→Option Bool):Prop:=∀x0 x1 x2,l57 jn m [1,0,1,0] [] M1 (s57_9 x0 x1 x2)=rec1 x0 x1 x2
abbrev H57_6 (m M1 M6:Nat) (rec6:Bool→Int→Int→Dt→Dt→Option Bool):Prop:=∀x0 x1 x2 x3 x4,l57 jn m w57_0 [M1] M6 (s57_8 x0 x1 x2 x3 x4)=rec6 x0 x1 x2 x3 x4
theorem ref01_fields_j8_eq m M1 rec1 (h1:H57_1 m M1 rec1) M6 rec6 (h6:H57_6 m M1 M6 rec6) x0 x1 x2 x3 x4:e57 jn m w57_1 [M1,M6] (s57_8 x0 x1 x2 x3 x4)=ref01_fields_j8 m (ref01_formed m) rec1 rec6 x0 x1 x2 x3 x4:=
 tre (g:=fun J=>(jj J 1 8 M6 (s57_8 x0 x1 (IntKind.wrap .i64 (x2+1)) x3 x4) (l57 J m w57_0 [M1] M6))) (fun J=>by kernel_rfl) (by simp only[jj_eq,h6];rfl)
theorem ref01_fields_j7_eq m M1 rec1 (h1:H57_1 m M1 rec1) M6 rec6 (h6:H57_6 m M1 M6 rec6) x0 x1 x2 x3 x4:e57 jn m w57_2 [M1,M6] (s57_8 x0 x1 x2 x3 x4)=ref01_fields_j7 m (ref01_formed m) rec1 rec6 x0 x1 x2 x3 x4:=
 tre (g:=fun J=>((idx (Dt.L x3 4) x2).bind fun v2=>
  (bif ((ByteArray.toList (Dt.S v2 0))==(ByteArray.toList (Dt.S x4 0))) then
  some false
  else
  (jj J 0 9 0 (s57_8 x0 x1 x2 x3 x4) (e57 J m w57_1 [M1,M6]))))) (fun J=>by kernel_rfl) (by simp only[jj_eq,ref01_fields_j8_eq m M1 rec1 h1 M6 rec6 h6];rfl)
theorem ref01_fields_j9_eq m M1 rec1 (h1:H57_1 m M1 rec1) x0 x1 x2:e57 jn m w57_3 [M1] (s57_9 x0 x1 x2)=ref01_fields_j9 m (ref01_formed m) rec1 x0 x1 x2:=
 tre (g:=fun J=>(jj J 1 2 M1 (s57_9 x0 (IntKind.wrap .i64 (x1+1)) x2) (l57 J m [1,0,1,0] [] M1))) (fun J=>by kernel_rfl) (by simp only[jj_eq,h1];rfl)
theorem ref01_fields_l6_eq m M1 rec1 (h1:H57_1 m M1 rec1):∀M6 x0 x1 x2 x3 x4,l57 jn m w57_0 [M1] M6 (s57_8 x0 x1 x2 x3 x4)=ref01_fields_l6 m (ref01_formed m) rec1 M6 x0 x1 x2 x3 x4
 |0,_,_,_,_,_=>rfl
 | M6+1,x0,x1,x2,x3,x4=>
   trl (g:=fun J=>(bif (decide (x2<x1)) then
  (jj J 0 10 0 (s57_8 x0 x1 x2 x3 x4) (e57 J m w57_2 [M1,M6]))
   else
  (jj J 0 3 0 (s57_9 x0 x1 x3) (e57 J m w57_3 [M1])))) (fun J=>by kernel_rfl) (by simp only[jj_eq,ref01_fields_j7_eq m M1 rec1 h1 M6 (ref01_fields_l6 m (ref01_formed m) rec1 M6) (ref01_fields_l6_eq m M1 rec1 h1 M6),ref01_fields_j9_eq m M1 rec1 h1];rfl)
theorem ref01_fields_j5_eq m M1 rec1 (h1:H57_1 m M1 rec1) x0 x1 x2 x3 x4:e57 jn m w57_4 [M1] (s57_8 x0 x1 x2 x3 x4)=ref01_fields_j5 m (ref01_formed m) rec1 x0 x1 x2 x3 x4:=
 tre (g:=fun J=>(jj J 1 8 (Nat.succ m) (s57_8 x0 x1 x2 x3 x4) (l57 J m w57_0 [M1] (Nat.succ m)))) (fun J=>by kernel_rfl) (by simp only[jj_eq,ref01_fields_l6_eq m M1 rec1 h1];rfl)
theorem ref01_fields_j4_eq m M1 rec1 (h1:H57_1 m M1 rec1) x0 x1 x2 x3:e57 jn m w57_5 [M1] (s57_4 x0 x1 x2 x3)=ref01_fields_j4 m (ref01_formed m) rec1 x0 x1 x2 x3:=
 tre (g:=fun J=>(jj J 0 8 0 (s57_8 x0 x1 0 x2 x3) (e57 J m w57_4 [M1]))) (fun J=>by kernel_rfl) (by simp only[jj_eq,ref01_fields_j5_eq m M1 rec1 h1];rfl)
theorem ref01_fields_j3_eq m M1 rec1 (h1:H57_1 m M1 rec1) x0 x1 x2 x3 x4:e57 jn m w57_6 [M1] (s57_3 x0 x1 x2 x3 x4)=ref01_fields_j3 m (ref01_formed m) rec1 x0 x1 x2 x3 x4:=
 tre (g:=fun J=>(bif x2 then
  some false
   else
  (jj J 0 7 0 (s57_4 x0 x1 x3 x4) (e57 J m w57_5 [M1])))) (fun J=>by kernel_rfl) (by simp only[jj_eq,ref01_fields_j4_eq m M1 rec1 h1];rfl)
theorem ref01_fields_j2_eq m M1 rec1 (h1:H57_1 m M1 rec1) x0 x1 x2:e57 jn m w57_7 [M1] (s57_9 x0 x1 x2)=ref01_fields_j2 m (ref01_formed m) rec1 x0 x1 x2:=
 tre (g:=fun J=>((idx (Dt.L x2 4) x1).bind fun v0=>
  (bif x0 then
  ((ref01_Name m (Dt.S v0 0)).bind fun r1=>
  (bif (Bool.not r1) then
  (jj J 0 6 0 (s57_3 x0 x1 true x2 v0) (e57 J m w57_6 [M1]))
  else
  (bif (Bool.not x0) then
  ((ref01_wide m (Dt.S v0 0)).bind fun r3=>
  (bif (Bool.not r3) then
  (jj J 0 6 0 (s57_3 x0 x1 true x2 v0) (e57 J m w57_6 [M1]))
  else
  ((ref01_formed m (Dt.fld v0 1) x0).bind fun r4=>
  (jj J 0 6 0 (s57_3 x0 x1 (Bool.not r4) x2 v0) (e57 J m w57_6 [M1])))))
  else
  ((ref01_formed m (Dt.fld v0 1) x0).bind fun r5=>
  (jj J 0 6 0 (s57_3 x0 x1 (Bool.not r5) x2 v0) (e57 J m w57_6 [M1]))))))
  else
  (bif (Bool.not x0) then
  ((ref01_wide m (Dt.S v0 0)).bind fun r6=>
  (bif (Bool.not r6) then
  (jj J 0 6 0 (s57_3 x0 x1 true x2 v0) (e57 J m w57_6 [M1]))
  else
  ((ref01_formed m (Dt.fld v0 1) x0).bind fun r7=>
  (jj J 0 6 0 (s57_3 x0 x1 (Bool.not r7) x2 v0) (e57 J m w57_6 [M1])))))
  else
  ((ref01_formed m (Dt.fld v0 1) x0).bind fun r8=>
  (jj J 0 6 0 (s57_3 x0 x1 (Bool.not r8) x2 v0) (e57 J m w57_6 [M1]))))))) (fun J=>by kernel_rfl) (by simp only[jj_eq,ref01_fields_j3_eq m M1 rec1 h1];rfl)
theorem ref01_fields_j10_eq m:e57 jn m [1,1] [] s57_10=ref01_fields_j10 m (ref01_formed m):=
 tre (g:=fun J=>some true) (fun J=>by kernel_rfl) (by rfl)
theorem ref01_fields_l1_eq m:∀M1 x0 x1 x2,l57 jn m [1,0,1,0] [] M1 (s57_9 x0 x1 x2)=ref01_fields_l1 m (ref01_formed m) M1 x0 x1 x2
 |0,_,_,_=>rfl
 | M1+1,x0,x1,x2=>
   trl (g:=fun J=>(bif (decide (x1<(List.length (Dt.L x2 4):Int))) then
  (jj J 0 4 0 (s57_9 x0 x1 x2) (e57 J m w57_7 [M1]))
   else
  (jj J 0 12 0 s57_10 (e57 J m [1,1] [])))) (fun J=>by kernel_rfl) (by simp only[jj_eq,ref01_fields_j2_eq m M1 (ref01_fields_l1 m (ref01_formed m) M1) (ref01_fields_l1_eq m M1),ref01_fields_j10_eq m];rfl)
theorem ref01_fields_j0_eq m x0 x1 x2:e57 jn m [1,0,1] [] (s57_9 x0 x1 x2)=ref01_fields_j0 m (ref01_formed m) x0 x1 x2:=
 tre (g:=fun J=>(jj J 1 2 (Nat.succ m) (s57_9 x0 x1 x2) (l57 J m [1,0,1,0] [] (Nat.succ m)))) (fun J=>by kernel_rfl) (by simp only[jj_eq,ref01_fields_l1_eq m];rfl)
theorem ref01_fields_eq m a0 a1:e57 jn m [] [] ⟨[(.dat 25 a0),(.dat 4 (.bool a1))],[],0⟩=ref01_fields (m+1) a0 a1:=
 tre (g:=fun J=>(jj J 0 2 0 (s57_9 a1 0 a0) (e57 J m [1,0,1] []))) (fun J=>by kernel_rfl) (by simp only[jj_eq,ref01_fields_j0_eq m];rfl)
noncomputable def e47 (J:Nat→Nat→Nat→St→Option Bool→Option Bool) (m:Nat) (p ms:List Nat) (σ:St):=evAt Tryz.prog env (ct m) J (m+1) 65 15 Tryz.f65 d20 p ms σ
noncomputable def l47 (J:Nat→Nat→Nat→St→Option Bool→Option Bool) (m:Nat) (p ms:List Nat) (M:Nat) (σ:St):=loopAt Tryz.prog env (ct m) J (m+1) 65 15 Tryz.f65 d20 p ms M σ
theorem ref01_Valid_eq m a0:e47 jn m [] [] ⟨[(.dat 25 a0)],[],0⟩=ref01_Valid (m+1) a0:=
 tre (g:=fun J=>((ref01_Depth m a0).bind fun r0=>
  (bif (decide (r0≤16)) then
  ((ref01_Nodes m a0).bind fun r1=>
  (bif (decide (r1≤1024)) then
  ((ref01_formed m a0 true).bind fun r2=>
  some r2)
  else
  some false))
  else
  some false))) (fun J=>by kernel_rfl) (by rfl)
def w45_0:List Nat:=[1,0,1,0,1,1,1,1,1,1,1,0,1,1,1]
noncomputable def e45 (J:Nat→Nat→Nat→St→Option (Dt×Dt)→Option (Dt×Dt)) (m:Nat) (p ms:List Nat) (σ:St):=evAt Tryz.prog env (ct m) J (m+1) 54 47 Tryz.f54 d46 p ms σ
noncomputable def l45 (J:Nat→Nat→Nat→St→Option (Dt×Dt)→Option (Dt×Dt)) (m:Nat) (p ms:List Nat) (M:Nat) (σ:St):=loopAt Tryz.prog env (ct m) J (m+1) 54 47 Tryz.f54 d46 p ms M σ
noncomputable def s45_0 (x0 x1 x2:Dt):St:=⟨tsOf [(2,(.ptr 1 [] 0)),(4,(.ptr 2 [] 0))],[(.box 51 (.dat 51 x0)),(.box 25 (.dat 25 x1)),(.box 25 (.dat 25 x2))],1⟩
noncomputable def s45_1 (x0 x1:Dt):St:=⟨tsOf [(0,(.ptr 0 [] 0)),(2,(.ptr 1 [] 0))],[(.box 51 (.dat 51 x0)),(.box 25 (.dat 25 x1))],1⟩
theorem i45_j0_eq m x0 x1 x2:e45 jn m w45_0 [] (s45_0 x0 x1 x2)=i45_j0 m x0 x1 x2:=
 tre (g:=fun J=>some (x2,x0)) (fun J=>by kernel_rfl) (by rfl)
theorem i45_j1_eq m x0 x1:e45 jn m [1,1] [] (s45_1 x0 x1)=i45_j1 m x0 x1:=
 tre (g:=fun J=>((i48 m x0).bind fun r8=>
  some (r8.1,r8.2))) (fun J=>by kernel_rfl) (by rfl)
theorem i45_eq m a0:e45 jn m [] [] ⟨[(.ptr 0 [] 0)],[(.box 51 (.dat 51 a0))],1⟩=i45 (m+1) a0:=
 tre (g:=fun J=>((i29 m a0).bind fun r0=>
  (bif (r0.1==110) then
  ((i46 m (ByteArray.mk (List.toArray [110,117,108,108])) kz3c25e r0.2).bind fun r1=>
  some (r1.1,r1.2))
  else
  (bif (r0.1==116) then
  ((i46 m (ByteArray.mk (List.toArray [116,114,117,101])) kzb2fe3 r0.2).bind fun r2=>
  some (r2.1,r2.2))
  else
  (bif (r0.1==102) then
  ((i46 m (ByteArray.mk (List.toArray [102,97,108,115,101])) kzb0365 r0.2).bind fun r3=>
  some (r3.1,r3.2))
  else
  (bif (r0.1==34) then
  ((i37 m r0.2).bind fun r4=>
  (bif (decide (4096<(ByteArray.size r4.1:Int))) then
  ((i31 m 2 (Dt.I r0.2 1) r4.2).bind fun r5=>
  (jj J 0 15 0 (s45_0 r5 kza2373 (Dt.agg [(Dt.int 4),(Dt.int 0),(Dt.str r4.1),(Dt.lst []),(Dt.lst [])])) (e45 J m w45_0 [])))
  else
  ((ref01_Valid m (Dt.agg [(Dt.int 4),(Dt.int 0),(Dt.str r4.1),(Dt.lst []),(Dt.lst [])])).bind fun r6=>
  (bif (Bool.not r6) then
  ((i31 m 4 (Dt.I r0.2 1) r4.2).bind fun r7=>
  (jj J 0 15 0 (s45_0 r7 kza2373 (Dt.agg [(Dt.int 4),(Dt.int 0),(Dt.str r4.1),(Dt.lst []),(Dt.lst [])])) (e45 J m w45_0 [])))
  else
  (jj J 0 15 0 (s45_0 r4.2 kza2373 (Dt.agg [(Dt.int 4),(Dt.int 0),(Dt.str r4.1),(Dt.lst []),(Dt.lst [])])) (e45 J m w45_0 []))))))
  else
  (jj J 0 16 0 (s45_1 r0.2 kza2373) (e45 J m [1,1] [])))))))) (fun J=>by kernel_rfl) (by simp only[jj_eq,i45_j0_eq m,i45_j1_eq m];rfl)
def w28_0:List Nat:=[1,1,1,1,1]
noncomputable def e28 (J:Nat→Nat→Nat→St→Option (Dt×Dt)→Option (Dt×Dt)) (m:Nat) (p ms:List Nat) (σ:St):=evAt Tryz.prog env (ct m) J (m+1) 23 52 Tryz.f23 d46 p ms σ
noncomputable def l28 (J:Nat→Nat→Nat→St→Option (Dt×Dt)→Option (Dt×Dt)) (m:Nat) (p ms:List Nat) (M:Nat) (σ:St):=loopAt Tryz.prog env (ct m) J (m+1) 23 52 Tryz.f23 d46 p ms M σ
noncomputable def s28_4 (x0 x1:Dt):St:=⟨tsOf [(0,(.ptr 0 [] 0)),(6,(.ptr 1 [] 0))],[(.box 51 (.dat 51 x0)),(.box 25 (.dat 25 x1))],1⟩
noncomputable def s28_3 (x0:Int) (x1 x2:Dt):St:=⟨tsOf [(0,(.ptr 0 [] 0)),(1,(.dat 3 (.int x0))),(6,(.ptr 1 [] 0))],[(.box 51 (.dat 51 x1)),(.box 25 (.dat 25 x2))],1⟩
noncomputable def s28_1 (x0:Int) (x1:Bool) (x2 x3:Dt):St:=⟨tsOf [(0,(.ptr 0 [] 0)),(1,(.dat 3 (.int x0))),(6,(.ptr 1 [] 0)),(24,(.dat 4 (.bool x1)))],[(.box 51 (.dat 51 x2)),(.box 25 (.dat 25 x3))],1⟩
noncomputable def s28_0 (x0:Int) (x1:Bool) (x2 x3:Dt):St:=⟨tsOf [(0,(.ptr 0 [] 0)),(1,(.dat 3 (.int x0))),(2,(.dat 4 (.bool x1))),(6,(.ptr 1 [] 0))],[(.box 51 (.dat 51 x2)),(.box 25 (.dat 25 x3))],1⟩
theorem i28_j4_eq m x0 x1:e28 jn m w28_0 [] (s28_4 x0 x1)=i28_j4 m (i33 m) (i35 m) x0 x1:=
 tre (g:=fun J=>((i45 m x0).bind fun r7=>
  some (r7.1,r7.2))) (fun J=>by kernel_rfl) (by rfl)
theorem i28_j3_eq m x0 x1 x2:e28 jn m [1,1,1,1] [] (s28_3 x0 x1 x2)=i28_j3 m (i33 m) (i35 m) x0 x1 x2:=
 tre (g:=fun J=>((i29 m x1).bind fun r4=>
  (bif (r4.1==91) then
  ((i33 m x0 r4.2).bind fun r5=>
  some (r5.1,r5.2))
  else
  (bif (r4.1==123) then
  ((i35 m x0 r4.2).bind fun r6=>
  some (r6.1,r6.2))
  else
  (jj J 0 12 0 (s28_4 r4.2 x2) (e28 J m w28_0 [])))))) (fun J=>by kernel_rfl) (by simp only[jj_eq,i28_j4_eq m];rfl)
theorem i28_j2_eq m x0 x1 x2:e28 jn m [1,1,1] [] (s28_3 x0 x1 x2)=i28_j2 m (i33 m) (i35 m) x0 x1 x2:=
 tre (g:=fun J=>(bif ((Dt.I x1 3) !=0) then
  some (kza2373,x1)
   else
  (jj J 0 7 0 (s28_3 x0 x1 x2) (e28 J m [1,1,1,1] [])))) (fun J=>by kernel_rfl) (by simp only[jj_eq,i28_j3_eq m];rfl)
theorem i28_j1_eq m x0 x1 x2 x3:e28 jn m [1,1,0,1] [] (s28_1 x0 x1 x2 x3)=i28_j1 m (i33 m) (i35 m) x0 x1 x2 x3:=
 tre (g:=fun J=>(bif x1 then
  ((i32 m (Dt.I x2 1) x0 x2).bind fun r3=>
  (jj J 0 5 0 (s28_3 x0 r3 x3) (e28 J m [1,1,1] [])))
   else
  (jj J 0 5 0 (s28_3 x0 x2 x3) (e28 J m [1,1,1] [])))) (fun J=>by kernel_rfl) (by simp only[jj_eq,i28_j2_eq m];rfl)
theorem i28_j0_eq m x0 x1 x2 x3:e28 jn m [1,1] [] (s28_0 x0 x1 x2 x3)=i28_j0 m (i33 m) (i35 m) x0 x1 x2 x3:=
 tre (g:=fun J=>(bif x1 then
  (jj J 0 4 0 (s28_1 x0 ((Dt.I x2 3)==0) x2 x3) (e28 J m [1,1,0,1] []))
   else
  (jj J 0 4 0 (s28_1 x0 false x2 x3) (e28 J m [1,1,0,1] [])))) (fun J=>by kernel_rfl) (by simp only[jj_eq,i28_j1_eq m];rfl)
theorem i28_eq m a0 a1 a2:e28 jn m [] [] ⟨[(.ptr 0 [] 0),(.dat 3 (.int a0)),(.dat 4 (.bool a1))],[(.box 51 (.dat 51 a2))],1⟩=i28 (m+1) a0 a1 a2:=
 tre (g:=fun J=>((i29 m a2).bind fun r0=>
  ((ref05_opens m r0.1).bind fun r1=>
  (bif (Bool.not r1) then
  ((i31 m 4 (Dt.I r0.2 1) r0.2).bind fun r2=>
  (jj J 0 3 0 (s28_0 a0 a1 r2 kza2373) (e28 J m [1,1] [])))
  else
  (jj J 0 3 0 (s28_0 a0 a1 r0.2 kza2373) (e28 J m [1,1] [])))))) (fun J=>by kernel_rfl) (by simp only[jj_eq,i28_j0_eq m];rfl)
def w33_4:List Nat:=[1,1,1,1,1]
def w33_3:List Nat:=[1,1,1,1,1,1]
def w33_0:List Nat:=[1,1,1,1,1,0,0]
def w33_2:List Nat:=w33_0++[0,1]
def w33_1:List Nat:=w33_2++[0,1,1,1]
noncomputable def e33 (J:Nat→Nat→Nat→St→Option (Dt×Dt)→Option (Dt×Dt)) (m:Nat) (p ms:List Nat) (σ:St):=evAt Tryz.prog env (ct m) J (m+1) 52 56 Tryz.f52 d46 p ms σ
noncomputable def l33 (J:Nat→Nat→Nat→St→Option (Dt×Dt)→Option (Dt×Dt)) (m:Nat) (p ms:List Nat) (M:Nat) (σ:St):=loopAt Tryz.prog env (ct m) J (m+1) 52 56 Tryz.f52 d46 p ms M σ
noncomputable def s33_3 (x0:Int) (x1 x2:Dt) (x3 x4:Int) (x5:ByteArray) (x6 x7:List Dt):St:=⟨tsOf [(0,(.ptr 0 [] 0)),(1,(.dat 3 (.int x0))),(4,(.ptr 1 [] 0)),(5,(.ptr 2 [] 0))],[(.box 51 (.dat 51 x1)),(.box 25 (.dat 25 x2)),(.box 25 (.agg 25 [(.dat 3 (.int x3)),(.dat 3 (.int x4)),(.dat 9 (.str x5)),(.row 3),(.row 4)])),(.row 22 x6),(.row 23 x7)],1⟩
noncomputable def s33_4 (x0 x1:Dt) (x2 x3:Int) (x4:ByteArray) (x5 x6:List Dt):St:=⟨tsOf [(4,(.ptr 1 [] 0)),(5,(.ptr 2 [] 0))],[(.box 51 (.dat 51 x0)),(.box 25 (.dat 25 x1)),(.box 25 (.agg 25 [(.dat 3 (.int x2)),(.dat 3 (.int x3)),(.dat 9 (.str x4)),(.row 3),(.row 4)])),(.row 22 x5),(.row 23 x6)],1⟩
abbrev H33_1 (m M1:Nat) (rec1:Int→Dt→Dt→Int→Int→ByteArray→List Dt→List Dt→Option (Dt×Dt)):Prop:=∀x0 x1 x2 x3 x4 x5 x6 x7,l33 jn m w33_0 [] M1 (s33_3 x0 x1 x2 x3 x4 x5 x6 x7)=rec1 x0 x1 x2 x3 x4 x5 x6 x7
theorem i33_j3_eq m M1 rec1 (h1:H33_1 m M1 rec1) x0 x1 x2 x3 x4 x5 x6 x7:e33 jn m w33_1 [M1] (s33_3 x0 x1 x2 x3 x4 x5 x6 x7)=i33_j3 m (i28 m) rec1 x0 x1 x2 x3 x4 x5 x6 x7:=
 tre (g:=fun J=>((i34 m 44 x1).bind fun r7=>
  ((i27 m r7).bind fun r8=>
  (jj J 1 7 M1 (s33_3 x0 r8 x2 x3 x4 x5 x6 x7) (l33 J m w33_0 [] M1))))) (fun J=>by kernel_rfl) (by simp only[jj_eq,h1];rfl)
theorem i33_j2_eq m M1 rec1 (h1:H33_1 m M1 rec1) x0 x1 x2 x3 x4 x5 x6 x7:e33 jn m w33_2 [M1] (s33_3 x0 x1 x2 x3 x4 x5 x6 x7)=i33_j2 m (i28 m) rec1 x0 x1 x2 x3 x4 x5 x6 x7:=
 tre (g:=fun J=>((i28 m (IntKind.wrap .i64 (x0+1)) true x1).bind fun r3=>
  ((app x6 [r3.1]).bind fun v4=>
  ((i27 m r3.2).bind fun r5=>
  ((i29 m r5).bind fun r6=>
  (bif (r6.1==93) then
  some ((Dt.agg [(Dt.int x3),(Dt.int x4),(Dt.str x5),(Dt.lst v4),(Dt.lst x7)]),(Dt.agg [(Dt.str (Dt.S r6.2 0)),(Dt.int (IntKind.wrap .i64 ((Dt.I r6.2 1)+1))),(Dt.int (Dt.I r6.2 2)),(Dt.int (Dt.I r6.2 3)),(Dt.int (Dt.I r6.2 4))]))
  else
  (jj J 0 13 0 (s33_3 x0 r6.2 x2 x3 x4 x5 v4 x7) (e33 J m w33_1 [M1])))))))) (fun J=>by kernel_rfl) (by simp only[jj_eq,i33_j3_eq m M1 rec1 h1];rfl)
theorem i33_j4_eq m x0 x1 x2 x3 x4 x5 x6:e33 jn m w33_3 [] (s33_4 x0 x1 x2 x3 x4 x5 x6)=i33_j4 m (i28 m) x0 x1 x2 x3 x4 x5 x6:=
 tre (g:=fun J=>some ((Dt.agg [(Dt.int x2),(Dt.int x3),(Dt.str x4),(Dt.lst x5),(Dt.lst x6)]),x0)) (fun J=>by kernel_rfl) (by rfl)
theorem i33_l1_eq m:∀M1 x0 x1 x2 x3 x4 x5 x6 x7,l33 jn m w33_0 [] M1 (s33_3 x0 x1 x2 x3 x4 x5 x6 x7)=i33_l1 m (i28 m) M1 x0 x1 x2 x3 x4 x5 x6 x7
 |0,_,_,_,_,_,_,_,_=>rfl
 | M1+1,x0,x1,x2,x3,x4,x5,x6,x7=>
   trl (g:=fun J=>(bif ((Dt.I x1 3)==0) then
  (jj J 0 8 0 (s33_3 x0 x1 x2 x3 x4 x5 x6 x7) (e33 J m w33_2 [M1]))
   else
  (jj J 0 15 0 (s33_4 x1 x2 x3 x4 x5 x6 x7) (e33 J m w33_3 [])))) (fun J=>by kernel_rfl) (by simp only[jj_eq,i33_j2_eq m M1 (i33_l1 m (i28 m) M1) (i33_l1_eq m M1),i33_j4_eq m];rfl)
theorem i33_j0_eq m x0 x1 x2 x3 x4 x5 x6 x7:e33 jn m w33_4 [] (s33_3 x0 x1 x2 x3 x4 x5 x6 x7)=i33_j0 m (i28 m) x0 x1 x2 x3 x4 x5 x6 x7:=
 tre (g:=fun J=>(jj J 1 7 (Nat.succ m) (s33_3 x0 x1 x2 x3 x4 x5 x6 x7) (l33 J m w33_0 [] (Nat.succ m)))) (fun J=>by kernel_rfl) (by simp only[jj_eq,i33_l1_eq m];rfl)
theorem i33_eq m a0 a1:e33 jn m [] [] ⟨[(.ptr 0 [] 0),(.dat 3 (.int a0))],[(.box 51 (.dat 51 a1))],1⟩=i33 (m+1) a0 a1:=
 tre (g:=fun J=>((i34 m 91 a1).bind fun r0=>
  ((i27 m r0).bind fun r1=>
  ((i29 m r1).bind fun r2=>
  (bif (r2.1==93) then
  some (kz73e26,(Dt.agg [(Dt.str (Dt.S r2.2 0)),(Dt.int (IntKind.wrap .i64 ((Dt.I r2.2 1)+1))),(Dt.int (Dt.I r2.2 2)),(Dt.int (Dt.I r2.2 3)),(Dt.int (Dt.I r2.2 4))]))
  else
  (jj J 0 7 0 (s33_3 a0 r2.2 kza2373 6 0 (ByteArray.mk (List.toArray [])) [] []) (e33 J m w33_4 []))))))) (fun J=>by kernel_rfl) (by simp only[jj_eq,i33_j0_eq m];rfl)
def w35_9:List Nat:=[1,1,1,1,1]
def w35_8:List Nat:=[1,1,1,1,1,1]
def w35_0:List Nat:=[1,1,1,1,1,0,0]
def w35_7:List Nat:=w35_0++[0,1]
def w35_6:List Nat:=w35_7++[0,1,1,1,1,1,1,1]
def w35_4:List Nat:=w35_6++[1,1,1,1]
def w35_2:List Nat:=w35_4++[1]
def w35_5:List Nat:=w35_6++[1,1,1,0,1]
def w35_1:List Nat:=w35_2++[1]
def w35_3:List Nat:=w35_4++[0,1]
noncomputable def e35 (J:Nat→Nat→Nat→St→Option (Dt×Dt)→Option (Dt×Dt)) (m:Nat) (p ms:List Nat) (σ:St):=evAt Tryz.prog env (ct m) J (m+1) 53 161 Tryz.f53 d46 p ms σ
noncomputable def l35 (J:Nat→Nat→Nat→St→Option (Dt×Dt)→Option (Dt×Dt)) (m:Nat) (p ms:List Nat) (M:Nat) (σ:St):=loopAt Tryz.prog env (ct m) J (m+1) 53 161 Tryz.f53 d46 p ms M σ
noncomputable def s35_8 (x0:Int) (x1 x2:Dt) (x3 x4:Int) (x5:ByteArray) (x6 x7:List Dt):St:=⟨tsOf [(0,(.ptr 0 [] 0)),(1,(.dat 3 (.int x0))),(4,(.ptr 1 [] 0)),(5,(.ptr 2 [] 0))],[(.box 51 (.dat 51 x1)),(.box 25 (.dat 25 x2)),(.box 25 (.agg 25 [(.dat 3 (.int x3)),(.dat 3 (.int x4)),(.dat 9 (.str x5)),(.row 3),(.row 4)])),(.row 22 x6),(.row 23 x7)],1⟩
noncomputable def s35_7 (x0 x1:Int) (x2 x3:Dt) (x4 x5:Int) (x6:ByteArray) (x7 x8:List Dt):St:=⟨tsOf [(0,(.ptr 0 [] 0)),(1,(.dat 3 (.int x0))),(4,(.ptr 1 [] 0)),(5,(.ptr 2 [] 0)),(8,(.dat 5 (.int x1)))],[(.box 51 (.dat 51 x2)),(.box 25 (.dat 25 x3)),(.box 25 (.agg 25 [(.dat 3 (.int x4)),(.dat 3 (.int x5)),(.dat 9 (.str x6)),(.row 3),(.row 4)])),(.row 22 x7),(.row 23 x8)],1⟩
noncomputable def s35_6 (x0 x1 x2:Int) (x3:Bool) (x4 x5:Dt) (x6 x7:Int) (x8:ByteArray) (x9 x10:List Dt):St:=⟨tsOf [(0,(.ptr 0 [] 0)),(1,(.dat 3 (.int x0))),(4,(.ptr 1 [] 0)),(5,(.ptr 2 [] 0)),(7,(.dat 3 (.int x1))),(8,(.dat 5 (.int x2))),(147,(.dat 4 (.bool x3)))],[(.box 51 (.dat 51 x4)),(.box 25 (.dat 25 x5)),(.box 25 (.agg 25 [(.dat 3 (.int x6)),(.dat 3 (.int x7)),(.dat 9 (.str x8)),(.row 3),(.row 4)])),(.row 22 x9),(.row 23 x10)],1⟩
noncomputable def s35_5 (x0 x1 x2:Int) (x3:Bool) (x4 x5:Dt) (x6 x7:Int) (x8:ByteArray) (x9 x10:List Dt):St:=⟨tsOf [(0,(.ptr 0 [] 0)),(1,(.dat 3 (.int x0))),(4,(.ptr 1 [] 0)),(5,(.ptr 2 [] 0)),(7,(.dat 3 (.int x1))),(8,(.dat 5 (.int x2))),(9,(.dat 4 (.bool x3)))],[(.box 51 (.dat 51 x4)),(.box 25 (.dat 25 x5)),(.box 25 (.agg 25 [(.dat 3 (.int x6)),(.dat 3 (.int x7)),(.dat 9 (.str x8)),(.row 3),(.row 4)])),(.row 22 x9),(.row 23 x10)],1⟩
noncomputable def s35_4 (x0 x1 x2:Int) (x3 x4:Bool) (x5 x6:Dt) (x7 x8:Int) (x9:ByteArray) (x10 x11:List Dt):St:=⟨tsOf [(0,(.ptr 0 [] 0)),(1,(.dat 3 (.int x0))),(4,(.ptr 1 [] 0)),(5,(.ptr 2 [] 0)),(7,(.dat 3 (.int x1))),(8,(.dat 5 (.int x2))),(9,(.dat 4 (.bool x3))),(115,(.dat 4 (.bool x4)))],[(.box 51 (.dat 51 x5)),(.box 25 (.dat 25 x6)),(.box 25 (.agg 25 [(.dat 3 (.int x7)),(.dat 3 (.int x8)),(.dat 9 (.str x9)),(.row 3),(.row 4)])),(.row 22 x10),(.row 23 x11)],1⟩
noncomputable def s35_3 (x0:Int) (x1:ByteArray) (x2:Int) (x3:Bool) (x4 x5:Dt) (x6 x7:Int) (x8:ByteArray) (x9 x10:List Dt):St:=⟨tsOf [(0,(.ptr 0 [] 0)),(1,(.dat 3 (.int x0))),(4,(.ptr 1 [] 0)),(5,(.ptr 2 [] 0)),(6,(.dat 9 (.str x1))),(7,(.dat 3 (.int x2))),(9,(.dat 4 (.bool x3)))],[(.box 51 (.dat 51 x4)),(.box 25 (.dat 25 x5)),(.box 25 (.agg 25 [(.dat 3 (.int x6)),(.dat 3 (.int x7)),(.dat 9 (.str x8)),(.row 3),(.row 4)])),(.row 22 x9),(.row 23 x10)],1⟩
noncomputable def s35_9 (x0 x1:Dt) (x2 x3:Int) (x4:ByteArray) (x5 x6:List Dt):St:=⟨tsOf [(4,(.ptr 1 [] 0)),(5,(.ptr 2 [] 0))],[(.box 51 (.dat 51 x0)),(.box 25 (.dat 25 x1)),(.box 25 (.agg 25 [(.dat 3 (.int x2)),(.dat 3 (.int x3)),(.dat 9 (.str x4)),(.row 3),(.row 4)])),(.row 22 x5),(.row 23 x6)],1⟩
abbrev H35_1 (m M1:Nat) (rec1:Int→Dt→Dt→Int→Int→ByteArray→List Dt→List Dt→Option (Dt×Dt)):Prop:=∀x0 x1 x2 x3 x4 x5 x6 x7,l35 jn m w35_0 [] M1 (s35_8 x0 x1 x2 x3 x4 x5 x6 x7)=rec1 x0 x1 x2 x3 x4 x5 x6 x7
theorem i35_j8_eq m M1 rec1 (h1:H35_1 m M1 rec1) x0 x1 x2 x3 x4 x5 x6 x7:e35 jn m w35_1 [M1] (s35_8 x0 x1 x2 x3 x4 x5 x6 x7)=i35_j8 m (i28 m) rec1 x0 x1 x2 x3 x4 x5 x6 x7:=
 tre (g:=fun J=>((i34 m 44 x1).bind fun r14=>
  ((i27 m r14).bind fun r15=>
  (jj J 1 7 M1 (s35_8 x0 r15 x2 x3 x4 x5 x6 x7) (l35 J m w35_0 [] M1))))) (fun J=>by kernel_rfl) (by simp only[jj_eq,h1];rfl)
theorem i35_j7_eq m M1 rec1 (h1:H35_1 m M1 rec1) x0 x1 x2 x3 x4 x5 x6 x7 x8:e35 jn m w35_2 [M1] (s35_7 x0 x1 x2 x3 x4 x5 x6 x7 x8)=i35_j7 m (i28 m) rec1 x0 x1 x2 x3 x4 x5 x6 x7 x8:=
 tre (g:=fun J=>(bif (x1==125) then
  some ((Dt.agg [(Dt.int x4),(Dt.int x5),(Dt.str x6),(Dt.lst x7),(Dt.lst x8)]),x2)
   else
  (jj J 0 27 0 (s35_8 x0 x2 x3 x4 x5 x6 x7 x8) (e35 J m w35_1 [M1])))) (fun J=>by kernel_rfl) (by simp only[jj_eq,i35_j8_eq m M1 rec1 h1];rfl)
theorem i35_j6_eq m M1 rec1 (h1:H35_1 m M1 rec1) x0 x1 x2 x3 x4 x5 x6 x7 x8 x9 x10:e35 jn m w35_3 [M1] (s35_6 x0 x1 x2 x3 x4 x5 x6 x7 x8 x9 x10)=i35_j6 m (i28 m) rec1 x0 x1 x2 x3 x4 x5 x6 x7 x8 x9 x10:=
 tre (g:=fun J=>(bif x3 then
  ((i32 m x1 (IntKind.wrap .i64 (x0+1)) x4).bind fun r13=>
  (jj J 0 25 0 (s35_7 x0 x2 r13 x5 x6 x7 x8 x9 x10) (e35 J m w35_2 [M1])))
   else
  (jj J 0 25 0 (s35_7 x0 x2 x4 x5 x6 x7 x8 x9 x10) (e35 J m w35_2 [M1])))) (fun J=>by kernel_rfl) (by simp only[jj_eq,i35_j7_eq m M1 rec1 h1];rfl)
theorem i35_j5_eq m M1 rec1 (h1:H35_1 m M1 rec1) x0 x1 x2 x3 x4 x5 x6 x7 x8 x9 x10:e35 jn m w35_4 [M1] (s35_5 x0 x1 x2 x3 x4 x5 x6 x7 x8 x9 x10)=i35_j5 m (i28 m) rec1 x0 x1 x2 x3 x4 x5 x6 x7 x8 x9 x10:=
 tre (g:=fun J=>(bif ((Dt.I x4 3)==0) then
  (bif x3 then
  (bif (x2==125) then
  (jj J 0 24 0 (s35_6 x0 x1 x2 true x4 x5 x6 x7 x8 x9 x10) (e35 J m w35_3 [M1]))
  else
  (jj J 0 24 0 (s35_6 x0 x1 x2 (x2==44) x4 x5 x6 x7 x8 x9 x10) (e35 J m w35_3 [M1])))
  else
  (jj J 0 24 0 (s35_6 x0 x1 x2 false x4 x5 x6 x7 x8 x9 x10) (e35 J m w35_3 [M1])))
   else
  (jj J 0 24 0 (s35_6 x0 x1 x2 false x4 x5 x6 x7 x8 x9 x10) (e35 J m w35_3 [M1])))) (fun J=>by kernel_rfl) (by simp only[jj_eq,i35_j6_eq m M1 rec1 h1];rfl)
theorem i35_j4_eq m M1 rec1 (h1:H35_1 m M1 rec1) x0 x1 x2 x3 x4 x5 x6 x7 x8 x9 x10 x11:e35 jn m w35_5 [M1] (s35_4 x0 x1 x2 x3 x4 x5 x6 x7 x8 x9 x10 x11)=i35_j4 m (i28 m) rec1 x0 x1 x2 x3 x4 x5 x6 x7 x8 x9 x10 x11:=
 tre (g:=fun J=>(bif x4 then
  ((i43 m x11).bind fun r12=>
  (bif r12.2.1 then
  some (r12.1,(Dt.agg [(Dt.str (Dt.S x5 0)),(Dt.int (IntKind.wrap .i64 ((Dt.I x5 1)+1))),(Dt.int (Dt.I x5 2)),(Dt.int (Dt.I x5 3)),(Dt.int (Dt.I x5 4))]))
  else
  (jj J 0 23 0 (s35_5 x0 x1 x2 x3 (Dt.agg [(Dt.str (Dt.S x5 0)),(Dt.int (IntKind.wrap .i64 ((Dt.I x5 1)+1))),(Dt.int (Dt.I x5 2)),(Dt.int (Dt.I x5 3)),(Dt.int (Dt.I x5 4))]) x6 x7 x8 x9 x10 r12.2.2) (e35 J m w35_4 [M1]))))
   else
  (jj J 0 23 0 (s35_5 x0 x1 x2 x3 x5 x6 x7 x8 x9 x10 x11) (e35 J m w35_4 [M1])))) (fun J=>by kernel_rfl) (by simp only[jj_eq,i35_j5_eq m M1 rec1 h1];rfl)
theorem i35_j3_eq m M1 rec1 (h1:H35_1 m M1 rec1) x0 x1 x2 x3 x4 x5 x6 x7 x8 x9 x10:e35 jn m w35_6 [M1] (s35_3 x0 x1 x2 x3 x4 x5 x6 x7 x8 x9 x10)=i35_j3 m (i28 m) rec1 x0 x1 x2 x3 x4 x5 x6 x7 x8 x9 x10:=
 tre (g:=fun J=>((i28 m (IntKind.wrap .i64 (x0+1)) (Bool.not x3) x4).bind fun r8=>
  ((app x10 [(Dt.agg [(Dt.str x1),r8.1])]).bind fun v9=>
  ((i27 m r8.2).bind fun r10=>
  ((i29 m r10).bind fun r11=>
  (bif ((Dt.I r11.2 3)==0) then
  (jj J 0 19 0 (s35_4 x0 x2 r11.1 x3 (r11.1==125) r11.2 x5 x6 x7 x8 x9 v9) (e35 J m w35_5 [M1]))
  else
  (jj J 0 19 0 (s35_4 x0 x2 r11.1 x3 false r11.2 x5 x6 x7 x8 x9 v9) (e35 J m w35_5 [M1])))))))) (fun J=>by kernel_rfl) (by simp only[jj_eq,i35_j4_eq m M1 rec1 h1];rfl)
theorem i35_j2_eq m M1 rec1 (h1:H35_1 m M1 rec1) x0 x1 x2 x3 x4 x5 x6 x7:e35 jn m w35_7 [M1] (s35_8 x0 x1 x2 x3 x4 x5 x6 x7)=i35_j2 m (i28 m) rec1 x0 x1 x2 x3 x4 x5 x6 x7:=
 tre (g:=fun J=>((i36 m x1 x7).bind fun r3=>
  ((i27 m r3.2.1).bind fun r4=>
  ((i34 m 58 r4).bind fun r5=>
  ((i27 m r5).bind fun r6=>
  ((i29 m r6).bind fun r7=>
  (bif ((List.length r3.2.2:Int)==0) then
  (bif ((ByteArray.toList r3.1)==[36,105,100]) then
  (bif (r7.1==34) then
  (jj J 0 15 0 (s35_3 x0 r3.1 (Dt.I r6 1) true r7.2 x2 x3 x4 x5 x6 r3.2.2) (e35 J m w35_6 [M1]))
  else
  (bif (r7.1==45) then
  (jj J 0 15 0 (s35_3 x0 r3.1 (Dt.I r6 1) true r7.2 x2 x3 x4 x5 x6 r3.2.2) (e35 J m w35_6 [M1]))
  else
  (bif (decide (48≤r7.1)) then
  (jj J 0 15 0 (s35_3 x0 r3.1 (Dt.I r6 1) (decide (r7.1≤57)) r7.2 x2 x3 x4 x5 x6 r3.2.2) (e35 J m w35_6 [M1]))
  else
  (jj J 0 15 0 (s35_3 x0 r3.1 (Dt.I r6 1) false r7.2 x2 x3 x4 x5 x6 r3.2.2) (e35 J m w35_6 [M1])))))
  else
  (bif ((ByteArray.toList r3.1)==[36,98,121,116,101,115]) then
  (bif (r7.1==34) then
  (jj J 0 15 0 (s35_3 x0 r3.1 (Dt.I r6 1) true r7.2 x2 x3 x4 x5 x6 r3.2.2) (e35 J m w35_6 [M1]))
  else
  (bif (r7.1==45) then
  (jj J 0 15 0 (s35_3 x0 r3.1 (Dt.I r6 1) true r7.2 x2 x3 x4 x5 x6 r3.2.2) (e35 J m w35_6 [M1]))
  else
  (bif (decide (48≤r7.1)) then
  (jj J 0 15 0 (s35_3 x0 r3.1 (Dt.I r6 1) (decide (r7.1≤57)) r7.2 x2 x3 x4 x5 x6 r3.2.2) (e35 J m w35_6 [M1]))
  else
  (jj J 0 15 0 (s35_3 x0 r3.1 (Dt.I r6 1) false r7.2 x2 x3 x4 x5 x6 r3.2.2) (e35 J m w35_6 [M1])))))
  else
  (bif ((ByteArray.toList r3.1)==[36,116,105,109,101]) then
  (bif (r7.1==34) then
  (jj J 0 15 0 (s35_3 x0 r3.1 (Dt.I r6 1) true r7.2 x2 x3 x4 x5 x6 r3.2.2) (e35 J m w35_6 [M1]))
  else
  (bif (r7.1==45) then
  (jj J 0 15 0 (s35_3 x0 r3.1 (Dt.I r6 1) true r7.2 x2 x3 x4 x5 x6 r3.2.2) (e35 J m w35_6 [M1]))
  else
  (bif (decide (48≤r7.1)) then
  (jj J 0 15 0 (s35_3 x0 r3.1 (Dt.I r6 1) (decide (r7.1≤57)) r7.2 x2 x3 x4 x5 x6 r3.2.2) (e35 J m w35_6 [M1]))
  else
  (jj J 0 15 0 (s35_3 x0 r3.1 (Dt.I r6 1) false r7.2 x2 x3 x4 x5 x6 r3.2.2) (e35 J m w35_6 [M1])))))
  else
  (bif ((ByteArray.toList r3.1)==[36,109,105,110]) then
  (bif (r7.1==34) then
  (jj J 0 15 0 (s35_3 x0 r3.1 (Dt.I r6 1) true r7.2 x2 x3 x4 x5 x6 r3.2.2) (e35 J m w35_6 [M1]))
  else
  (bif (r7.1==45) then
  (jj J 0 15 0 (s35_3 x0 r3.1 (Dt.I r6 1) true r7.2 x2 x3 x4 x5 x6 r3.2.2) (e35 J m w35_6 [M1]))
  else
  (bif (decide (48≤r7.1)) then
  (jj J 0 15 0 (s35_3 x0 r3.1 (Dt.I r6 1) (decide (r7.1≤57)) r7.2 x2 x3 x4 x5 x6 r3.2.2) (e35 J m w35_6 [M1]))
  else
  (jj J 0 15 0 (s35_3 x0 r3.1 (Dt.I r6 1) false r7.2 x2 x3 x4 x5 x6 r3.2.2) (e35 J m w35_6 [M1])))))
  else
  (bif ((ByteArray.toList r3.1)==[36,109,97,120]) then
  (bif (r7.1==34) then
  (jj J 0 15 0 (s35_3 x0 r3.1 (Dt.I r6 1) true r7.2 x2 x3 x4 x5 x6 r3.2.2) (e35 J m w35_6 [M1]))
  else
  (bif (r7.1==45) then
  (jj J 0 15 0 (s35_3 x0 r3.1 (Dt.I r6 1) true r7.2 x2 x3 x4 x5 x6 r3.2.2) (e35 J m w35_6 [M1]))
  else
  (bif (decide (48≤r7.1)) then
  (jj J 0 15 0 (s35_3 x0 r3.1 (Dt.I r6 1) (decide (r7.1≤57)) r7.2 x2 x3 x4 x5 x6 r3.2.2) (e35 J m w35_6 [M1]))
  else
  (jj J 0 15 0 (s35_3 x0 r3.1 (Dt.I r6 1) false r7.2 x2 x3 x4 x5 x6 r3.2.2) (e35 J m w35_6 [M1])))))
  else
  (jj J 0 15 0 (s35_3 x0 r3.1 (Dt.I r6 1) false r7.2 x2 x3 x4 x5 x6 r3.2.2) (e35 J m w35_6 [M1])))))))
  else
  (jj J 0 15 0 (s35_3 x0 r3.1 (Dt.I r6 1) false r7.2 x2 x3 x4 x5 x6 r3.2.2) (e35 J m w35_6 [M1]))))))))) (fun J=>by kernel_rfl) (by simp only[jj_eq,i35_j3_eq m M1 rec1 h1];rfl)
theorem i35_j9_eq m x0 x1 x2 x3 x4 x5 x6:e35 jn m w35_8 [] (s35_9 x0 x1 x2 x3 x4 x5 x6)=i35_j9 m (i28 m) x0 x1 x2 x3 x4 x5 x6:=
 tre (g:=fun J=>some ((Dt.agg [(Dt.int x2),(Dt.int x3),(Dt.str x4),(Dt.lst x5),(Dt.lst x6)]),x0)) (fun J=>by kernel_rfl) (by rfl)
theorem i35_l1_eq m:∀M1 x0 x1 x2 x3 x4 x5 x6 x7,l35 jn m w35_0 [] M1 (s35_8 x0 x1 x2 x3 x4 x5 x6 x7)=i35_l1 m (i28 m) M1 x0 x1 x2 x3 x4 x5 x6 x7
 |0,_,_,_,_,_,_,_,_=>rfl
 | M1+1,x0,x1,x2,x3,x4,x5,x6,x7=>
   trl (g:=fun J=>(bif ((Dt.I x1 3)==0) then
  (jj J 0 8 0 (s35_8 x0 x1 x2 x3 x4 x5 x6 x7) (e35 J m w35_7 [M1]))
   else
  (jj J 0 29 0 (s35_9 x1 x2 x3 x4 x5 x6 x7) (e35 J m w35_8 [])))) (fun J=>by kernel_rfl) (by simp only[jj_eq,i35_j2_eq m M1 (i35_l1 m (i28 m) M1) (i35_l1_eq m M1),i35_j9_eq m];rfl)
theorem i35_j0_eq m x0 x1 x2 x3 x4 x5 x6 x7:e35 jn m w35_9 [] (s35_8 x0 x1 x2 x3 x4 x5 x6 x7)=i35_j0 m (i28 m) x0 x1 x2 x3 x4 x5 x6 x7:=
 tre (g:=fun J=>(jj J 1 7 (Nat.succ m) (s35_8 x0 x1 x2 x3 x4 x5 x6 x7) (l35 J m w35_0 [] (Nat.succ m)))) (fun J=>by kernel_rfl) (by simp only[jj_eq,i35_l1_eq m];rfl)
theorem i35_eq m a0 a1:e35 jn m [] [] ⟨[(.ptr 0 [] 0),(.dat 3 (.int a0))],[(.box 51 (.dat 51 a1))],1⟩=i35 (m+1) a0 a1:=
 tre (g:=fun J=>((i34 m 123 a1).bind fun r0=>
  ((i27 m r0).bind fun r1=>
  ((i29 m r1).bind fun r2=>
  (bif (r2.1==125) then
  some (kze9562,(Dt.agg [(Dt.str (Dt.S r2.2 0)),(Dt.int (IntKind.wrap .i64 ((Dt.I r2.2 1)+1))),(Dt.int (Dt.I r2.2 2)),(Dt.int (Dt.I r2.2 3)),(Dt.int (Dt.I r2.2 4))]))
  else
  (jj J 0 7 0 (s35_8 a0 r2.2 kza2373 5 0 (ByteArray.mk (List.toArray [])) [] []) (e35 J m w35_9 []))))))) (fun J=>by kernel_rfl) (by simp only[jj_eq,i35_j0_eq m];rfl)
def w3_1:List Nat:=[1,1,1,1,1,1]
def w3_0:List Nat:=w3_1++[1]
def w3_2:List Nat:=[1,1,1,1,1,0,1]
noncomputable def e3 (J:Nat→Nat→Nat→St→Option (Dt×Int×Int)→Option (Dt×Int×Int)) (m:Nat) (p ms:List Nat) (σ:St):=evAt Tryz.prog env (ct m) J (m+1) 10 34 Tryz.f10 d2 p ms σ
noncomputable def l3 (J:Nat→Nat→Nat→St→Option (Dt×Int×Int)→Option (Dt×Int×Int)) (m:Nat) (p ms:List Nat) (M:Nat) (σ:St):=loopAt Tryz.prog env (ct m) J (m+1) 10 34 Tryz.f10 d2 p ms M σ
noncomputable def s3_2 (x0 x1:Dt):St:=⟨tsOf [(2,(.ptr 0 [] 0)),(6,(.ptr 1 [] 0))],[(.box 25 (.dat 25 x0)),(.box 25 (.dat 25 x1))],0⟩
noncomputable def s3_1 (x0 x1 x2:Dt):St:=⟨tsOf [(2,(.ptr 0 [] 0)),(5,(.ptr 1 [] 0)),(6,(.ptr 2 [] 0))],[(.box 25 (.dat 25 x0)),(.box 51 (.dat 51 x1)),(.box 25 (.dat 25 x2))],0⟩
noncomputable def s3_0 (x0:Bool) (x1 x2 x3:Dt):St:=⟨tsOf [(2,(.ptr 0 [] 0)),(5,(.ptr 1 [] 0)),(6,(.ptr 2 [] 0)),(21,(.dat 4 (.bool x0)))],[(.box 25 (.dat 25 x1)),(.box 51 (.dat 51 x2)),(.box 25 (.dat 25 x3))],0⟩
theorem ref05_Parse_j2_eq m x0 x1:e3 jn m w3_0 [] (s3_2 x0 x1)=ref05_Parse_j2 m x0 x1:=
 tre (g:=fun J=>some (x1,0,0)) (fun J=>by kernel_rfl) (by rfl)
theorem ref05_Parse_j1_eq m x0 x1 x2:e3 jn m w3_1 [] (s3_1 x0 x1 x2)=ref05_Parse_j1 m x0 x1 x2:=
 tre (g:=fun J=>(bif ((Dt.I x1 3) !=0) then
  some (kza2373,(Dt.I x1 4),(Dt.I x1 3))
   else
  (jj J 0 9 0 (s3_2 x0 x2) (e3 J m w3_0 [])))) (fun J=>by kernel_rfl) (by simp only[jj_eq,ref05_Parse_j2_eq m];rfl)
theorem ref05_Parse_j0_eq m x0 x1 x2 x3:e3 jn m w3_2 [] (s3_0 x0 x1 x2 x3)=ref05_Parse_j0 m x0 x1 x2 x3:=
 tre (g:=fun J=>(bif x0 then
  ((i31 m 4 (Dt.I x2 1) x2).bind fun r3=>
  (jj J 0 7 0 (s3_1 x1 r3 x3) (e3 J m w3_1 [])))
   else
  (jj J 0 7 0 (s3_1 x1 x2 x3) (e3 J m w3_1 [])))) (fun J=>by kernel_rfl) (by simp only[jj_eq,ref05_Parse_j1_eq m];rfl)
theorem ref05_Parse_eq m a0:e3 jn m [] [] ⟨[(.dat 9 (.str a0))],[],0⟩=ref05_Parse (m+1) a0:=
 tre (g:=fun J=>((i27 m (Dt.agg [(Dt.str a0),(Dt.int 0),(Dt.int 0),(Dt.int 0),(Dt.int 0)])).bind fun r0=>
  ((i28 m 1 true r0).bind fun r1=>
  ((i27 m r1.2).bind fun r2=>
  (bif ((Dt.I r2 3)==0) then
  (jj J 0 6 0 (s3_0 (decide ((Dt.I r2 1)<(ByteArray.size a0:Int))) kza2373 r2 r1.1) (e3 J m w3_2 []))
  else
  (jj J 0 6 0 (s3_0 false kza2373 r2 r1.1) (e3 J m w3_2 []))))))) (fun J=>by kernel_rfl) (by simp only[jj_eq,ref05_Parse_j0_eq m];rfl)
noncomputable def e0 (J:Nat→Nat→Nat→St→Option Bool→Option Bool) (m:Nat) (p ms:List Nat) (σ:St):=evAt Tryz.prog env (ct m) J (m+1) 4 41 Tryz.f4 d20 p ms σ
noncomputable def l0 (J:Nat→Nat→Nat→St→Option Bool→Option Bool) (m:Nat) (p ms:List Nat) (M:Nat) (σ:St):=loopAt Tryz.prog env (ct m) J (m+1) 4 41 Tryz.f4 d20 p ms M σ
noncomputable def s0_0 (x0:ByteArray):St:=⟨tsOf [(0,(.dat 9 (.str x0)))],[],0⟩
theorem law05_NotationParses_j0_eq m x0:e0 jn m [1,1] [] (s0_0 x0)=law05_NotationParses_j0 m x0:=
 tre (g:=fun J=>((notation_Parse m x0).bind fun r1=>
  ((ref05_Parse m x0).bind fun r2=>
  ((ref05_Same m r1.1 r2.1).bind fun r3=>
  (bif r3 then
  (bif (r1.2.1==r2.2.1) then
  (bif (r1.2.2==r2.2.2) then
  ((awakeC).bind fun r4=>
  some r4)
  else
  some false)
  else
  some false)
  else
  some false))))) (fun J=>by kernel_rfl) (by rfl)
theorem law05_NotationParses_eq m a0:e0 jn m [] [] ⟨[(.dat 9 (.str a0))],[],0⟩=law05_NotationParses (m+1) a0:=
 tre (g:=fun J=>(bif (decide (10000<(ByteArray.size a0:Int))) then
  ((awakeC).bind fun r0=>
  some r0)
   else
  (jj J 0 3 0 (s0_0 a0) (e0 J m [1,1] [])))) (fun J=>by kernel_rfl) (by simp only[jj_eq,law05_NotationParses_j0_eq m];rfl)
end Go.Proofs.YtmejbpmceflcjaaGreatDoor
