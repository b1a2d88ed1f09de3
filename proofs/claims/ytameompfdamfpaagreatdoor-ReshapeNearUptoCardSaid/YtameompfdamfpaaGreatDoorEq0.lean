/- Generated: each function's run in the abstract machine is its shallow function. -/
import Derived.Test.YtameompfdamfpaaGreatDoorCt
import Derived.Test.YtameompfdamfpaaGreatDoorAmEnv
import Derived.KernelRfl
set_option linter.unusedVariables false
set_option linter.unusedSimpArgs false
namespace Go.Proofs.YtameompfdamfpaaGreatDoor
open Go.Am
set_option maxRecDepth 100000
def w5_0:List Nat:=[1,1,0,1,0]
def w5_2:List Nat:=[1,1,0,1,0,0,1,1]
def w5_1:List Nat:=w5_2++[1]
noncomputable def e5 (J:Nat→Nat→Nat→St→Option Bool→Option Bool) (m:Nat) (p ms:List Nat) (σ:St):=evAt Tryz.prog env (ct m) J (m+1) 14 27 Tryz.f14 d5 p ms σ
noncomputable def l5 (J:Nat→Nat→Nat→St→Option Bool→Option Bool) (m:Nat) (p ms:List Nat) (M:Nat) (σ:St):=loopAt Tryz.prog env (ct m) J (m+1) 14 27 Tryz.f14 d5 p ms M σ
noncomputable def s5_4 (x0 x1:List Dt) (x2 x3:Int):St:=⟨tsOf [(0,(.dat 23 (.lst x0))),(1,(.dat 23 (.lst x1))),(12,(.dat 3 (.int x2))),(13,(.dat 3 (.int x3)))],[],0⟩
noncomputable def s5_5:St:=⟨tsOf [],[],0⟩
noncomputable def s5_0 (x0 x1:List Dt):St:=⟨tsOf [(0,(.dat 23 (.lst x0))),(1,(.dat 23 (.lst x1)))],[],0⟩
abbrev H5_2 (m M2:Nat) (rec2:List Dt→List Dt→Int→Int→Option Bool):Prop:=∀x0 x1 x2 x3,l5 jn m w5_0 [] M2 (s5_4 x0 x1 x2 x3)=rec2 x0 x1 x2 x3
theorem law03_SameList_j4_eq m M2 rec2 (h2:H5_2 m M2 rec2) x0 x1 x2 x3:e5 jn m w5_1 [M2] (s5_4 x0 x1 x2 x3)=law03_SameList_j4 m (law03_Same m) rec2 x0 x1 x2 x3:=
 tre (g:=fun J=>(jj J 1 4 M2 (s5_4 x0 x1 x2 (IntKind.wrap .i64 (x3+1))) (l5 J m w5_0 [] M2))) (fun J=>by kernel_rfl) (by simp only[jj_eq,h2];rfl)
theorem law03_SameList_j3_eq m M2 rec2 (h2:H5_2 m M2 rec2) x0 x1 x2 x3:e5 jn m w5_2 [M2] (s5_4 x0 x1 x2 x3)=law03_SameList_j3 m (law03_Same m) rec2 x0 x1 x2 x3:=
 tre (g:=fun J=>((idx x0 x3).bind fun v0=>
  ((idx x1 x3).bind fun v1=>
  ((law03_Same m v0 v1).bind fun r2=>
  (bif (Bool.not r2) then
  some false
  else
  (jj J 0 8 0 (s5_4 x0 x1 x2 x3) (e5 J m w5_1 [M2]))))))) (fun J=>by kernel_rfl) (by simp only[jj_eq,law03_SameList_j4_eq m M2 rec2 h2];rfl)
theorem law03_SameList_j5_eq m:e5 jn m [1,1,1] [] s5_5=law03_SameList_j5 m (law03_Same m):=
 tre (g:=fun J=>some true) (fun J=>by kernel_rfl) (by rfl)
theorem law03_SameList_l2_eq m:∀M2 x0 x1 x2 x3,l5 jn m w5_0 [] M2 (s5_4 x0 x1 x2 x3)=law03_SameList_l2 m (law03_Same m) M2 x0 x1 x2 x3
 |0,_,_,_,_=>rfl
 | M2+1,x0,x1,x2,x3=>
   trl (g:=fun J=>(bif (decide (x3<x2)) then
  (jj J 0 5 0 (s5_4 x0 x1 x2 x3) (e5 J m w5_2 [M2]))
   else
  (jj J 0 9 0 s5_5 (e5 J m [1,1,1] [])))) (fun J=>by kernel_rfl) (by simp only[jj_eq,law03_SameList_j3_eq m M2 (law03_SameList_l2 m (law03_Same m) M2) (law03_SameList_l2_eq m M2),law03_SameList_j5_eq m];rfl)
theorem law03_SameList_j1_eq m x0 x1 x2 x3:e5 jn m [1,1,0,1] [] (s5_4 x0 x1 x2 x3)=law03_SameList_j1 m (law03_Same m) x0 x1 x2 x3:=
 tre (g:=fun J=>(jj J 1 4 (Nat.succ m) (s5_4 x0 x1 x2 x3) (l5 J m w5_0 [] (Nat.succ m)))) (fun J=>by kernel_rfl) (by simp only[jj_eq,law03_SameList_l2_eq m];rfl)
theorem law03_SameList_j0_eq m x0 x1:e5 jn m [1,1] [] (s5_0 x0 x1)=law03_SameList_j0 m (law03_Same m) x0 x1:=
 tre (g:=fun J=>(jj J 0 4 0 (s5_4 x0 x1 (List.length x0:Int) 0) (e5 J m [1,1,0,1] []))) (fun J=>by kernel_rfl) (by simp only[jj_eq,law03_SameList_j1_eq m];rfl)
theorem law03_SameList_eq m a0 a1:e5 jn m [] [] ⟨[(.dat 23 (.lst a0)),(.dat 23 (.lst a1))],[],0⟩=law03_SameList (m+1) a0 a1:=
 tre (g:=fun J=>(bif ((List.length a0:Int) !=(List.length a1:Int)) then
  some false
   else
  (jj J 0 3 0 (s5_0 a0 a1) (e5 J m [1,1] [])))) (fun J=>by kernel_rfl) (by simp only[jj_eq,law03_SameList_j0_eq m];rfl)
def w27_0:List Nat:=[1,1,0,1,0]
def w27_3:List Nat:=[1,1,0,1,0,0,1,1]
def w27_1:List Nat:=w27_3++[1]
def w27_2:List Nat:=w27_3++[0,0,1,1]
noncomputable def e27 (J:Nat→Nat→Nat→St→Option Bool→Option Bool) (m:Nat) (p ms:List Nat) (σ:St):=evAt Tryz.prog env (ct m) J (m+1) 46 75 Tryz.f46 d5 p ms σ
noncomputable def l27 (J:Nat→Nat→Nat→St→Option Bool→Option Bool) (m:Nat) (p ms:List Nat) (M:Nat) (σ:St):=loopAt Tryz.prog env (ct m) J (m+1) 46 75 Tryz.f46 d5 p ms M σ
noncomputable def s27_6 (x0 x1:Int) (x2 x3:Dt):St:=⟨tsOf [(2,(.ptr 0 [] 0)),(3,(.ptr 1 [] 0)),(36,(.dat 3 (.int x0))),(37,(.dat 3 (.int x1)))],[(.box 33 (.dat 33 x2)),(.box 33 (.dat 33 x3))],0⟩
noncomputable def s27_5 (x0 x1:Int) (x2:Bool) (x3 x4:Dt):St:=⟨tsOf [(2,(.ptr 0 [] 0)),(3,(.ptr 1 [] 0)),(36,(.dat 3 (.int x0))),(37,(.dat 3 (.int x1))),(68,(.dat 4 (.bool x2)))],[(.box 33 (.dat 33 x3)),(.box 33 (.dat 33 x4))],0⟩
noncomputable def s27_7 (x0 x1:Dt):St:=⟨tsOf [(2,(.ptr 0 [] 0)),(3,(.ptr 1 [] 0))],[(.box 33 (.dat 33 x0)),(.box 33 (.dat 33 x1))],0⟩
noncomputable def s27_0 (x0:Bool) (x1 x2:Dt):St:=⟨tsOf [(2,(.ptr 0 [] 0)),(3,(.ptr 1 [] 0)),(33,(.dat 4 (.bool x0)))],[(.box 33 (.dat 33 x1)),(.box 33 (.dat 33 x2))],0⟩
abbrev H27_3 (m M3:Nat) (rec3:Int→Int→Dt→Dt→Option Bool):Prop:=∀x0 x1 x2 x3,l27 jn m w27_0 [] M3 (s27_6 x0 x1 x2 x3)=rec3 x0 x1 x2 x3
theorem law03_Same_j6_eq m M3 rec3 (h3:H27_3 m M3 rec3) x0 x1 x2 x3:e27 jn m w27_1 [M3] (s27_6 x0 x1 x2 x3)=law03_Same_j6 m (law03_SameList m) (law03_Same m) rec3 x0 x1 x2 x3:=
 tre (g:=fun J=>(jj J 1 4 M3 (s27_6 x0 (IntKind.wrap .i64 (x1+1)) x2 x3) (l27 J m w27_0 [] M3))) (fun J=>by kernel_rfl) (by simp only[jj_eq,h3];rfl)
theorem law03_Same_j5_eq m M3 rec3 (h3:H27_3 m M3 rec3) x0 x1 x2 x3 x4:e27 jn m w27_2 [M3] (s27_5 x0 x1 x2 x3 x4)=law03_Same_j5 m (law03_SameList m) (law03_Same m) rec3 x0 x1 x2 x3 x4:=
 tre (g:=fun J=>(bif x2 then
  some false
   else
  (jj J 0 8 0 (s27_6 x0 x1 x3 x4) (e27 J m w27_1 [M3])))) (fun J=>by kernel_rfl) (by simp only[jj_eq,law03_Same_j6_eq m M3 rec3 h3];rfl)
theorem law03_Same_j4_eq m M3 rec3 (h3:H27_3 m M3 rec3) x0 x1 x2 x3:e27 jn m w27_3 [M3] (s27_6 x0 x1 x2 x3)=law03_Same_j4 m (law03_SameList m) (law03_Same m) rec3 x0 x1 x2 x3:=
 tre (g:=fun J=>((idx (Dt.L x2 4) x1).bind fun v0=>
  ((idx (Dt.L x3 4) x1).bind fun v1=>
  (bif (Bool.not ((ByteArray.toList (Dt.S v0 0))==(ByteArray.toList (Dt.S v1 0)))) then
  (jj J 0 7 0 (s27_5 x0 x1 true x2 x3) (e27 J m w27_2 [M3]))
  else
  ((idx (Dt.L x2 4) x1).bind fun v2=>
  ((idx (Dt.L x3 4) x1).bind fun v3=>
  ((law03_Same m (Dt.fld v2 1) (Dt.fld v3 1)).bind fun r4=>
  (jj J 0 7 0 (s27_5 x0 x1 (Bool.not r4) x2 x3) (e27 J m w27_2 [M3]))))))))) (fun J=>by kernel_rfl) (by simp only[jj_eq,law03_Same_j5_eq m M3 rec3 h3];rfl)
theorem law03_Same_j7_eq m x0 x1:e27 jn m [1,1,1] [] (s27_7 x0 x1)=law03_Same_j7 m (law03_SameList m) (law03_Same m) x0 x1:=
 tre (g:=fun J=>((law03_SameList m (Dt.L x0 3) (Dt.L x1 3)).bind fun r5=>
  some r5)) (fun J=>by kernel_rfl) (by rfl)
theorem law03_Same_l3_eq m:∀M3 x0 x1 x2 x3,l27 jn m w27_0 [] M3 (s27_6 x0 x1 x2 x3)=law03_Same_l3 m (law03_SameList m) (law03_Same m) M3 x0 x1 x2 x3
 |0,_,_,_,_=>rfl
 | M3+1,x0,x1,x2,x3=>
   trl (g:=fun J=>(bif (decide (x1<x0)) then
  (jj J 0 5 0 (s27_6 x0 x1 x2 x3) (e27 J m w27_3 [M3]))
   else
  (jj J 0 9 0 (s27_7 x2 x3) (e27 J m [1,1,1] [])))) (fun J=>by kernel_rfl) (by simp only[jj_eq,law03_Same_j4_eq m M3 (law03_Same_l3 m (law03_SameList m) (law03_Same m) M3) (law03_Same_l3_eq m M3),law03_Same_j7_eq m];rfl)
theorem law03_Same_j2_eq m x0 x1 x2 x3:e27 jn m [1,1,0,1] [] (s27_6 x0 x1 x2 x3)=law03_Same_j2 m (law03_SameList m) (law03_Same m) x0 x1 x2 x3:=
 tre (g:=fun J=>(jj J 1 4 (Nat.succ m) (s27_6 x0 x1 x2 x3) (l27 J m w27_0 [] (Nat.succ m)))) (fun J=>by kernel_rfl) (by simp only[jj_eq,law03_Same_l3_eq m];rfl)
theorem law03_Same_j1_eq m x0 x1:e27 jn m [1,1] [] (s27_7 x0 x1)=law03_Same_j1 m (law03_SameList m) (law03_Same m) x0 x1:=
 tre (g:=fun J=>(jj J 0 4 0 (s27_6 (List.length (Dt.L x0 4):Int) 0 x0 x1) (e27 J m [1,1,0,1] []))) (fun J=>by kernel_rfl) (by simp only[jj_eq,law03_Same_j2_eq m];rfl)
theorem law03_Same_j0_eq m x0 x1 x2:e27 jn m [1,0,1] [] (s27_0 x0 x1 x2)=law03_Same_j0 m (law03_SameList m) (law03_Same m) x0 x1 x2:=
 tre (g:=fun J=>(bif x0 then
  some false
   else
  (jj J 0 3 0 (s27_7 x1 x2) (e27 J m [1,1] [])))) (fun J=>by kernel_rfl) (by simp only[jj_eq,law03_Same_j1_eq m];rfl)
theorem law03_Same_eq m a0 a1:e27 jn m [] [] ⟨[(.dat 33 a0),(.dat 33 a1)],[],0⟩=law03_Same (m+1) a0 a1:=
 tre (g:=fun J=>(bif ((Dt.I a0 0) !=(Dt.I a1 0)) then
  (jj J 0 2 0 (s27_0 true a0 a1) (e27 J m [1,0,1] []))
   else
  (bif ((Dt.I a0 1) !=(Dt.I a1 1)) then
  (jj J 0 2 0 (s27_0 true a0 a1) (e27 J m [1,0,1] []))
  else
  (bif (Bool.not ((ByteArray.toList (Dt.S a0 2))==(ByteArray.toList (Dt.S a1 2)))) then
  (jj J 0 2 0 (s27_0 true a0 a1) (e27 J m [1,0,1] []))
  else
  (jj J 0 2 0 (s27_0 ((List.length (Dt.L a0 4):Int) !=(List.length (Dt.L a1 4):Int)) a0 a1) (e27 J m [1,0,1] [])))))) (fun J=>by kernel_rfl) (by simp only[jj_eq,law03_Same_j0_eq m];rfl)
noncomputable def e15 (J:Nat→Nat→Nat→St→Option Int→Option Int) (m:Nat) (p ms:List Nat) (σ:St):=evAt Tryz.prog env (ct m) J (m+1) 76 10 Tryz.f76 d15 p ms σ
noncomputable def l15 (J:Nat→Nat→Nat→St→Option Int→Option Int) (m:Nat) (p ms:List Nat) (M:Nat) (σ:St):=loopAt Tryz.prog env (ct m) J (m+1) 76 10 Tryz.f76 d15 p ms M σ
theorem reshape_Near_1_eq m a0 a1:e15 jn m [] [] ⟨[(.dat 116 a0),(.dat 116 a1)],[],0⟩=reshape_Near_1 (m+1) a0 a1:=
 tre (g:=fun J=>some (IntKind.wrap .i64 ((Dt.I a0 1)-(Dt.I a1 1)))) (fun J=>by kernel_rfl) (by rfl)
def w14_3:List Nat:=[1,0,0,1,1]
def w14_4:List Nat:=[1,0,0,1,0,0,1]
def w14_0:List Nat:=w14_4++[0]
def w14_2:List Nat:=w14_0++[0,1]
def w14_1:List Nat:=w14_2++[1]
noncomputable def e14 (J:Nat→Nat→Nat→St→Option (List Dt)→Option (List Dt)) (m:Nat) (p ms:List Nat) (σ:St):=evAt Tryz.prog env (ct m) J (m+1) 168 53 Tryz.f168 d14 p ms σ
noncomputable def l14 (J:Nat→Nat→Nat→St→Option (List Dt)→Option (List Dt)) (m:Nat) (p ms:List Nat) (M:Nat) (σ:St):=loopAt Tryz.prog env (ct m) J (m+1) 168 53 Tryz.f168 d14 p ms M σ
noncomputable def s14_6 (x0 x1 x2 x3:Int) (x4:List Dt):St:=⟨tsOf [(0,(.row 0)),(1,(.dat 3 (.int x0))),(2,(.dat 3 (.int x1))),(3,(.fn 76 [])),(8,(.dat 3 (.int x2))),(9,(.dat 3 (.int x3)))],[(.row 113 x4)],1⟩
noncomputable def s14_7 (x0 x1 x2:Int) (x3:List Dt):St:=⟨tsOf [(0,(.row 0)),(1,(.dat 3 (.int x0))),(2,(.dat 3 (.int x1))),(3,(.fn 76 [])),(8,(.dat 3 (.int x2)))],[(.row 113 x3)],1⟩
abbrev H14_1 (m M1:Nat) (rec1:Int→Int→Int→List Dt→Option (List Dt)):Prop:=∀x0 x1 x2 x3,l14 jn m [1,0] [] M1 (s14_7 x0 x1 x2 x3)=rec1 x0 x1 x2 x3
abbrev H14_4 (m M1 M4:Nat) (rec4:Int→Int→Int→Int→List Dt→Option (List Dt)):Prop:=∀x0 x1 x2 x3 x4,l14 jn m w14_0 [M1] M4 (s14_6 x0 x1 x2 x3 x4)=rec4 x0 x1 x2 x3 x4
theorem i14_j6_eq m M1 rec1 (h1:H14_1 m M1 rec1) M4 rec4 (h4:H14_4 m M1 M4 rec4) x0 x1 x2 x3 x4:e14 jn m w14_1 [M1,M4] (s14_6 x0 x1 x2 x3 x4)=i14_j6 m rec1 rec4 x0 x1 x2 x3 x4:=
 tre (g:=fun J=>(jj J 1 4 M4 (s14_6 x0 x1 x2 (IntKind.wrap .i64 (x3-1)) x4) (l14 J m w14_0 [M1] M4))) (fun J=>by kernel_rfl) (by simp only[jj_eq,h4];rfl)
theorem i14_j5_eq m M1 rec1 (h1:H14_1 m M1 rec1) M4 rec4 (h4:H14_4 m M1 M4 rec4) x0 x1 x2 x3 x4:e14 jn m w14_2 [M1,M4] (s14_6 x0 x1 x2 x3 x4)=i14_j5 m rec1 rec4 x0 x1 x2 x3 x4:=
 tre (g:=fun J=>((inL x4 (IntKind.wrap .i64 (x3-1))).bind fun v5=>
  ((x4[(Int.toNat (IntKind.wrap .i64 (x3-1)))]?).bind fun v6=>
  ((inL x4 x3).bind fun v7=>
  ((x4[(Int.toNat x3)]?).bind fun v8=>
  ((inL x4 x3).bind fun v9=>
  ((x4[(Int.toNat x3)]?).bind fun v10=>
  ((inL (List.set x4 (Int.toNat x3) v6) (IntKind.wrap .i64 (x3-1))).bind fun v11=>
  (((List.set x4 (Int.toNat x3) v6)[(Int.toNat (IntKind.wrap .i64 (x3-1)))]?).bind fun v12=>
  (jj J 0 5 0 (s14_6 x0 x1 x2 x3 (List.set (List.set x4 (Int.toNat x3) v6) (Int.toNat (IntKind.wrap .i64 (x3-1))) v8)) (e14 J m w14_1 [M1,M4]))))))))))) (fun J=>by kernel_rfl) (by simp only[jj_eq,i14_j6_eq m M1 rec1 h1 M4 rec4 h4];rfl)
theorem i14_j7_eq m M1 rec1 (h1:H14_1 m M1 rec1) x0 x1 x2 x3:e14 jn m w14_3 [M1] (s14_7 x0 x1 x2 x3)=i14_j7 m rec1 x0 x1 x2 x3:=
 tre (g:=fun J=>(jj J 1 1 M1 (s14_7 x0 x1 (IntKind.wrap .i64 (x2+1)) x3) (l14 J m [1,0] [] M1))) (fun J=>by kernel_rfl) (by simp only[jj_eq,h1];rfl)
theorem i14_l4_eq m M1 rec1 (h1:H14_1 m M1 rec1):∀M4 x0 x1 x2 x3 x4,l14 jn m w14_0 [M1] M4 (s14_6 x0 x1 x2 x3 x4)=i14_l4 m rec1 M4 x0 x1 x2 x3 x4
 |0,_,_,_,_,_=>rfl
 | M4+1,x0,x1,x2,x3,x4=>
   trl (g:=fun J=>(bif (decide (x0<x3)) then
  ((inL x4 x3).bind fun v0=>
  ((x4[(Int.toNat x3)]?).bind fun v1=>
  ((inL x4 (IntKind.wrap .i64 (x3-1))).bind fun v2=>
  ((x4[(Int.toNat (IntKind.wrap .i64 (x3-1)))]?).bind fun v3=>
  ((reshape_Near_1 m v1 v3).bind fun r4=>
  (bif (decide (r4<0)) then
  (jj J 0 6 0 (s14_6 x0 x1 x2 x3 x4) (e14 J m w14_2 [M1,M4]))
  else
  (jj J 0 2 0 (s14_7 x0 x1 x2 x4) (e14 J m w14_3 [M1]))))))))
   else
  (jj J 0 2 0 (s14_7 x0 x1 x2 x4) (e14 J m w14_3 [M1])))) (fun J=>by kernel_rfl) (by simp only[jj_eq,i14_j5_eq m M1 rec1 h1 M4 (i14_l4 m rec1 M4) (i14_l4_eq m M1 rec1 h1 M4),i14_j7_eq m M1 rec1 h1];rfl)
theorem i14_j3_eq m M1 rec1 (h1:H14_1 m M1 rec1) x0 x1 x2 x3 x4:e14 jn m w14_4 [M1] (s14_6 x0 x1 x2 x3 x4)=i14_j3 m rec1 x0 x1 x2 x3 x4:=
 tre (g:=fun J=>(jj J 1 4 (Nat.succ m) (s14_6 x0 x1 x2 x3 x4) (l14 J m w14_0 [M1] (Nat.succ m)))) (fun J=>by kernel_rfl) (by simp only[jj_eq,i14_l4_eq m M1 rec1 h1];rfl)
theorem i14_j2_eq m M1 rec1 (h1:H14_1 m M1 rec1) x0 x1 x2 x3:e14 jn m [1,0,0,1] [M1] (s14_7 x0 x1 x2 x3)=i14_j2 m rec1 x0 x1 x2 x3:=
 tre (g:=fun J=>(jj J 0 4 0 (s14_6 x0 x1 x2 x2 x3) (e14 J m w14_4 [M1]))) (fun J=>by kernel_rfl) (by simp only[jj_eq,i14_j3_eq m M1 rec1 h1];rfl)
theorem i14_l1_eq m:∀M1 x0 x1 x2 x3,l14 jn m [1,0] [] M1 (s14_7 x0 x1 x2 x3)=i14_l1 m M1 x0 x1 x2 x3
 |0,_,_,_,_=>rfl
 | M1+1,x0,x1,x2,x3=>
   trl (g:=fun J=>(bif (decide (x2<x1)) then
  (jj J 0 3 0 (s14_7 x0 x1 x2 x3) (e14 J m [1,0,0,1] [M1]))
   else
  some x3)) (fun J=>by kernel_rfl) (by simp only[jj_eq,i14_j2_eq m M1 (i14_l1 m M1) (i14_l1_eq m M1)];rfl)
theorem i14_j0_eq m x0 x1 x2 x3:e14 jn m [1] [] (s14_7 x0 x1 x2 x3)=i14_j0 m x0 x1 x2 x3:=
 tre (g:=fun J=>(jj J 1 1 (Nat.succ m) (s14_7 x0 x1 x2 x3) (l14 J m [1,0] [] (Nat.succ m)))) (fun J=>by kernel_rfl) (by simp only[jj_eq,i14_l1_eq m];rfl)
theorem i14_eq m a0 a1 a2:e14 jn m [] [] ⟨[(.row 0),(.dat 3 (.int a0)),(.dat 3 (.int a1)),(.fn 76 [])],[(.row 113 a2)],1⟩=i14 (m+1) a0 a1 a2:=
 tre (g:=fun J=>(jj J 0 1 0 (s14_7 a0 a1 (IntKind.wrap .i64 (a0+1)) a2) (e14 J m [1] []))) (fun J=>by kernel_rfl) (by simp only[jj_eq,i14_j0_eq m];rfl)
def w18_0:List Nat:=[1,0,0,1,1]
noncomputable def e18 (J:Nat→Nat→Nat→St→Option (List Dt)→Option (List Dt)) (m:Nat) (p ms:List Nat) (σ:St):=evAt Tryz.prog env (ct m) J (m+1) 252 38 Tryz.f252 d14 p ms σ
noncomputable def l18 (J:Nat→Nat→Nat→St→Option (List Dt)→Option (List Dt)) (m:Nat) (p ms:List Nat) (M:Nat) (σ:St):=loopAt Tryz.prog env (ct m) J (m+1) 252 38 Tryz.f252 d14 p ms M σ
noncomputable def s18_3 (x0 x1 x2 x3:Int) (x4:List Dt):St:=⟨tsOf [(0,(.row 0)),(1,(.dat 3 (.int x0))),(2,(.dat 3 (.int x1))),(3,(.dat 3 (.int x2))),(10,(.dat 3 (.int x3)))],[(.row 113 x4)],1⟩
abbrev H18_1 (m M1:Nat) (rec1:Int→Int→Int→Int→List Dt→Option (List Dt)):Prop:=∀x0 x1 x2 x3 x4,l18 jn m [1,0] [] M1 (s18_3 x0 x1 x2 x3 x4)=rec1 x0 x1 x2 x3 x4
theorem i18_j3_eq m M1 rec1 (h1:H18_1 m M1 rec1) x0 x1 x2 x3 x4:e18 jn m w18_0 [M1] (s18_3 x0 x1 x2 x3 x4)=i18_j3 m rec1 x0 x1 x2 x3 x4:=
 tre (g:=fun J=>(jj J 1 1 M1 (s18_3 x0 x1 x2 (IntKind.wrap .i64 (x3+1)) x4) (l18 J m [1,0] [] M1))) (fun J=>by kernel_rfl) (by simp only[jj_eq,h1];rfl)
theorem i18_j2_eq m M1 rec1 (h1:H18_1 m M1 rec1) x0 x1 x2 x3 x4:e18 jn m [1,0,0,1] [M1] (s18_3 x0 x1 x2 x3 x4)=i18_j2 m rec1 x0 x1 x2 x3 x4:=
 tre (g:=fun J=>((inL x4 (IntKind.wrap .i64 (x1+x3))).bind fun v0=>
  ((x4[(Int.toNat (IntKind.wrap .i64 (x1+x3)))]?).bind fun v1=>
  ((inL x4 (IntKind.wrap .i64 (x0+x3))).bind fun v2=>
  ((x4[(Int.toNat (IntKind.wrap .i64 (x0+x3)))]?).bind fun v3=>
  ((inL x4 (IntKind.wrap .i64 (x0+x3))).bind fun v4=>
  ((x4[(Int.toNat (IntKind.wrap .i64 (x0+x3)))]?).bind fun v5=>
  ((inL (List.set x4 (Int.toNat (IntKind.wrap .i64 (x0+x3))) v1) (IntKind.wrap .i64 (x1+x3))).bind fun v6=>
  (((List.set x4 (Int.toNat (IntKind.wrap .i64 (x0+x3))) v1)[(Int.toNat (IntKind.wrap .i64 (x1+x3)))]?).bind fun v7=>
  (jj J 0 2 0 (s18_3 x0 x1 x2 x3 (List.set (List.set x4 (Int.toNat (IntKind.wrap .i64 (x0+x3))) v1) (Int.toNat (IntKind.wrap .i64 (x1+x3))) v3)) (e18 J m w18_0 [M1]))))))))))) (fun J=>by kernel_rfl) (by simp only[jj_eq,i18_j3_eq m M1 rec1 h1];rfl)
theorem i18_l1_eq m:∀M1 x0 x1 x2 x3 x4,l18 jn m [1,0] [] M1 (s18_3 x0 x1 x2 x3 x4)=i18_l1 m M1 x0 x1 x2 x3 x4
 |0,_,_,_,_,_=>rfl
 | M1+1,x0,x1,x2,x3,x4=>
   trl (g:=fun J=>(bif (decide (x3<x2)) then
  (jj J 0 3 0 (s18_3 x0 x1 x2 x3 x4) (e18 J m [1,0,0,1] [M1]))
   else
  some x4)) (fun J=>by kernel_rfl) (by simp only[jj_eq,i18_j2_eq m M1 (i18_l1 m M1) (i18_l1_eq m M1)];rfl)
theorem i18_j0_eq m x0 x1 x2 x3 x4:e18 jn m [1] [] (s18_3 x0 x1 x2 x3 x4)=i18_j0 m x0 x1 x2 x3 x4:=
 tre (g:=fun J=>(jj J 1 1 (Nat.succ m) (s18_3 x0 x1 x2 x3 x4) (l18 J m [1,0] [] (Nat.succ m)))) (fun J=>by kernel_rfl) (by simp only[jj_eq,i18_l1_eq m];rfl)
theorem i18_eq m a0 a1 a2 a3:e18 jn m [] [] ⟨[(.row 0),(.dat 3 (.int a0)),(.dat 3 (.int a1)),(.dat 3 (.int a2)),(.fn 76 [])],[(.row 113 a3)],1⟩=i18 (m+1) a0 a1 a2 a3:=
 tre (g:=fun J=>(jj J 0 1 0 (s18_3 a0 a1 a2 0 a3) (e18 J m [1] []))) (fun J=>by kernel_rfl) (by simp only[jj_eq,i18_j0_eq m];rfl)
def w17_0:List Nat:=[1,1,0,0,0,1]
noncomputable def e17 (J:Nat→Nat→Nat→St→Option (List Dt)→Option (List Dt)) (m:Nat) (p ms:List Nat) (σ:St):=evAt Tryz.prog env (ct m) J (m+1) 220 58 Tryz.f220 d14 p ms σ
noncomputable def l17 (J:Nat→Nat→Nat→St→Option (List Dt)→Option (List Dt)) (m:Nat) (p ms:List Nat) (M:Nat) (σ:St):=loopAt Tryz.prog env (ct m) J (m+1) 220 58 Tryz.f220 d14 p ms M σ
noncomputable def s17_2 (x0 x1 x2:Int) (x3:List Dt):St:=⟨tsOf [(0,(.row 0)),(2,(.dat 3 (.int x0))),(4,(.fn 76 [])),(10,(.dat 3 (.int x1))),(11,(.dat 3 (.int x2)))],[(.row 113 x3)],1⟩
noncomputable def s17_3 (x0 x1:Int) (x2:List Dt):St:=⟨tsOf [(0,(.row 0)),(2,(.dat 3 (.int x0))),(4,(.fn 76 [])),(10,(.dat 3 (.int x1)))],[(.row 113 x2)],1⟩
abbrev H17_1 (m M1:Nat) (rec1:Int→Int→Int→List Dt→Option (List Dt)):Prop:=∀x0 x1 x2 x3,l17 jn m [1,1,0,0] [] M1 (s17_2 x0 x1 x2 x3)=rec1 x0 x1 x2 x3
theorem i17_j2_eq m M1 rec1 (h1:H17_1 m M1 rec1) x0 x1 x2 x3:e17 jn m w17_0 [M1] (s17_2 x0 x1 x2 x3)=i17_j2 m rec1 x0 x1 x2 x3:=
 tre (g:=fun J=>(bif (decide (x2<x1)) then
  ((i18 m (IntKind.wrap .i64 (x0-x1)) x0 x2 x3).bind fun r0=>
  (jj J 1 2 M1 (s17_2 x0 (IntKind.wrap .i64 (x1-x2)) x2 r0) (l17 J m [1,1,0,0] [] M1)))
   else
  ((i18 m (IntKind.wrap .i64 (x0-x1)) (IntKind.wrap .i64 ((IntKind.wrap .i64 (x0+x2))-x1)) x1 x3).bind fun r1=>
  (jj J 1 2 M1 (s17_2 x0 x1 (IntKind.wrap .i64 (x2-x1)) r1) (l17 J m [1,1,0,0] [] M1))))) (fun J=>by kernel_rfl) (by simp only[jj_eq,h1];rfl)
theorem i17_j3_eq m x0 x1 x2:e17 jn m [1,1,1] [] (s17_3 x0 x1 x2)=i17_j3 m x0 x1 x2:=
 tre (g:=fun J=>((i18 m (IntKind.wrap .i64 (x0-x1)) x0 x1 x2).bind fun r2=>
  some r2)) (fun J=>by kernel_rfl) (by rfl)
theorem i17_l1_eq m:∀M1 x0 x1 x2 x3,l17 jn m [1,1,0,0] [] M1 (s17_2 x0 x1 x2 x3)=i17_l1 m M1 x0 x1 x2 x3
 |0,_,_,_,_=>rfl
 | M1+1,x0,x1,x2,x3=>
   trl (g:=fun J=>(bif (x1 !=x2) then
  (jj J 0 3 0 (s17_2 x0 x1 x2 x3) (e17 J m w17_0 [M1]))
   else
  (jj J 0 8 0 (s17_3 x0 x1 x3) (e17 J m [1,1,1] [])))) (fun J=>by kernel_rfl) (by simp only[jj_eq,i17_j2_eq m M1 (i17_l1 m M1) (i17_l1_eq m M1),i17_j3_eq m];rfl)
theorem i17_j0_eq m x0 x1 x2 x3:e17 jn m [1,1] [] (s17_2 x0 x1 x2 x3)=i17_j0 m x0 x1 x2 x3:=
 tre (g:=fun J=>(jj J 1 2 (Nat.succ m) (s17_2 x0 x1 x2 x3) (l17 J m [1,1,0,0] [] (Nat.succ m)))) (fun J=>by kernel_rfl) (by simp only[jj_eq,i17_l1_eq m];rfl)
theorem i17_eq m a0 a1 a2 a3:e17 jn m [] [] ⟨[(.row 0),(.dat 3 (.int a0)),(.dat 3 (.int a1)),(.dat 3 (.int a2)),(.fn 76 [])],[(.row 113 a3)],1⟩=i17 (m+1) a0 a1 a2 a3:=
 tre (g:=fun J=>(jj J 0 2 0 (s17_2 a1 (IntKind.wrap .i64 (a1-a0)) (IntKind.wrap .i64 (a2-a1)) a3) (e17 J m [1,1] []))) (fun J=>by kernel_rfl) (by simp only[jj_eq,i17_j0_eq m];rfl)
def w16_7:List Nat:=[0,1,0,1,1]
def w16_6:List Nat:=[0,1,0,1,1,1]
def w16_15:List Nat:=[1,0,1,0,1,1]
def w16_25:List Nat:=[1,1,1,1,1,1]
def w16_0:List Nat:=[0,1,0,1,1,0,0]
def w16_14:List Nat:=w16_15++[1]
def w16_24:List Nat:=w16_25++[1]
def w16_5:List Nat:=w16_6++[0,1]
def w16_8:List Nat:=w16_15++[0,0]
def w16_23:List Nat:=w16_24++[1]
def w16_1:List Nat:=w16_0++[0,1]
def w16_2:List Nat:=w16_5++[0]
def w16_13:List Nat:=w16_14++[0,1]
def w16_16:List Nat:=w16_24++[0,0]
def w16_9:List Nat:=w16_8++[0,1]
def w16_10:List Nat:=w16_13++[0]
def w16_21:List Nat:=w16_23++[1,1]
def w16_4:List Nat:=w16_2++[0,1]
def w16_17:List Nat:=w16_16++[0,1]
def w16_19:List Nat:=w16_21++[1]
def w16_22:List Nat:=w16_23++[1,0,1]
def w16_3:List Nat:=w16_4++[1]
def w16_12:List Nat:=w16_10++[0,1]
def w16_18:List Nat:=w16_19++[1]
def w16_20:List Nat:=w16_21++[0,1]
def w16_11:List Nat:=w16_12++[1]
noncomputable def e16 (J:Nat→Nat→Nat→St→Option (List Dt)→Option (List Dt)) (m:Nat) (p ms:List Nat) (σ:St):=evAt Tryz.prog env (ct m) J (m+1) 169 220 Tryz.f169 d14 p ms σ
noncomputable def l16 (J:Nat→Nat→Nat→St→Option (List Dt)→Option (List Dt)) (m:Nat) (p ms:List Nat) (M:Nat) (σ:St):=loopAt Tryz.prog env (ct m) J (m+1) 169 220 Tryz.f169 d14 p ms M σ
noncomputable def s16_2 (x0 x1 x2:Int) (x3:List Dt):St:=⟨tsOf [(0,(.row 0)),(1,(.dat 3 (.int x0))),(4,(.fn 76 [])),(10,(.dat 3 (.int x1))),(11,(.dat 3 (.int x2)))],[(.row 113 x3)],1⟩
noncomputable def s16_7 (x0 x1:Int) (x2:List Dt):St:=⟨tsOf [(0,(.row 0)),(10,(.dat 3 (.int x0))),(13,(.dat 3 (.int x1)))],[(.row 113 x2)],1⟩
noncomputable def s16_3 (x0 x1:Int) (x2:List Dt):St:=⟨tsOf [(0,(.row 0)),(1,(.dat 3 (.int x0))),(10,(.dat 3 (.int x1)))],[(.row 113 x2)],1⟩
noncomputable def s16_11 (x0 x1 x2:Int) (x3:List Dt):St:=⟨tsOf [(0,(.row 0)),(2,(.dat 3 (.int x0))),(4,(.fn 76 [])),(14,(.dat 3 (.int x1))),(15,(.dat 3 (.int x2)))],[(.row 113 x3)],1⟩
noncomputable def s16_16 (x0 x1:Int) (x2:List Dt):St:=⟨tsOf [(0,(.row 0)),(14,(.dat 3 (.int x0))),(17,(.dat 3 (.int x1)))],[(.row 113 x2)],1⟩
noncomputable def s16_12 (x0 x1:Int) (x2:List Dt):St:=⟨tsOf [(0,(.row 0)),(2,(.dat 3 (.int x0))),(14,(.dat 3 (.int x1)))],[(.row 113 x2)],1⟩
noncomputable def s16_21 (x0 x1 x2 x3 x4 x5 x6 x7:Int) (x8:List Dt):St:=⟨tsOf [(0,(.row 0)),(1,(.dat 3 (.int x0))),(2,(.dat 3 (.int x1))),(3,(.dat 3 (.int x2))),(4,(.fn 76 [])),(18,(.dat 3 (.int x3))),(19,(.dat 3 (.int x4))),(20,(.dat 3 (.int x5))),(21,(.dat 3 (.int x6))),(22,(.dat 3 (.int x7)))],[(.row 113 x8)],1⟩
noncomputable def s16_27 (x0 x1 x2:Int) (x3:Bool) (x4:List Dt):St:=⟨tsOf [(0,(.row 0)),(3,(.dat 3 (.int x0))),(4,(.fn 76 [])),(18,(.dat 3 (.int x1))),(24,(.dat 3 (.int x2))),(213,(.dat 4 (.bool x3)))],[(.row 113 x4)],1⟩
noncomputable def s16_26 (x0 x1 x2:Int) (x3:List Dt):St:=⟨tsOf [(0,(.row 0)),(3,(.dat 3 (.int x0))),(4,(.fn 76 [])),(18,(.dat 3 (.int x1))),(24,(.dat 3 (.int x2)))],[(.row 113 x3)],1⟩
noncomputable def s16_25 (x0 x1 x2 x3 x4:Int) (x5:Bool) (x6:List Dt):St:=⟨tsOf [(0,(.row 0)),(1,(.dat 3 (.int x0))),(3,(.dat 3 (.int x1))),(4,(.fn 76 [])),(18,(.dat 3 (.int x2))),(20,(.dat 3 (.int x3))),(24,(.dat 3 (.int x4))),(199,(.dat 4 (.bool x5)))],[(.row 113 x6)],1⟩
noncomputable def s16_24 (x0 x1 x2 x3 x4:Int) (x5:List Dt):St:=⟨tsOf [(0,(.row 0)),(1,(.dat 3 (.int x0))),(3,(.dat 3 (.int x1))),(4,(.fn 76 [])),(18,(.dat 3 (.int x2))),(20,(.dat 3 (.int x3))),(24,(.dat 3 (.int x4)))],[(.row 113 x5)],1⟩
noncomputable def s16_23 (x0 x1 x2 x3 x4 x5:Int) (x6:Bool) (x7:List Dt):St:=⟨tsOf [(0,(.row 0)),(1,(.dat 3 (.int x0))),(2,(.dat 3 (.int x1))),(3,(.dat 3 (.int x2))),(4,(.fn 76 [])),(18,(.dat 3 (.int x3))),(20,(.dat 3 (.int x4))),(24,(.dat 3 (.int x5))),(185,(.dat 4 (.bool x6)))],[(.row 113 x7)],1⟩
noncomputable def s16_22 (x0 x1 x2 x3 x4 x5:Int) (x6:List Dt):St:=⟨tsOf [(0,(.row 0)),(1,(.dat 3 (.int x0))),(2,(.dat 3 (.int x1))),(3,(.dat 3 (.int x2))),(4,(.fn 76 [])),(18,(.dat 3 (.int x3))),(19,(.dat 3 (.int x4))),(20,(.dat 3 (.int x5)))],[(.row 113 x6)],1⟩
noncomputable def s16_18 (x0 x1 x2 x3 x4 x5 x6:Int) (x7:List Dt):St:=⟨tsOf [(0,(.row 0)),(1,(.dat 3 (.int x0))),(2,(.dat 3 (.int x1))),(3,(.dat 3 (.int x2))),(4,(.fn 76 [])),(18,(.dat 3 (.int x3))),(19,(.dat 3 (.int x4))),(20,(.dat 3 (.int x5))),(21,(.dat 3 (.int x6)))],[(.row 113 x7)],1⟩
noncomputable def s16_17 (x0 x1 x2:Int) (x3:List Dt):St:=⟨tsOf [(0,(.row 0)),(1,(.dat 3 (.int x0))),(2,(.dat 3 (.int x1))),(3,(.dat 3 (.int x2))),(4,(.fn 76 []))],[(.row 113 x3)],1⟩
abbrev H16_1 (m M1:Nat) (rec1:Int→Int→Int→List Dt→Option (List Dt)):Prop:=∀x0 x1 x2 x3,l16 jn m w16_0 [] M1 (s16_2 x0 x1 x2 x3)=rec1 x0 x1 x2 x3
theorem i16_j2_eq m M1 rec1 (h1:H16_1 m M1 rec1) x0 x1 x2 x3:e16 jn m w16_1 [M1] (s16_2 x0 x1 x2 x3)=i16_j2 m (i16 m) rec1 x0 x1 x2 x3:=
 tre (g:=fun J=>((inL x3 (IntKind.wrap .i64 (shrI IntKind.u64 (IntKind.wrap IntKind.u64 (IntKind.wrap .i64 (x1+x2))) 1))).bind fun v0=>
  ((x3[(Int.toNat (IntKind.wrap .i64 (shrI IntKind.u64 (IntKind.wrap IntKind.u64 (IntKind.wrap .i64 (x1+x2))) 1)))]?).bind fun v1=>
  ((inL x3 x0).bind fun v2=>
  ((x3[(Int.toNat x0)]?).bind fun v3=>
  ((reshape_Near_1 m v1 v3).bind fun r4=>
  (bif (decide (r4<0)) then
  (jj J 1 3 M1 (s16_2 x0 (IntKind.wrap .i64 ((IntKind.wrap .i64 (shrI IntKind.u64 (IntKind.wrap IntKind.u64 (IntKind.wrap .i64 (x1+x2))) 1))+1)) x2 x3) (l16 J m w16_0 [] M1))
  else
  (jj J 1 3 M1 (s16_2 x0 x1 (IntKind.wrap .i64 (shrI IntKind.u64 (IntKind.wrap IntKind.u64 (IntKind.wrap .i64 (x1+x2))) 1)) x3) (l16 J m w16_0 [] M1))))))))) (fun J=>by kernel_rfl) (by simp only[jj_eq,h1];rfl)
abbrev H16_5 (m M5:Nat) (rec5:Int→Int→List Dt→Option (List Dt)):Prop:=∀x0 x1 x2,l16 jn m w16_2 [] M5 (s16_7 x0 x1 x2)=rec5 x0 x1 x2
theorem i16_j7_eq m M5 rec5 (h5:H16_5 m M5 rec5) x0 x1 x2:e16 jn m w16_3 [M5] (s16_7 x0 x1 x2)=i16_j7 m (i16 m) rec5 x0 x1 x2:=
 tre (g:=fun J=>(jj J 1 9 M5 (s16_7 x0 (IntKind.wrap .i64 (x1+1)) x2) (l16 J m w16_2 [] M5))) (fun J=>by kernel_rfl) (by simp only[jj_eq,h5];rfl)
theorem i16_j6_eq m M5 rec5 (h5:H16_5 m M5 rec5) x0 x1 x2:e16 jn m w16_4 [M5] (s16_7 x0 x1 x2)=i16_j6 m (i16 m) rec5 x0 x1 x2:=
 tre (g:=fun J=>((inL x2 (IntKind.wrap .i64 (x1+1))).bind fun v5=>
  ((x2[(Int.toNat (IntKind.wrap .i64 (x1+1)))]?).bind fun v6=>
  ((inL x2 x1).bind fun v7=>
  ((x2[(Int.toNat x1)]?).bind fun v8=>
  ((inL x2 x1).bind fun v9=>
  ((x2[(Int.toNat x1)]?).bind fun v10=>
  ((inL (List.set x2 (Int.toNat x1) v6) (IntKind.wrap .i64 (x1+1))).bind fun v11=>
  (((List.set x2 (Int.toNat x1) v6)[(Int.toNat (IntKind.wrap .i64 (x1+1)))]?).bind fun v12=>
  (jj J 0 10 0 (s16_7 x0 x1 (List.set (List.set x2 (Int.toNat x1) v6) (Int.toNat (IntKind.wrap .i64 (x1+1))) v8)) (e16 J m w16_3 [M5]))))))))))) (fun J=>by kernel_rfl) (by simp only[jj_eq,i16_j7_eq m M5 rec5 h5];rfl)
theorem i16_l5_eq m:∀M5 x0 x1 x2,l16 jn m w16_2 [] M5 (s16_7 x0 x1 x2)=i16_l5 m (i16 m) M5 x0 x1 x2
 |0,_,_,_=>rfl
 | M5+1,x0,x1,x2=>
   trl (g:=fun J=>(bif (decide (x1<(IntKind.wrap .i64 (x0-1)))) then
  (jj J 0 11 0 (s16_7 x0 x1 x2) (e16 J m w16_4 [M5]))
   else
  some x2)) (fun J=>by kernel_rfl) (by simp only[jj_eq,i16_j6_eq m M5 (i16_l5 m (i16 m) M5) (i16_l5_eq m M5)];rfl)
theorem i16_j4_eq m x0 x1 x2:e16 jn m w16_5 [] (s16_7 x0 x1 x2)=i16_j4 m (i16 m) x0 x1 x2:=
 tre (g:=fun J=>(jj J 1 9 (Nat.succ m) (s16_7 x0 x1 x2) (l16 J m w16_2 [] (Nat.succ m)))) (fun J=>by kernel_rfl) (by simp only[jj_eq,i16_l5_eq m];rfl)
theorem i16_j3_eq m x0 x1 x2:e16 jn m w16_6 [] (s16_3 x0 x1 x2)=i16_j3 m (i16 m) x0 x1 x2:=
 tre (g:=fun J=>(jj J 0 9 0 (s16_7 x1 x0 x2) (e16 J m w16_5 []))) (fun J=>by kernel_rfl) (by simp only[jj_eq,i16_j4_eq m];rfl)
theorem i16_l1_eq m:∀M1 x0 x1 x2 x3,l16 jn m w16_0 [] M1 (s16_2 x0 x1 x2 x3)=i16_l1 m (i16 m) M1 x0 x1 x2 x3
 |0,_,_,_,_=>rfl
 | M1+1,x0,x1,x2,x3=>
   trl (g:=fun J=>(bif (decide (x1<x2)) then
  (jj J 0 4 0 (s16_2 x0 x1 x2 x3) (e16 J m w16_1 [M1]))
   else
  (jj J 0 8 0 (s16_3 x0 x1 x3) (e16 J m w16_6 [])))) (fun J=>by kernel_rfl) (by simp only[jj_eq,i16_j2_eq m M1 (i16_l1 m (i16 m) M1) (i16_l1_eq m M1),i16_j3_eq m];rfl)
theorem i16_j0_eq m x0 x1 x2 x3:e16 jn m w16_7 [] (s16_2 x0 x1 x2 x3)=i16_j0 m (i16 m) x0 x1 x2 x3:=
 tre (g:=fun J=>(jj J 1 3 (Nat.succ m) (s16_2 x0 x1 x2 x3) (l16 J m w16_0 [] (Nat.succ m)))) (fun J=>by kernel_rfl) (by simp only[jj_eq,i16_l1_eq m];rfl)
abbrev H16_10 (m M10:Nat) (rec10:Int→Int→Int→List Dt→Option (List Dt)):Prop:=∀x0 x1 x2 x3,l16 jn m w16_8 [] M10 (s16_11 x0 x1 x2 x3)=rec10 x0 x1 x2 x3
theorem i16_j11_eq m M10 rec10 (h10:H16_10 m M10 rec10) x0 x1 x2 x3:e16 jn m w16_9 [M10] (s16_11 x0 x1 x2 x3)=i16_j11 m (i16 m) rec10 x0 x1 x2 x3:=
 tre (g:=fun J=>((inL x3 x0).bind fun v13=>
  ((x3[(Int.toNat x0)]?).bind fun v14=>
  ((inL x3 (IntKind.wrap .i64 (shrI IntKind.u64 (IntKind.wrap IntKind.u64 (IntKind.wrap .i64 (x1+x2))) 1))).bind fun v15=>
  ((x3[(Int.toNat (IntKind.wrap .i64 (shrI IntKind.u64 (IntKind.wrap IntKind.u64 (IntKind.wrap .i64 (x1+x2))) 1)))]?).bind fun v16=>
  ((reshape_Near_1 m v14 v16).bind fun r17=>
  (bif (Bool.not (decide (r17<0))) then
  (jj J 1 15 M10 (s16_11 x0 (IntKind.wrap .i64 ((IntKind.wrap .i64 (shrI IntKind.u64 (IntKind.wrap IntKind.u64 (IntKind.wrap .i64 (x1+x2))) 1))+1)) x2 x3) (l16 J m w16_8 [] M10))
  else
  (jj J 1 15 M10 (s16_11 x0 x1 (IntKind.wrap .i64 (shrI IntKind.u64 (IntKind.wrap IntKind.u64 (IntKind.wrap .i64 (x1+x2))) 1)) x3) (l16 J m w16_8 [] M10))))))))) (fun J=>by kernel_rfl) (by simp only[jj_eq,h10];rfl)
abbrev H16_14 (m M14:Nat) (rec14:Int→Int→List Dt→Option (List Dt)):Prop:=∀x0 x1 x2,l16 jn m w16_10 [] M14 (s16_16 x0 x1 x2)=rec14 x0 x1 x2
theorem i16_j16_eq m M14 rec14 (h14:H16_14 m M14 rec14) x0 x1 x2:e16 jn m w16_11 [M14] (s16_16 x0 x1 x2)=i16_j16 m (i16 m) rec14 x0 x1 x2:=
 tre (g:=fun J=>(jj J 1 21 M14 (s16_16 x0 (IntKind.wrap .i64 (x1-1)) x2) (l16 J m w16_10 [] M14))) (fun J=>by kernel_rfl) (by simp only[jj_eq,h14];rfl)
theorem i16_j15_eq m M14 rec14 (h14:H16_14 m M14 rec14) x0 x1 x2:e16 jn m w16_12 [M14] (s16_16 x0 x1 x2)=i16_j15 m (i16 m) rec14 x0 x1 x2:=
 tre (g:=fun J=>((inL x2 (IntKind.wrap .i64 (x1-1))).bind fun v18=>
  ((x2[(Int.toNat (IntKind.wrap .i64 (x1-1)))]?).bind fun v19=>
  ((inL x2 x1).bind fun v20=>
  ((x2[(Int.toNat x1)]?).bind fun v21=>
  ((inL x2 x1).bind fun v22=>
  ((x2[(Int.toNat x1)]?).bind fun v23=>
  ((inL (List.set x2 (Int.toNat x1) v19) (IntKind.wrap .i64 (x1-1))).bind fun v24=>
  (((List.set x2 (Int.toNat x1) v19)[(Int.toNat (IntKind.wrap .i64 (x1-1)))]?).bind fun v25=>
  (jj J 0 22 0 (s16_16 x0 x1 (List.set (List.set x2 (Int.toNat x1) v19) (Int.toNat (IntKind.wrap .i64 (x1-1))) v21)) (e16 J m w16_11 [M14]))))))))))) (fun J=>by kernel_rfl) (by simp only[jj_eq,i16_j16_eq m M14 rec14 h14];rfl)
theorem i16_l14_eq m:∀M14 x0 x1 x2,l16 jn m w16_10 [] M14 (s16_16 x0 x1 x2)=i16_l14 m (i16 m) M14 x0 x1 x2
 |0,_,_,_=>rfl
 | M14+1,x0,x1,x2=>
   trl (g:=fun J=>(bif (decide (x0<x1)) then
  (jj J 0 23 0 (s16_16 x0 x1 x2) (e16 J m w16_12 [M14]))
   else
  some x2)) (fun J=>by kernel_rfl) (by simp only[jj_eq,i16_j15_eq m M14 (i16_l14 m (i16 m) M14) (i16_l14_eq m M14)];rfl)
theorem i16_j13_eq m x0 x1 x2:e16 jn m w16_13 [] (s16_16 x0 x1 x2)=i16_j13 m (i16 m) x0 x1 x2:=
 tre (g:=fun J=>(jj J 1 21 (Nat.succ m) (s16_16 x0 x1 x2) (l16 J m w16_10 [] (Nat.succ m)))) (fun J=>by kernel_rfl) (by simp only[jj_eq,i16_l14_eq m];rfl)
theorem i16_j12_eq m x0 x1 x2:e16 jn m w16_14 [] (s16_12 x0 x1 x2)=i16_j12 m (i16 m) x0 x1 x2:=
 tre (g:=fun J=>(jj J 0 21 0 (s16_16 x1 x0 x2) (e16 J m w16_13 []))) (fun J=>by kernel_rfl) (by simp only[jj_eq,i16_j13_eq m];rfl)
theorem i16_l10_eq m:∀M10 x0 x1 x2 x3,l16 jn m w16_8 [] M10 (s16_11 x0 x1 x2 x3)=i16_l10 m (i16 m) M10 x0 x1 x2 x3
 |0,_,_,_,_=>rfl
 | M10+1,x0,x1,x2,x3=>
   trl (g:=fun J=>(bif (decide (x1<x2)) then
  (jj J 0 16 0 (s16_11 x0 x1 x2 x3) (e16 J m w16_9 [M10]))
   else
  (jj J 0 20 0 (s16_12 x0 x1 x3) (e16 J m w16_14 [])))) (fun J=>by kernel_rfl) (by simp only[jj_eq,i16_j11_eq m M10 (i16_l10 m (i16 m) M10) (i16_l10_eq m M10),i16_j12_eq m];rfl)
theorem i16_j9_eq m x0 x1 x2 x3:e16 jn m w16_15 [] (s16_11 x0 x1 x2 x3)=i16_j9 m (i16 m) x0 x1 x2 x3:=
 tre (g:=fun J=>(jj J 1 15 (Nat.succ m) (s16_11 x0 x1 x2 x3) (l16 J m w16_8 [] (Nat.succ m)))) (fun J=>by kernel_rfl) (by simp only[jj_eq,i16_l10_eq m];rfl)
abbrev H16_20 (m M20:Nat) (rec20:Int→Int→Int→Int→Int→Int→Int→Int→List Dt→Option (List Dt)):Prop:=∀x0 x1 x2 x3 x4 x5 x6 x7 x8,l16 jn m w16_16 [] M20 (s16_21 x0 x1 x2 x3 x4 x5 x6 x7 x8)=rec20 x0 x1 x2 x3 x4 x5 x6 x7 x8
theorem i16_j21_eq m M20 rec20 (h20:H16_20 m M20 rec20) x0 x1 x2 x3 x4 x5 x6 x7 x8:e16 jn m w16_17 [M20] (s16_21 x0 x1 x2 x3 x4 x5 x6 x7 x8)=i16_j21 m (i16 m) rec20 x0 x1 x2 x3 x4 x5 x6 x7 x8:=
 tre (g:=fun J=>((inL x8 (IntKind.wrap .i64 (x7-(IntKind.wrap .i64 (shrI IntKind.u64 (IntKind.wrap IntKind.u64 (IntKind.wrap .i64 (x5+x6))) 1))))).bind fun v26=>
  ((x8[(Int.toNat (IntKind.wrap .i64 (x7-(IntKind.wrap .i64 (shrI IntKind.u64 (IntKind.wrap IntKind.u64 (IntKind.wrap .i64 (x5+x6))) 1)))))]?).bind fun v27=>
  ((inL x8 (IntKind.wrap .i64 (shrI IntKind.u64 (IntKind.wrap IntKind.u64 (IntKind.wrap .i64 (x5+x6))) 1))).bind fun v28=>
  ((x8[(Int.toNat (IntKind.wrap .i64 (shrI IntKind.u64 (IntKind.wrap IntKind.u64 (IntKind.wrap .i64 (x5+x6))) 1)))]?).bind fun v29=>
  ((reshape_Near_1 m v27 v29).bind fun r30=>
  (bif (Bool.not (decide (r30<0))) then
  (jj J 1 33 M20 (s16_21 x0 x1 x2 x3 x4 (IntKind.wrap .i64 ((IntKind.wrap .i64 (shrI IntKind.u64 (IntKind.wrap IntKind.u64 (IntKind.wrap .i64 (x5+x6))) 1))+1)) x6 x7 x8) (l16 J m w16_16 [] M20))
  else
  (jj J 1 33 M20 (s16_21 x0 x1 x2 x3 x4 x5 (IntKind.wrap .i64 (shrI IntKind.u64 (IntKind.wrap IntKind.u64 (IntKind.wrap .i64 (x5+x6))) 1)) x7 x8) (l16 J m w16_16 [] M20))))))))) (fun J=>by kernel_rfl) (by simp only[jj_eq,h20];rfl)
theorem i16_j27_eq m x0 x1 x2 x3 x4:e16 jn m w16_18 [] (s16_27 x0 x1 x2 x3 x4)=i16_j27 m (i16 m) x0 x1 x2 x3 x4:=
 tre (g:=fun J=>(bif x3 then
  ((i16 m x1 x2 x0 x4).bind fun r33=>
  some r33)
   else
  some x4)) (fun J=>by kernel_rfl) (by rfl)
theorem i16_j26_eq m x0 x1 x2 x3:e16 jn m w16_19 [] (s16_26 x0 x1 x2 x3)=i16_j26 m (i16 m) x0 x1 x2 x3:=
 tre (g:=fun J=>(bif (decide (x1<x2)) then
  (jj J 0 44 0 (s16_27 x0 x1 x2 (decide (x2<x0)) x3) (e16 J m w16_18 []))
   else
  (jj J 0 44 0 (s16_27 x0 x1 x2 false x3) (e16 J m w16_18 [])))) (fun J=>by kernel_rfl) (by simp only[jj_eq,i16_j27_eq m];rfl)
theorem i16_j25_eq m x0 x1 x2 x3 x4 x5 x6:e16 jn m w16_20 [] (s16_25 x0 x1 x2 x3 x4 x5 x6)=i16_j25 m (i16 m) x0 x1 x2 x3 x4 x5 x6:=
 tre (g:=fun J=>(bif x5 then
  ((i16 m x0 x3 x2 x6).bind fun r32=>
  (jj J 0 43 0 (s16_26 x1 x2 x4 r32) (e16 J m w16_19 [])))
   else
  (jj J 0 43 0 (s16_26 x1 x2 x4 x6) (e16 J m w16_19 [])))) (fun J=>by kernel_rfl) (by simp only[jj_eq,i16_j26_eq m];rfl)
theorem i16_j24_eq m x0 x1 x2 x3 x4 x5:e16 jn m w16_21 [] (s16_24 x0 x1 x2 x3 x4 x5)=i16_j24 m (i16 m) x0 x1 x2 x3 x4 x5:=
 tre (g:=fun J=>(bif (decide (x0<x3)) then
  (jj J 0 42 0 (s16_25 x0 x1 x2 x3 x4 (decide (x3<x2)) x5) (e16 J m w16_20 []))
   else
  (jj J 0 42 0 (s16_25 x0 x1 x2 x3 x4 false x5) (e16 J m w16_20 [])))) (fun J=>by kernel_rfl) (by simp only[jj_eq,i16_j25_eq m];rfl)
theorem i16_j23_eq m x0 x1 x2 x3 x4 x5 x6 x7:e16 jn m w16_22 [] (s16_23 x0 x1 x2 x3 x4 x5 x6 x7)=i16_j23 m (i16 m) x0 x1 x2 x3 x4 x5 x6 x7:=
 tre (g:=fun J=>(bif x6 then
  ((i17 m x4 x1 x5 x7).bind fun r31=>
  (jj J 0 41 0 (s16_24 x0 x2 x3 x4 x5 r31) (e16 J m w16_21 [])))
   else
  (jj J 0 41 0 (s16_24 x0 x2 x3 x4 x5 x7) (e16 J m w16_21 [])))) (fun J=>by kernel_rfl) (by simp only[jj_eq,i16_j24_eq m];rfl)
theorem i16_j22_eq m x0 x1 x2 x3 x4 x5 x6:e16 jn m w16_23 [] (s16_22 x0 x1 x2 x3 x4 x5 x6)=i16_j22 m (i16 m) x0 x1 x2 x3 x4 x5 x6:=
 tre (g:=fun J=>(bif (decide (x5<x1)) then
  (jj J 0 40 0 (s16_23 x0 x1 x2 x3 x5 (IntKind.wrap .i64 (x4-x5)) (decide (x1<(IntKind.wrap .i64 (x4-x5)))) x6) (e16 J m w16_22 []))
   else
  (jj J 0 40 0 (s16_23 x0 x1 x2 x3 x5 (IntKind.wrap .i64 (x4-x5)) false x6) (e16 J m w16_22 [])))) (fun J=>by kernel_rfl) (by simp only[jj_eq,i16_j23_eq m];rfl)
theorem i16_l20_eq m:∀M20 x0 x1 x2 x3 x4 x5 x6 x7 x8,l16 jn m w16_16 [] M20 (s16_21 x0 x1 x2 x3 x4 x5 x6 x7 x8)=i16_l20 m (i16 m) M20 x0 x1 x2 x3 x4 x5 x6 x7 x8
 |0,_,_,_,_,_,_,_,_,_=>rfl
 | M20+1,x0,x1,x2,x3,x4,x5,x6,x7,x8=>
   trl (g:=fun J=>(bif (decide (x5<x6)) then
  (jj J 0 34 0 (s16_21 x0 x1 x2 x3 x4 x5 x6 x7 x8) (e16 J m w16_17 [M20]))
   else
  (jj J 0 38 0 (s16_22 x0 x1 x2 x3 x4 x5 x8) (e16 J m w16_23 [])))) (fun J=>by kernel_rfl) (by simp only[jj_eq,i16_j21_eq m M20 (i16_l20 m (i16 m) M20) (i16_l20_eq m M20),i16_j22_eq m];rfl)
theorem i16_j19_eq m x0 x1 x2 x3 x4 x5 x6 x7 x8:e16 jn m w16_24 [] (s16_21 x0 x1 x2 x3 x4 x5 x6 x7 x8)=i16_j19 m (i16 m) x0 x1 x2 x3 x4 x5 x6 x7 x8:=
 tre (g:=fun J=>(jj J 1 33 (Nat.succ m) (s16_21 x0 x1 x2 x3 x4 x5 x6 x7 x8) (l16 J m w16_16 [] (Nat.succ m)))) (fun J=>by kernel_rfl) (by simp only[jj_eq,i16_l20_eq m];rfl)
theorem i16_j18_eq m x0 x1 x2 x3 x4 x5 x6 x7:e16 jn m w16_25 [] (s16_18 x0 x1 x2 x3 x4 x5 x6 x7)=i16_j18 m (i16 m) x0 x1 x2 x3 x4 x5 x6 x7:=
 tre (g:=fun J=>(jj J 0 33 0 (s16_21 x0 x1 x2 x3 x4 x5 x6 (IntKind.wrap .i64 (x4-1)) x7) (e16 J m w16_24 []))) (fun J=>by kernel_rfl) (by simp only[jj_eq,i16_j19_eq m];rfl)
theorem i16_j17_eq m x0 x1 x2 x3:e16 jn m [1,1] [] (s16_17 x0 x1 x2 x3)=i16_j17 m (i16 m) x0 x1 x2 x3:=
 tre (g:=fun J=>(bif (decide ((IntKind.wrap .i64 (shrI IntKind.u64 (IntKind.wrap IntKind.u64 (IntKind.wrap .i64 (x0+x2))) 1))<x1)) then
  (jj J 0 32 0 (s16_18 x0 x1 x2 (IntKind.wrap .i64 (shrI IntKind.u64 (IntKind.wrap IntKind.u64 (IntKind.wrap .i64 (x0+x2))) 1)) (IntKind.wrap .i64 ((IntKind.wrap .i64 (shrI IntKind.u64 (IntKind.wrap IntKind.u64 (IntKind.wrap .i64 (x0+x2))) 1))+x1)) (IntKind.wrap .i64 ((IntKind.wrap .i64 ((IntKind.wrap .i64 (shrI IntKind.u64 (IntKind.wrap IntKind.u64 (IntKind.wrap .i64 (x0+x2))) 1))+x1))-x2)) (IntKind.wrap .i64 (shrI IntKind.u64 (IntKind.wrap IntKind.u64 (IntKind.wrap .i64 (x0+x2))) 1)) x3) (e16 J m w16_25 []))
   else
  (jj J 0 32 0 (s16_18 x0 x1 x2 (IntKind.wrap .i64 (shrI IntKind.u64 (IntKind.wrap IntKind.u64 (IntKind.wrap .i64 (x0+x2))) 1)) (IntKind.wrap .i64 ((IntKind.wrap .i64 (shrI IntKind.u64 (IntKind.wrap IntKind.u64 (IntKind.wrap .i64 (x0+x2))) 1))+x1)) x0 x1 x3) (e16 J m w16_25 [])))) (fun J=>by kernel_rfl) (by simp only[jj_eq,i16_j18_eq m];rfl)
theorem i16_j8_eq m x0 x1 x2 x3:e16 jn m [1] [] (s16_17 x0 x1 x2 x3)=i16_j8 m (i16 m) x0 x1 x2 x3:=
 tre (g:=fun J=>(bif ((IntKind.wrap .i64 (x2-x1))==1) then
  (jj J 0 15 0 (s16_11 x1 x0 x1 x3) (e16 J m w16_15 []))
   else
  (jj J 0 24 0 (s16_17 x0 x1 x2 x3) (e16 J m [1,1] [])))) (fun J=>by kernel_rfl) (by simp only[jj_eq,i16_j9_eq m,i16_j17_eq m];rfl)
theorem i16_eq m a0 a1 a2 a3:e16 jn m [] [] ⟨[(.row 0),(.dat 3 (.int a0)),(.dat 3 (.int a1)),(.dat 3 (.int a2)),(.fn 76 [])],[(.row 113 a3)],1⟩=i16 (m+1) a0 a1 a2 a3:=
 tre (g:=fun J=>(bif ((IntKind.wrap .i64 (a1-a0))==1) then
  (jj J 0 3 0 (s16_2 a0 a1 a2 a3) (e16 J m w16_7 []))
   else
  (jj J 0 12 0 (s16_17 a0 a1 a2 a3) (e16 J m [1] [])))) (fun J=>by kernel_rfl) (by simp only[jj_eq,i16_j0_eq m,i16_j8_eq m];rfl)
def w13_1:List Nat:=[1,1,1,1,0]
def w13_0:List Nat:=[1,1,0,0,0,1]
def w13_7:List Nat:=[1,1,1,1,0,0,1]
def w13_6:List Nat:=w13_7++[0,1]
def w13_5:List Nat:=w13_6++[1]
def w13_2:List Nat:=w13_6++[0,0]
def w13_4:List Nat:=w13_5++[1]
def w13_3:List Nat:=w13_2++[0,1]
noncomputable def e13 (J:Nat→Nat→Nat→St→Option (List Dt)→Option (List Dt)) (m:Nat) (p ms:List Nat) (σ:St):=evAt Tryz.prog env (ct m) J (m+1) 122 63 Tryz.f122 d14 p ms σ
noncomputable def l13 (J:Nat→Nat→Nat→St→Option (List Dt)→Option (List Dt)) (m:Nat) (p ms:List Nat) (M:Nat) (σ:St):=loopAt Tryz.prog env (ct m) J (m+1) 122 63 Tryz.f122 d14 p ms M σ
noncomputable def s13_2 (x0 x1 x2 x3:Int) (x4:List Dt):St:=⟨tsOf [(0,(.row 0)),(1,(.dat 3 (.int x0))),(2,(.fn 76 [])),(6,(.dat 3 (.int x1))),(7,(.dat 3 (.int x2))),(8,(.dat 3 (.int x3)))],[(.row 113 x4)],1⟩
noncomputable def s13_11 (x0 x1:Int) (x2:List Dt):St:=⟨tsOf [(0,(.row 0)),(1,(.dat 3 (.int x0))),(2,(.fn 76 [])),(6,(.dat 3 (.int x1)))],[(.row 113 x2)],1⟩
noncomputable def s13_10 (x0 x1 x2:Int) (x3:List Dt):St:=⟨tsOf [(0,(.row 0)),(1,(.dat 3 (.int x0))),(2,(.fn 76 [])),(6,(.dat 3 (.int x1))),(7,(.dat 3 (.int x2)))],[(.row 113 x3)],1⟩
abbrev H13_1 (m M1:Nat) (rec1:Int→Int→Int→Int→List Dt→Option (List Dt)):Prop:=∀x0 x1 x2 x3 x4,l13 jn m [1,1,0,0] [] M1 (s13_2 x0 x1 x2 x3 x4)=rec1 x0 x1 x2 x3 x4
theorem i13_j2_eq m M1 rec1 (h1:H13_1 m M1 rec1) x0 x1 x2 x3 x4:e13 jn m w13_0 [M1] (s13_2 x0 x1 x2 x3 x4)=i13_j2 m rec1 x0 x1 x2 x3 x4:=
 tre (g:=fun J=>((i14 m x2 x3 x4).bind fun r0=>
  (jj J 1 2 M1 (s13_2 x0 x1 x3 (IntKind.wrap .i64 (x3+x1)) r0) (l13 J m [1,1,0,0] [] M1)))) (fun J=>by kernel_rfl) (by simp only[jj_eq,h1];rfl)
abbrev H13_5 (m M5:Nat) (rec5:Int→Int→List Dt→Option (List Dt)):Prop:=∀x0 x1 x2,l13 jn m w13_1 [] M5 (s13_11 x0 x1 x2)=rec5 x0 x1 x2
abbrev H13_8 (m M5 M8:Nat) (rec8:Int→Int→Int→Int→List Dt→Option (List Dt)):Prop:=∀x0 x1 x2 x3 x4,l13 jn m w13_2 [M5] M8 (s13_2 x0 x1 x2 x3 x4)=rec8 x0 x1 x2 x3 x4
theorem i13_j9_eq m M5 rec5 (h5:H13_5 m M5 rec5) M8 rec8 (h8:H13_8 m M5 M8 rec8) x0 x1 x2 x3 x4:e13 jn m w13_3 [M5,M8] (s13_2 x0 x1 x2 x3 x4)=i13_j9 m rec5 rec8 x0 x1 x2 x3 x4:=
 tre (g:=fun J=>((i16 m x2 (IntKind.wrap .i64 (x2+x1)) x3 x4).bind fun r2=>
  (jj J 1 9 M8 (s13_2 x0 x1 x3 (IntKind.wrap .i64 (x3+(IntKind.wrap .i64 (2*x1)))) r2) (l13 J m w13_2 [M5] M8)))) (fun J=>by kernel_rfl) (by simp only[jj_eq,h8];rfl)
theorem i13_j11_eq m M5 rec5 (h5:H13_5 m M5 rec5) x0 x1 x2:e13 jn m w13_4 [M5] (s13_11 x0 x1 x2)=i13_j11 m rec5 x0 x1 x2:=
 tre (g:=fun J=>(jj J 1 7 M5 (s13_11 x0 (IntKind.wrap .i64 (x1*2)) x2) (l13 J m w13_1 [] M5))) (fun J=>by kernel_rfl) (by simp only[jj_eq,h5];rfl)
theorem i13_j10_eq m M5 rec5 (h5:H13_5 m M5 rec5) x0 x1 x2 x3:e13 jn m w13_5 [M5] (s13_10 x0 x1 x2 x3)=i13_j10 m rec5 x0 x1 x2 x3:=
 tre (g:=fun J=>(bif (decide ((IntKind.wrap .i64 (x2+x1))<x0)) then
  ((i16 m x2 (IntKind.wrap .i64 (x2+x1)) x0 x3).bind fun r3=>
  (jj J 0 16 0 (s13_11 x0 x1 r3) (e13 J m w13_4 [M5])))
   else
  (jj J 0 16 0 (s13_11 x0 x1 x3) (e13 J m w13_4 [M5])))) (fun J=>by kernel_rfl) (by simp only[jj_eq,i13_j11_eq m M5 rec5 h5];rfl)
theorem i13_l8_eq m M5 rec5 (h5:H13_5 m M5 rec5):∀M8 x0 x1 x2 x3 x4,l13 jn m w13_2 [M5] M8 (s13_2 x0 x1 x2 x3 x4)=i13_l8 m rec5 M8 x0 x1 x2 x3 x4
 |0,_,_,_,_,_=>rfl
 | M8+1,x0,x1,x2,x3,x4=>
   trl (g:=fun J=>(bif (decide (x3≤x0)) then
  (jj J 0 10 0 (s13_2 x0 x1 x2 x3 x4) (e13 J m w13_3 [M5,M8]))
   else
  (jj J 0 13 0 (s13_10 x0 x1 x2 x4) (e13 J m w13_5 [M5])))) (fun J=>by kernel_rfl) (by simp only[jj_eq,i13_j9_eq m M5 rec5 h5 M8 (i13_l8 m rec5 M8) (i13_l8_eq m M5 rec5 h5 M8),i13_j10_eq m M5 rec5 h5];rfl)
theorem i13_j7_eq m M5 rec5 (h5:H13_5 m M5 rec5) x0 x1 x2 x3 x4:e13 jn m w13_6 [M5] (s13_2 x0 x1 x2 x3 x4)=i13_j7 m rec5 x0 x1 x2 x3 x4:=
 tre (g:=fun J=>(jj J 1 9 (Nat.succ m) (s13_2 x0 x1 x2 x3 x4) (l13 J m w13_2 [M5] (Nat.succ m)))) (fun J=>by kernel_rfl) (by simp only[jj_eq,i13_l8_eq m M5 rec5 h5];rfl)
theorem i13_j6_eq m M5 rec5 (h5:H13_5 m M5 rec5) x0 x1 x2:e13 jn m w13_7 [M5] (s13_11 x0 x1 x2)=i13_j6 m rec5 x0 x1 x2:=
 tre (g:=fun J=>(jj J 0 9 0 (s13_2 x0 x1 0 (IntKind.wrap .i64 (2*x1)) x2) (e13 J m w13_6 [M5]))) (fun J=>by kernel_rfl) (by simp only[jj_eq,i13_j7_eq m M5 rec5 h5];rfl)
theorem i13_l5_eq m:∀M5 x0 x1 x2,l13 jn m w13_1 [] M5 (s13_11 x0 x1 x2)=i13_l5 m M5 x0 x1 x2
 |0,_,_,_=>rfl
 | M5+1,x0,x1,x2=>
   trl (g:=fun J=>(bif (decide (x1<x0)) then
  (jj J 0 8 0 (s13_11 x0 x1 x2) (e13 J m w13_7 [M5]))
   else
  some x2)) (fun J=>by kernel_rfl) (by simp only[jj_eq,i13_j6_eq m M5 (i13_l5 m M5) (i13_l5_eq m M5)];rfl)
theorem i13_j4_eq m x0 x1 x2:e13 jn m [1,1,1,1] [] (s13_11 x0 x1 x2)=i13_j4 m x0 x1 x2:=
 tre (g:=fun J=>(jj J 1 7 (Nat.succ m) (s13_11 x0 x1 x2) (l13 J m w13_1 [] (Nat.succ m)))) (fun J=>by kernel_rfl) (by simp only[jj_eq,i13_l5_eq m];rfl)
theorem i13_j3_eq m x0 x1 x2 x3:e13 jn m [1,1,1] [] (s13_10 x0 x1 x2 x3)=i13_j3 m x0 x1 x2 x3:=
 tre (g:=fun J=>((i14 m x2 x0 x3).bind fun r1=>
  (jj J 0 7 0 (s13_11 x0 x1 r1) (e13 J m [1,1,1,1] [])))) (fun J=>by kernel_rfl) (by simp only[jj_eq,i13_j4_eq m];rfl)
theorem i13_l1_eq m:∀M1 x0 x1 x2 x3 x4,l13 jn m [1,1,0,0] [] M1 (s13_2 x0 x1 x2 x3 x4)=i13_l1 m M1 x0 x1 x2 x3 x4
 |0,_,_,_,_,_=>rfl
 | M1+1,x0,x1,x2,x3,x4=>
   trl (g:=fun J=>(bif (decide (x3≤x0)) then
  (jj J 0 3 0 (s13_2 x0 x1 x2 x3 x4) (e13 J m w13_0 [M1]))
   else
  (jj J 0 6 0 (s13_10 x0 x1 x2 x4) (e13 J m [1,1,1] [])))) (fun J=>by kernel_rfl) (by simp only[jj_eq,i13_j2_eq m M1 (i13_l1 m M1) (i13_l1_eq m M1),i13_j3_eq m];rfl)
theorem i13_j0_eq m x0 x1 x2 x3 x4:e13 jn m [1,1] [] (s13_2 x0 x1 x2 x3 x4)=i13_j0 m x0 x1 x2 x3 x4:=
 tre (g:=fun J=>(jj J 1 2 (Nat.succ m) (s13_2 x0 x1 x2 x3 x4) (l13 J m [1,1,0,0] [] (Nat.succ m)))) (fun J=>by kernel_rfl) (by simp only[jj_eq,i13_l1_eq m];rfl)
theorem i13_eq m a0 a1:e13 jn m [] [] ⟨[(.row 0),(.dat 3 (.int a0)),(.fn 76 [])],[(.row 113 a1)],1⟩=i13 (m+1) a0 a1:=
 tre (g:=fun J=>(jj J 0 2 0 (s13_2 a0 20 0 20 a1) (e13 J m [1,1] []))) (fun J=>by kernel_rfl) (by simp only[jj_eq,i13_j0_eq m];rfl)
noncomputable def e12 (J:Nat→Nat→Nat→St→Option (List Dt)→Option (List Dt)) (m:Nat) (p ms:List Nat) (σ:St):=evAt Tryz.prog env (ct m) J (m+1) 75 9 Tryz.f75 d14 p ms σ
noncomputable def l12 (J:Nat→Nat→Nat→St→Option (List Dt)→Option (List Dt)) (m:Nat) (p ms:List Nat) (M:Nat) (σ:St):=loopAt Tryz.prog env (ct m) J (m+1) 75 9 Tryz.f75 d14 p ms M σ
theorem i12_eq m a0:e12 jn m [] [] ⟨[(.row 0),(.fn 76 [])],[(.row 113 a0)],1⟩=i12 (m+1) a0:=
 tre (g:=fun J=>((i13 m (List.length a0:Int) a0).bind fun r0=>
  some r0)) (fun J=>by kernel_rfl) (by rfl)
def w19_6:List Nat:=[1,1,1,1,1]
def w19_8:List Nat:=[1,1,1,0,1]
def w19_0:List Nat:=[1,1,1,0,1,0]
def w19_7:List Nat:=[1,1,1,1,0,1]
def w19_3:List Nat:=w19_7++[0]
def w19_2:List Nat:=w19_0++[0,1,1]
def w19_1:List Nat:=w19_2++[1]
def w19_5:List Nat:=w19_3++[0,1,1]
def w19_4:List Nat:=w19_5++[1]
noncomputable def e19 (J:Nat→Nat→Nat→St→Option Dt→Option Dt) (m:Nat) (p ms:List Nat) (σ:St):=evAt Tryz.prog env (ct m) J (m+1) 72 46 Tryz.f72 d19 p ms σ
noncomputable def l19 (J:Nat→Nat→Nat→St→Option Dt→Option Dt) (m:Nat) (p ms:List Nat) (M:Nat) (σ:St):=loopAt Tryz.prog env (ct m) J (m+1) 72 46 Tryz.f72 d19 p ms M σ
noncomputable def s19_3 (x0:List Dt) (x1 x2:Int) (x3 x4:Dt) (x5 x6:Int) (x7:ByteArray) (x8 x9:List Dt):St:=⟨tsOf [(1,(.ptr 0 [] 0)),(2,(.ptr 1 [] 0)),(3,(.ptr 2 [] 0)),(12,(.dat 23 (.lst x0))),(13,(.dat 3 (.int x1))),(14,(.dat 3 (.int x2)))],[(.box 33 (.dat 33 x3)),(.box 33 (.dat 33 x4)),(.box 33 (.agg 33 [(.dat 3 (.int x5)),(.dat 3 (.int x6)),(.dat 9 (.str x7)),(.row 3),(.row 4)])),(.row 23 x8),(.row 31 x9)],0⟩
noncomputable def s19_8 (x0:List Dt) (x1 x2:Int) (x3:Dt) (x4 x5:Int) (x6:ByteArray) (x7 x8:List Dt):St:=⟨tsOf [(2,(.ptr 0 [] 0)),(3,(.ptr 1 [] 0)),(27,(.dat 31 (.lst x0))),(28,(.dat 3 (.int x1))),(29,(.dat 3 (.int x2)))],[(.box 33 (.dat 33 x3)),(.box 33 (.agg 33 [(.dat 3 (.int x4)),(.dat 3 (.int x5)),(.dat 9 (.str x6)),(.row 2),(.row 3)])),(.row 23 x7),(.row 31 x8)],0⟩
noncomputable def s19_9 (x0:Dt) (x1 x2:Int) (x3:ByteArray) (x4 x5:List Dt):St:=⟨tsOf [(2,(.ptr 0 [] 0)),(3,(.ptr 1 [] 0))],[(.box 33 (.dat 33 x0)),(.box 33 (.agg 33 [(.dat 3 (.int x1)),(.dat 3 (.int x2)),(.dat 9 (.str x3)),(.row 2),(.row 3)])),(.row 23 x4),(.row 31 x5)],0⟩
noncomputable def s19_4 (x0 x1:Dt) (x2 x3:Int) (x4:ByteArray) (x5 x6:List Dt):St:=⟨tsOf [(1,(.ptr 0 [] 0)),(2,(.ptr 1 [] 0)),(3,(.ptr 2 [] 0))],[(.box 33 (.dat 33 x0)),(.box 33 (.dat 33 x1)),(.box 33 (.agg 33 [(.dat 3 (.int x2)),(.dat 3 (.int x3)),(.dat 9 (.str x4)),(.row 3),(.row 4)])),(.row 23 x5),(.row 31 x6)],0⟩
abbrev H19_1 (m M1:Nat) (rec1:List Dt→Int→Int→Dt→Dt→Int→Int→ByteArray→List Dt→List Dt→Option Dt):Prop:=∀x0 x1 x2 x3 x4 x5 x6 x7 x8 x9,l19 jn m w19_0 [] M1 (s19_3 x0 x1 x2 x3 x4 x5 x6 x7 x8 x9)=rec1 x0 x1 x2 x3 x4 x5 x6 x7 x8 x9
theorem reshape_copyValue_j3_eq m M1 rec1 (h1:H19_1 m M1 rec1) x0 x1 x2 x3 x4 x5 x6 x7 x8 x9:e19 jn m w19_1 [M1] (s19_3 x0 x1 x2 x3 x4 x5 x6 x7 x8 x9)=reshape_copyValue_j3 m (reshape_copyValue m) rec1 x0 x1 x2 x3 x4 x5 x6 x7 x8 x9:=
 tre (g:=fun J=>(jj J 1 4 M1 (s19_3 x0 x1 (IntKind.wrap .i64 (x2+1)) x3 x4 x5 x6 x7 x8 x9) (l19 J m w19_0 [] M1))) (fun J=>by kernel_rfl) (by simp only[jj_eq,h1];rfl)
theorem reshape_copyValue_j2_eq m M1 rec1 (h1:H19_1 m M1 rec1) x0 x1 x2 x3 x4 x5 x6 x7 x8 x9:e19 jn m w19_2 [M1] (s19_3 x0 x1 x2 x3 x4 x5 x6 x7 x8 x9)=reshape_copyValue_j2 m (reshape_copyValue m) rec1 x0 x1 x2 x3 x4 x5 x6 x7 x8 x9:=
 tre (g:=fun J=>((idx x0 x2).bind fun v0=>
  ((reshape_copyValue m v0).bind fun r1=>
  ((app x8 [r1]).bind fun v2=>
  (jj J 0 7 0 (s19_3 x0 x1 x2 x3 x4 x5 x6 x7 v2 x9) (e19 J m w19_1 [M1])))))) (fun J=>by kernel_rfl) (by simp only[jj_eq,reshape_copyValue_j3_eq m M1 rec1 h1];rfl)
abbrev H19_6 (m M6:Nat) (rec6:List Dt→Int→Int→Dt→Int→Int→ByteArray→List Dt→List Dt→Option Dt):Prop:=∀x0 x1 x2 x3 x4 x5 x6 x7 x8,l19 jn m w19_3 [] M6 (s19_8 x0 x1 x2 x3 x4 x5 x6 x7 x8)=rec6 x0 x1 x2 x3 x4 x5 x6 x7 x8
theorem reshape_copyValue_j8_eq m M6 rec6 (h6:H19_6 m M6 rec6) x0 x1 x2 x3 x4 x5 x6 x7 x8:e19 jn m w19_4 [M6] (s19_8 x0 x1 x2 x3 x4 x5 x6 x7 x8)=reshape_copyValue_j8 m (reshape_copyValue m) rec6 x0 x1 x2 x3 x4 x5 x6 x7 x8:=
 tre (g:=fun J=>(jj J 1 9 M6 (s19_8 x0 x1 (IntKind.wrap .i64 (x2+1)) x3 x4 x5 x6 x7 x8) (l19 J m w19_3 [] M6))) (fun J=>by kernel_rfl) (by simp only[jj_eq,h6];rfl)
theorem reshape_copyValue_j7_eq m M6 rec6 (h6:H19_6 m M6 rec6) x0 x1 x2 x3 x4 x5 x6 x7 x8:e19 jn m w19_5 [M6] (s19_8 x0 x1 x2 x3 x4 x5 x6 x7 x8)=reshape_copyValue_j7 m (reshape_copyValue m) rec6 x0 x1 x2 x3 x4 x5 x6 x7 x8:=
 tre (g:=fun J=>((idx x0 x2).bind fun v3=>
  ((reshape_copyValue m (Dt.fld v3 1)).bind fun r4=>
  ((app x8 [(Dt.agg [(Dt.str (Dt.S v3 0)),r4])]).bind fun v5=>
  (jj J 0 12 0 (s19_8 x0 x1 x2 x3 x4 x5 x6 x7 v5) (e19 J m w19_4 [M6])))))) (fun J=>by kernel_rfl) (by simp only[jj_eq,reshape_copyValue_j8_eq m M6 rec6 h6];rfl)
theorem reshape_copyValue_j9_eq m x0 x1 x2 x3 x4 x5:e19 jn m w19_6 [] (s19_9 x0 x1 x2 x3 x4 x5)=reshape_copyValue_j9 m (reshape_copyValue m) x0 x1 x2 x3 x4 x5:=
 tre (g:=fun J=>some (Dt.agg [(Dt.int x1),(Dt.int x2),(Dt.str x3),(Dt.lst x4),(Dt.lst x5)])) (fun J=>by kernel_rfl) (by rfl)
theorem reshape_copyValue_l6_eq m:∀M6 x0 x1 x2 x3 x4 x5 x6 x7 x8,l19 jn m w19_3 [] M6 (s19_8 x0 x1 x2 x3 x4 x5 x6 x7 x8)=reshape_copyValue_l6 m (reshape_copyValue m) M6 x0 x1 x2 x3 x4 x5 x6 x7 x8
 |0,_,_,_,_,_,_,_,_,_=>rfl
 | M6+1,x0,x1,x2,x3,x4,x5,x6,x7,x8=>
   trl (g:=fun J=>(bif (decide (x2<x1)) then
  (jj J 0 10 0 (s19_8 x0 x1 x2 x3 x4 x5 x6 x7 x8) (e19 J m w19_5 [M6]))
   else
  (jj J 0 13 0 (s19_9 x3 x4 x5 x6 x7 x8) (e19 J m w19_6 [])))) (fun J=>by kernel_rfl) (by simp only[jj_eq,reshape_copyValue_j7_eq m M6 (reshape_copyValue_l6 m (reshape_copyValue m) M6) (reshape_copyValue_l6_eq m M6),reshape_copyValue_j9_eq m];rfl)
theorem reshape_copyValue_j5_eq m x0 x1 x2 x3 x4 x5 x6 x7 x8:e19 jn m w19_7 [] (s19_8 x0 x1 x2 x3 x4 x5 x6 x7 x8)=reshape_copyValue_j5 m (reshape_copyValue m) x0 x1 x2 x3 x4 x5 x6 x7 x8:=
 tre (g:=fun J=>(jj J 1 9 (Nat.succ m) (s19_8 x0 x1 x2 x3 x4 x5 x6 x7 x8) (l19 J m w19_3 [] (Nat.succ m)))) (fun J=>by kernel_rfl) (by simp only[jj_eq,reshape_copyValue_l6_eq m];rfl)
theorem reshape_copyValue_j4_eq m x0 x1 x2 x3 x4 x5 x6:e19 jn m [1,1,1,1] [] (s19_4 x0 x1 x2 x3 x4 x5 x6)=reshape_copyValue_j4 m (reshape_copyValue m) x0 x1 x2 x3 x4 x5 x6:=
 tre (g:=fun J=>(jj J 0 9 0 (s19_8 (Dt.L x0 4) (List.length (Dt.L x0 4):Int) 0 x1 x2 x3 x4 x5 x6) (e19 J m w19_7 []))) (fun J=>by kernel_rfl) (by simp only[jj_eq,reshape_copyValue_j5_eq m];rfl)
theorem reshape_copyValue_l1_eq m:∀M1 x0 x1 x2 x3 x4 x5 x6 x7 x8 x9,l19 jn m w19_0 [] M1 (s19_3 x0 x1 x2 x3 x4 x5 x6 x7 x8 x9)=reshape_copyValue_l1 m (reshape_copyValue m) M1 x0 x1 x2 x3 x4 x5 x6 x7 x8 x9
 |0,_,_,_,_,_,_,_,_,_,_=>rfl
 | M1+1,x0,x1,x2,x3,x4,x5,x6,x7,x8,x9=>
   trl (g:=fun J=>(bif (decide (x2<x1)) then
  (jj J 0 5 0 (s19_3 x0 x1 x2 x3 x4 x5 x6 x7 x8 x9) (e19 J m w19_2 [M1]))
   else
  (jj J 0 8 0 (s19_4 x3 x4 x5 x6 x7 x8 x9) (e19 J m [1,1,1,1] [])))) (fun J=>by kernel_rfl) (by simp only[jj_eq,reshape_copyValue_j2_eq m M1 (reshape_copyValue_l1 m (reshape_copyValue m) M1) (reshape_copyValue_l1_eq m M1),reshape_copyValue_j4_eq m];rfl)
theorem reshape_copyValue_j0_eq m x0 x1 x2 x3 x4 x5 x6 x7 x8 x9:e19 jn m w19_8 [] (s19_3 x0 x1 x2 x3 x4 x5 x6 x7 x8 x9)=reshape_copyValue_j0 m (reshape_copyValue m) x0 x1 x2 x3 x4 x5 x6 x7 x8 x9:=
 tre (g:=fun J=>(jj J 1 4 (Nat.succ m) (s19_3 x0 x1 x2 x3 x4 x5 x6 x7 x8 x9) (l19 J m w19_0 [] (Nat.succ m)))) (fun J=>by kernel_rfl) (by simp only[jj_eq,reshape_copyValue_l1_eq m];rfl)
theorem reshape_copyValue_eq m a0:e19 jn m [] [] ⟨[(.dat 33 a0)],[],0⟩=reshape_copyValue (m+1) a0:=
 tre (g:=fun J=>(jj J 0 4 0 (s19_3 (Dt.L a0 3) (List.length (Dt.L a0 3):Int) 0 a0 kza2373 (Dt.I a0 0) (Dt.I a0 1) (Dt.S a0 2) [] []) (e19 J m w19_8 []))) (fun J=>by kernel_rfl) (by simp only[jj_eq,reshape_copyValue_j0_eq m];rfl)
noncomputable def e20 (J:Nat→Nat→Nat→St→Option Dt→Option Dt) (m:Nat) (p ms:List Nat) (σ:St):=evAt Tryz.prog env (ct m) J (m+1) 62 5 Tryz.f62 d19 p ms σ
noncomputable def l20 (J:Nat→Nat→Nat→St→Option Dt→Option Dt) (m:Nat) (p ms:List Nat) (M:Nat) (σ:St):=loopAt Tryz.prog env (ct m) J (m+1) 62 5 Tryz.f62 d19 p ms M σ
theorem reshape_integer_eq m a0:e20 jn m [] [] ⟨[(.dat 3 (.int a0))],[],0⟩=reshape_integer (m+1) a0:=
 tre (g:=fun J=>some (Dt.agg [(Dt.int 3),(Dt.int a0),(Dt.str (ByteArray.mk (List.toArray []))),(Dt.lst []),(Dt.lst [])])) (fun J=>by kernel_rfl) (by rfl)
noncomputable def e24 (J:Nat→Nat→Nat→St→Option Dt→Option Dt) (m:Nat) (p ms:List Nat) (σ:St):=evAt Tryz.prog env (ct m) J (m+1) 51 5 Tryz.f51 d19 p ms σ
noncomputable def l24 (J:Nat→Nat→Nat→St→Option Dt→Option Dt) (m:Nat) (p ms:List Nat) (M:Nat) (σ:St):=loopAt Tryz.prog env (ct m) J (m+1) 51 5 Tryz.f51 d19 p ms M σ
theorem ref36_integer_eq m a0:e24 jn m [] [] ⟨[(.dat 3 (.int a0))],[],0⟩=ref36_integer (m+1) a0:=
 tre (g:=fun J=>some (Dt.agg [(Dt.int 3),(Dt.int a0),(Dt.str (ByteArray.mk (List.toArray []))),(Dt.lst []),(Dt.lst [])])) (fun J=>by kernel_rfl) (by rfl)
def w28_0:List Nat:=[1,1,0,1,0]
def w28_3:List Nat:=[1,1,0,1,0,0,1]
def w28_1:List Nat:=w28_3++[1]
def w28_2:List Nat:=w28_3++[0,0,1]
noncomputable def e28 (J:Nat→Nat→Nat→St→Option Bool→Option Bool) (m:Nat) (p ms:List Nat) (σ:St):=evAt Tryz.prog env (ct m) J (m+1) 42 39 Tryz.f42 d5 p ms σ
noncomputable def l28 (J:Nat→Nat→Nat→St→Option Bool→Option Bool) (m:Nat) (p ms:List Nat) (M:Nat) (σ:St):=loopAt Tryz.prog env (ct m) J (m+1) 42 39 Tryz.f42 d5 p ms M σ
noncomputable def s28_6 (x0:ByteArray) (x1:Int):St:=⟨tsOf [(0,(.dat 9 (.str x0))),(3,(.dat 3 (.int x1)))],[],0⟩
noncomputable def s28_5 (x0:ByteArray) (x1:Int) (x2:Bool):St:=⟨tsOf [(0,(.dat 9 (.str x0))),(3,(.dat 3 (.int x1))),(38,(.dat 4 (.bool x2)))],[],0⟩
noncomputable def s28_7:St:=⟨tsOf [],[],0⟩
noncomputable def s28_1 (x0:ByteArray):St:=⟨tsOf [(0,(.dat 9 (.str x0)))],[],0⟩
noncomputable def s28_0 (x0:ByteArray) (x1:Bool):St:=⟨tsOf [(0,(.dat 9 (.str x0))),(16,(.dat 4 (.bool x1)))],[],0⟩
abbrev H28_3 (m M3:Nat) (rec3:ByteArray→Int→Option Bool):Prop:=∀x0 x1,l28 jn m w28_0 [] M3 (s28_6 x0 x1)=rec3 x0 x1
theorem ref01_Name_j6_eq m M3 rec3 (h3:H28_3 m M3 rec3) x0 x1:e28 jn m w28_1 [M3] (s28_6 x0 x1)=ref01_Name_j6 m rec3 x0 x1:=
 tre (g:=fun J=>(jj J 1 4 M3 (s28_6 x0 (IntKind.wrap .i64 (x1+1))) (l28 J m w28_0 [] M3))) (fun J=>by kernel_rfl) (by simp only[jj_eq,h3];rfl)
theorem ref01_Name_j5_eq m M3 rec3 (h3:H28_3 m M3 rec3) x0 x1 x2:e28 jn m w28_2 [M3] (s28_5 x0 x1 x2)=ref01_Name_j5 m rec3 x0 x1 x2:=
 tre (g:=fun J=>(bif x2 then
  some false
   else
  (jj J 0 5 0 (s28_6 x0 x1) (e28 J m w28_1 [M3])))) (fun J=>by kernel_rfl) (by simp only[jj_eq,ref01_Name_j6_eq m M3 rec3 h3];rfl)
theorem ref01_Name_j4_eq m M3 rec3 (h3:H28_3 m M3 rec3) x0 x1:e28 jn m w28_3 [M3] (s28_6 x0 x1)=ref01_Name_j4 m rec3 x0 x1:=
 tre (g:=fun J=>((idxS x0 x1).bind fun v0=>
  (bif (decide (v0<33)) then
  (jj J 0 7 0 (s28_5 x0 x1 true) (e28 J m w28_2 [M3]))
  else
  ((idxS x0 x1).bind fun v1=>
  (bif (decide (126<v1)) then
  (jj J 0 7 0 (s28_5 x0 x1 true) (e28 J m w28_2 [M3]))
  else
  ((idxS x0 x1).bind fun v2=>
  (jj J 0 7 0 (s28_5 x0 x1 (v2==46)) (e28 J m w28_2 [M3])))))))) (fun J=>by kernel_rfl) (by simp only[jj_eq,ref01_Name_j5_eq m M3 rec3 h3];rfl)
theorem ref01_Name_j7_eq m:e28 jn m [1,1,1] [] s28_7=ref01_Name_j7 m:=
 tre (g:=fun J=>some true) (fun J=>by kernel_rfl) (by rfl)
theorem ref01_Name_l3_eq m:∀M3 x0 x1,l28 jn m w28_0 [] M3 (s28_6 x0 x1)=ref01_Name_l3 m M3 x0 x1
 |0,_,_=>rfl
 | M3+1,x0,x1=>
   trl (g:=fun J=>(bif (decide (x1<(ByteArray.size x0:Int))) then
  (jj J 0 6 0 (s28_6 x0 x1) (e28 J m w28_3 [M3]))
   else
  (jj J 0 8 0 s28_7 (e28 J m [1,1,1] [])))) (fun J=>by kernel_rfl) (by simp only[jj_eq,ref01_Name_j4_eq m M3 (ref01_Name_l3 m M3) (ref01_Name_l3_eq m M3),ref01_Name_j7_eq m];rfl)
theorem ref01_Name_j2_eq m x0 x1:e28 jn m [1,1,0,1] [] (s28_6 x0 x1)=ref01_Name_j2 m x0 x1:=
 tre (g:=fun J=>(jj J 1 4 (Nat.succ m) (s28_6 x0 x1) (l28 J m w28_0 [] (Nat.succ m)))) (fun J=>by kernel_rfl) (by simp only[jj_eq,ref01_Name_l3_eq m];rfl)
theorem ref01_Name_j1_eq m x0:e28 jn m [1,1] [] (s28_1 x0)=ref01_Name_j1 m x0:=
 tre (g:=fun J=>(jj J 0 4 0 (s28_6 x0 0) (e28 J m [1,1,0,1] []))) (fun J=>by kernel_rfl) (by simp only[jj_eq,ref01_Name_j2_eq m];rfl)
theorem ref01_Name_j0_eq m x0 x1:e28 jn m [1,0,1] [] (s28_0 x0 x1)=ref01_Name_j0 m x0 x1:=
 tre (g:=fun J=>(bif x1 then
  some false
   else
  (jj J 0 3 0 (s28_1 x0) (e28 J m [1,1] [])))) (fun J=>by kernel_rfl) (by simp only[jj_eq,ref01_Name_j1_eq m];rfl)
theorem ref01_Name_eq m a0:e28 jn m [] [] ⟨[(.dat 9 (.str a0))],[],0⟩=ref01_Name (m+1) a0:=
 tre (g:=fun J=>(bif (decide ((ByteArray.size a0:Int)<1)) then
  (jj J 0 2 0 (s28_0 a0 true) (e28 J m [1,0,1] []))
   else
  (bif (decide (32<(ByteArray.size a0:Int))) then
  (jj J 0 2 0 (s28_0 a0 true) (e28 J m [1,0,1] []))
  else
  ((idxS a0 0).bind fun v3=>
  (jj J 0 2 0 (s28_0 a0 (v3==36)) (e28 J m [1,0,1] [])))))) (fun J=>by kernel_rfl) (by simp only[jj_eq,ref01_Name_j0_eq m];rfl)
def w6_0:List Nat:=[1,1,0,1,0]
def w6_2:List Nat:=[1,1,0,1,0,0,1]
def w6_1:List Nat:=w6_2++[1]
noncomputable def e6 (J:Nat→Nat→Nat→St→Option Bool→Option Bool) (m:Nat) (p ms:List Nat) (σ:St):=evAt Tryz.prog env (ct m) J (m+1) 11 24 Tryz.f11 d5 p ms σ
noncomputable def l6 (J:Nat→Nat→Nat→St→Option Bool→Option Bool) (m:Nat) (p ms:List Nat) (M:Nat) (σ:St):=loopAt Tryz.prog env (ct m) J (m+1) 11 24 Tryz.f11 d5 p ms M σ
noncomputable def s6_5 (x0:List Dt) (x1:Int):St:=⟨tsOf [(0,(.dat 22 (.lst x0))),(3,(.dat 3 (.int x1)))],[],0⟩
noncomputable def s6_6:St:=⟨tsOf [],[],0⟩
noncomputable def s6_1 (x0:List Dt):St:=⟨tsOf [(0,(.dat 22 (.lst x0)))],[],0⟩
noncomputable def s6_0 (x0:List Dt) (x1:Bool):St:=⟨tsOf [(0,(.dat 22 (.lst x0))),(11,(.dat 4 (.bool x1)))],[],0⟩
abbrev H6_3 (m M3:Nat) (rec3:List Dt→Int→Option Bool):Prop:=∀x0 x1,l6 jn m w6_0 [] M3 (s6_5 x0 x1)=rec3 x0 x1
theorem ref04_Valid_j5_eq m M3 rec3 (h3:H6_3 m M3 rec3) x0 x1:e6 jn m w6_1 [M3] (s6_5 x0 x1)=ref04_Valid_j5 m rec3 x0 x1:=
 tre (g:=fun J=>(jj J 1 4 M3 (s6_5 x0 (IntKind.wrap .i64 (x1+1))) (l6 J m w6_0 [] M3))) (fun J=>by kernel_rfl) (by simp only[jj_eq,h3];rfl)
theorem ref04_Valid_j4_eq m M3 rec3 (h3:H6_3 m M3 rec3) x0 x1:e6 jn m w6_2 [M3] (s6_5 x0 x1)=ref04_Valid_j4 m rec3 x0 x1:=
 tre (g:=fun J=>((idx x0 x1).bind fun v0=>
  ((ref01_Name m (Dt.toStr v0)).bind fun r1=>
  (bif (Bool.not r1) then
  some false
  else
  (jj J 0 5 0 (s6_5 x0 x1) (e6 J m w6_1 [M3])))))) (fun J=>by kernel_rfl) (by simp only[jj_eq,ref04_Valid_j5_eq m M3 rec3 h3];rfl)
theorem ref04_Valid_j6_eq m:e6 jn m [1,1,1] [] s6_6=ref04_Valid_j6 m:=
 tre (g:=fun J=>some true) (fun J=>by kernel_rfl) (by rfl)
theorem ref04_Valid_l3_eq m:∀M3 x0 x1,l6 jn m w6_0 [] M3 (s6_5 x0 x1)=ref04_Valid_l3 m M3 x0 x1
 |0,_,_=>rfl
 | M3+1,x0,x1=>
   trl (g:=fun J=>(bif (decide (x1<(List.length x0:Int))) then
  (jj J 0 6 0 (s6_5 x0 x1) (e6 J m w6_2 [M3]))
   else
  (jj J 0 8 0 s6_6 (e6 J m [1,1,1] [])))) (fun J=>by kernel_rfl) (by simp only[jj_eq,ref04_Valid_j4_eq m M3 (ref04_Valid_l3 m M3) (ref04_Valid_l3_eq m M3),ref04_Valid_j6_eq m];rfl)
theorem ref04_Valid_j2_eq m x0 x1:e6 jn m [1,1,0,1] [] (s6_5 x0 x1)=ref04_Valid_j2 m x0 x1:=
 tre (g:=fun J=>(jj J 1 4 (Nat.succ m) (s6_5 x0 x1) (l6 J m w6_0 [] (Nat.succ m)))) (fun J=>by kernel_rfl) (by simp only[jj_eq,ref04_Valid_l3_eq m];rfl)
theorem ref04_Valid_j1_eq m x0:e6 jn m [1,1] [] (s6_1 x0)=ref04_Valid_j1 m x0:=
 tre (g:=fun J=>(jj J 0 4 0 (s6_5 x0 0) (e6 J m [1,1,0,1] []))) (fun J=>by kernel_rfl) (by simp only[jj_eq,ref04_Valid_j2_eq m];rfl)
theorem ref04_Valid_j0_eq m x0 x1:e6 jn m [1,0,1] [] (s6_0 x0 x1)=ref04_Valid_j0 m x0 x1:=
 tre (g:=fun J=>(bif x1 then
  some false
   else
  (jj J 0 3 0 (s6_1 x0) (e6 J m [1,1] [])))) (fun J=>by kernel_rfl) (by simp only[jj_eq,ref04_Valid_j1_eq m];rfl)
theorem ref04_Valid_eq m a0:e6 jn m [] [] ⟨[(.dat 22 (.lst a0))],[],0⟩=ref04_Valid (m+1) a0:=
 tre (g:=fun J=>(bif (decide ((List.length a0:Int)<1)) then
  (jj J 0 2 0 (s6_0 a0 true) (e6 J m [1,0,1] []))
   else
  (jj J 0 2 0 (s6_0 a0 (decide (16<(List.length a0:Int)))) (e6 J m [1,0,1] [])))) (fun J=>by kernel_rfl) (by simp only[jj_eq,ref04_Valid_j0_eq m];rfl)
noncomputable def e7 (J:Nat→Nat→Nat→St→Option Bool→Option Bool) (m:Nat) (p ms:List Nat) (σ:St):=evAt Tryz.prog env (ct m) J (m+1) 12 10 Tryz.f12 d5 p ms σ
noncomputable def l7 (J:Nat→Nat→Nat→St→Option Bool→Option Bool) (m:Nat) (p ms:List Nat) (M:Nat) (σ:St):=loopAt Tryz.prog env (ct m) J (m+1) 12 10 Tryz.f12 d5 p ms M σ
theorem law36_named_eq m a0:e7 jn m [] [] ⟨[(.dat 9 (.str a0))],[],0⟩=law36_named (m+1) a0:=
 tre (g:=fun J=>(bif ((ByteArray.toList a0)==[]) then
  some true
   else
  ((ref04_Valid m [(Dt.str a0)]).bind fun r0=>
  some r0))) (fun J=>by kernel_rfl) (by rfl)
noncomputable def e36 (J:Nat→Nat→Nat→St→Option Bool→Option Bool) (m:Nat) (p ms:List Nat) (σ:St):=evAt Tryz.prog env (ct m) J (m+1) 116 9 Tryz.f116 d5 p ms σ
noncomputable def l36 (J:Nat→Nat→Nat→St→Option Bool→Option Bool) (m:Nat) (p ms:List Nat) (M:Nat) (σ:St):=loopAt Tryz.prog env (ct m) J (m+1) 116 9 Tryz.f116 d5 p ms M σ
theorem geo_isCoordinate_eq m a0:e36 jn m [] [] ⟨[(.dat 3 (.int a0))],[],0⟩=geo_isCoordinate (m+1) a0:=
 tre (g:=fun J=>(bif (decide (0≤a0)) then
  some (decide (a0<65536))
   else
  some false)) (fun J=>by kernel_rfl) (by rfl)
noncomputable def e35 (J:Nat→Nat→Nat→St→Option Bool→Option Bool) (m:Nat) (p ms:List Nat) (σ:St):=evAt Tryz.prog env (ct m) J (m+1) 117 11 Tryz.f117 d5 p ms σ
noncomputable def l35 (J:Nat→Nat→Nat→St→Option Bool→Option Bool) (m:Nat) (p ms:List Nat) (M:Nat) (σ:St):=loopAt Tryz.prog env (ct m) J (m+1) 117 11 Tryz.f117 d5 p ms M σ
theorem geo_isPoint_eq m a0:e35 jn m [] [] ⟨[(.dat 90 a0)],[],0⟩=geo_isPoint (m+1) a0:=
 tre (g:=fun J=>((geo_isCoordinate m (Dt.I a0 0)).bind fun r0=>
  (bif r0 then
  ((geo_isCoordinate m (Dt.I a0 1)).bind fun r1=>
  some r1)
  else
  some false))) (fun J=>by kernel_rfl) (by rfl)
def w22_5:List Nat:=[1,1,1,1,1]
def w22_3:List Nat:=[1,1,1,1,1,1]
def w22_4:List Nat:=[1,1,1,1,1,0,1]
def w22_0:List Nat:=w22_4++[0]
def w22_2:List Nat:=w22_0++[0,1,1]
def w22_1:List Nat:=w22_2++[1]
noncomputable def e22 (J:Nat→Nat→Nat→St→Option Int→Option Int) (m:Nat) (p ms:List Nat) (σ:St):=evAt Tryz.prog env (ct m) J (m+1) 73 56 Tryz.f73 d22 p ms σ
noncomputable def l22 (J:Nat→Nat→Nat→St→Option Int→Option Int) (m:Nat) (p ms:List Nat) (M:Nat) (σ:St):=loopAt Tryz.prog env (ct m) J (m+1) 73 56 Tryz.f73 d22 p ms M σ
noncomputable def s22_5 (x0:List Dt) (x1 x2:Int):St:=⟨tsOf [(46,(.dat 47 (.lst x0))),(47,(.dat 3 (.int x1))),(48,(.dat 3 (.int x2)))],[],0⟩
noncomputable def s22_6:St:=⟨tsOf [],[],0⟩
noncomputable def s22_1 (x0:Dt):St:=⟨tsOf [(1,(.ptr 0 [] 0))],[(.box 49 (.dat 49 x0))],0⟩
noncomputable def s22_0 (x0:Bool) (x1:Dt):St:=⟨tsOf [(1,(.ptr 0 [] 0)),(4,(.dat 4 (.bool x0)))],[(.box 49 (.dat 49 x1))],0⟩
abbrev H22_3 (m M3:Nat) (rec3:List Dt→Int→Int→Option Int):Prop:=∀x0 x1 x2,l22 jn m w22_0 [] M3 (s22_5 x0 x1 x2)=rec3 x0 x1 x2
theorem geo_Valid_j5_eq m M3 rec3 (h3:H22_3 m M3 rec3) x0 x1 x2:e22 jn m w22_1 [M3] (s22_5 x0 x1 x2)=geo_Valid_j5 m rec3 x0 x1 x2:=
 tre (g:=fun J=>(jj J 1 13 M3 (s22_5 x0 x1 (IntKind.wrap .i64 (x2+1))) (l22 J m w22_0 [] M3))) (fun J=>by kernel_rfl) (by simp only[jj_eq,h3];rfl)
theorem geo_Valid_j4_eq m M3 rec3 (h3:H22_3 m M3 rec3) x0 x1 x2:e22 jn m w22_2 [M3] (s22_5 x0 x1 x2)=geo_Valid_j4 m rec3 x0 x1 x2:=
 tre (g:=fun J=>((idx x0 x2).bind fun v0=>
  ((geo_isPoint m v0).bind fun r1=>
  (bif (Bool.not r1) then
  some 18
  else
  (jj J 0 17 0 (s22_5 x0 x1 x2) (e22 J m w22_1 [M3])))))) (fun J=>by kernel_rfl) (by simp only[jj_eq,geo_Valid_j5_eq m M3 rec3 h3];rfl)
theorem geo_Valid_j6_eq m:e22 jn m w22_3 [] s22_6=geo_Valid_j6 m:=
 tre (g:=fun J=>some 0) (fun J=>by kernel_rfl) (by rfl)
theorem geo_Valid_l3_eq m:∀M3 x0 x1 x2,l22 jn m w22_0 [] M3 (s22_5 x0 x1 x2)=geo_Valid_l3 m M3 x0 x1 x2
 |0,_,_,_=>rfl
 | M3+1,x0,x1,x2=>
   trl (g:=fun J=>(bif (decide (x2<x1)) then
  (jj J 0 14 0 (s22_5 x0 x1 x2) (e22 J m w22_2 [M3]))
   else
  (jj J 0 18 0 s22_6 (e22 J m w22_3 [])))) (fun J=>by kernel_rfl) (by simp only[jj_eq,geo_Valid_j4_eq m M3 (geo_Valid_l3 m M3) (geo_Valid_l3_eq m M3),geo_Valid_j6_eq m];rfl)
theorem geo_Valid_j2_eq m x0 x1 x2:e22 jn m w22_4 [] (s22_5 x0 x1 x2)=geo_Valid_j2 m x0 x1 x2:=
 tre (g:=fun J=>(jj J 1 13 (Nat.succ m) (s22_5 x0 x1 x2) (l22 J m w22_0 [] (Nat.succ m)))) (fun J=>by kernel_rfl) (by simp only[jj_eq,geo_Valid_l3_eq m];rfl)
theorem geo_Valid_j1_eq m x0:e22 jn m w22_5 [] (s22_1 x0)=geo_Valid_j1 m x0:=
 tre (g:=fun J=>(jj J 0 13 0 (s22_5 (Dt.L x0 1) (List.length (Dt.L x0 1):Int) 0) (e22 J m w22_4 []))) (fun J=>by kernel_rfl) (by simp only[jj_eq,geo_Valid_j2_eq m];rfl)
theorem geo_Valid_j0_eq m x0 x1:e22 jn m [1,1,1,1] [] (s22_0 x0 x1)=geo_Valid_j0 m x0 x1:=
 tre (g:=fun J=>(bif (Bool.not x0) then
  some 18
   else
  (jj J 0 12 0 (s22_1 x1) (e22 J m w22_5 [])))) (fun J=>by kernel_rfl) (by simp only[jj_eq,geo_Valid_j1_eq m];rfl)
theorem geo_Valid_eq m a0:e22 jn m [] [] ⟨[(.dat 49 a0)],[],0⟩=geo_Valid (m+1) a0:=
 tre (g:=fun J=>(bif ((Dt.I a0 0)==1) then
  (bif ((List.length (Dt.L a0 1):Int)==2) then
  (jj J 0 10 0 (s22_0 ((Dt.I a0 2)==0) a0) (e22 J m [1,1,1,1] []))
  else
  (jj J 0 10 0 (s22_0 false a0) (e22 J m [1,1,1,1] [])))
   else
  (bif ((Dt.I a0 0)==2) then
  (bif ((List.length (Dt.L a0 1):Int)==1) then
  ((geo_isCoordinate m (Dt.I a0 2)).bind fun r2=>
  (jj J 0 10 0 (s22_0 r2 a0) (e22 J m [1,1,1,1] [])))
  else
  (jj J 0 10 0 (s22_0 false a0) (e22 J m [1,1,1,1] [])))
  else
  (bif ((Dt.I a0 0)==3) then
  (bif (decide (3≤(List.length (Dt.L a0 1):Int))) then
  (bif (decide ((List.length (Dt.L a0 1):Int)≤64)) then
  (jj J 0 10 0 (s22_0 ((Dt.I a0 2)==0) a0) (e22 J m [1,1,1,1] []))
  else
  (jj J 0 10 0 (s22_0 false a0) (e22 J m [1,1,1,1] [])))
  else
  (jj J 0 10 0 (s22_0 false a0) (e22 J m [1,1,1,1] [])))
  else
  (jj J 0 10 0 (s22_0 false a0) (e22 J m [1,1,1,1] [])))))) (fun J=>by kernel_rfl) (by simp only[jj_eq,geo_Valid_j0_eq m];rfl)
noncomputable def e33 (J:Nat→Nat→Nat→St→Option Int→Option Int) (m:Nat) (p ms:List Nat) (σ:St):=evAt Tryz.prog env (ct m) J (m+1) 121 36 Tryz.f121 d15 p ms σ
noncomputable def l33 (J:Nat→Nat→Nat→St→Option Int→Option Int) (m:Nat) (p ms:List Nat) (M:Nat) (σ:St):=loopAt Tryz.prog env (ct m) J (m+1) 121 36 Tryz.f121 d15 p ms M σ
noncomputable def s33_1 (x0 x1:Dt):St:=⟨tsOf [(2,(.ptr 0 [] 0)),(3,(.ptr 1 [] 0))],[(.box 90 (.dat 90 x0)),(.box 90 (.dat 90 x1))],0⟩
noncomputable def s33_0 (x0:Bool) (x1 x2:Dt):St:=⟨tsOf [(2,(.ptr 0 [] 0)),(3,(.ptr 1 [] 0)),(12,(.dat 4 (.bool x0)))],[(.box 90 (.dat 90 x1)),(.box 90 (.dat 90 x2))],0⟩
theorem geo_Distance_j1_eq m x0 x1:e33 jn m [1,1] [] (s33_1 x0 x1)=geo_Distance_j1 m x0 x1:=
 tre (g:=fun J=>some (IntKind.wrap .i64 ((IntKind.wrap .i64 ((IntKind.wrap .i64 ((Dt.I x0 0)-(Dt.I x1 0)))*(IntKind.wrap .i64 ((Dt.I x0 0)-(Dt.I x1 0)))))+(IntKind.wrap .i64 ((IntKind.wrap .i64 ((Dt.I x0 1)-(Dt.I x1 1)))*(IntKind.wrap .i64 ((Dt.I x0 1)-(Dt.I x1 1)))))))) (fun J=>by kernel_rfl) (by rfl)
theorem geo_Distance_j0_eq m x0 x1 x2:e33 jn m [1,0,1] [] (s33_0 x0 x1 x2)=geo_Distance_j0 m x0 x1 x2:=
 tre (g:=fun J=>(bif x0 then
  some (-1)
   else
  (jj J 0 3 0 (s33_1 x1 x2) (e33 J m [1,1] [])))) (fun J=>by kernel_rfl) (by simp only[jj_eq,geo_Distance_j1_eq m];rfl)
theorem geo_Distance_eq m a0 a1:e33 jn m [] [] ⟨[(.dat 90 a0),(.dat 90 a1)],[],0⟩=geo_Distance (m+1) a0 a1:=
 tre (g:=fun J=>((geo_isPoint m a0).bind fun r0=>
  (bif (Bool.not r0) then
  (jj J 0 2 0 (s33_0 true a0 a1) (e33 J m [1,0,1] []))
  else
  ((geo_isPoint m a1).bind fun r1=>
  (jj J 0 2 0 (s33_0 (Bool.not r1) a0 a1) (e33 J m [1,0,1] [])))))) (fun J=>by kernel_rfl) (by simp only[jj_eq,geo_Distance_j0_eq m];rfl)
noncomputable def e43 (J:Nat→Nat→Nat→St→Option Bool→Option Bool) (m:Nat) (p ms:List Nat) (σ:St):=evAt Tryz.prog env (ct m) J (m+1) 125 9 Tryz.f125 d5 p ms σ
noncomputable def l43 (J:Nat→Nat→Nat→St→Option Bool→Option Bool) (m:Nat) (p ms:List Nat) (M:Nat) (σ:St):=loopAt Tryz.prog env (ct m) J (m+1) 125 9 Tryz.f125 d5 p ms M σ
theorem ref10_in_eq m a0:e43 jn m [] [] ⟨[(.dat 3 (.int a0))],[],0⟩=ref10_in (m+1) a0:=
 tre (g:=fun J=>(bif (decide (0≤a0)) then
  some (decide (a0<65536))
   else
  some false)) (fun J=>by kernel_rfl) (by rfl)
noncomputable def e42 (J:Nat→Nat→Nat→St→Option Bool→Option Bool) (m:Nat) (p ms:List Nat) (σ:St):=evAt Tryz.prog env (ct m) J (m+1) 124 11 Tryz.f124 d5 p ms σ
noncomputable def l42 (J:Nat→Nat→Nat→St→Option Bool→Option Bool) (m:Nat) (p ms:List Nat) (M:Nat) (σ:St):=loopAt Tryz.prog env (ct m) J (m+1) 124 11 Tryz.f124 d5 p ms M σ
theorem ref10_Is_eq m a0:e42 jn m [] [] ⟨[(.dat 90 a0)],[],0⟩=ref10_Is (m+1) a0:=
 tre (g:=fun J=>((ref10_in m (Dt.I a0 0)).bind fun r0=>
  (bif r0 then
  ((ref10_in m (Dt.I a0 1)).bind fun r1=>
  some r1)
  else
  some false))) (fun J=>by kernel_rfl) (by rfl)
def w26_3:List Nat:=[1,1,1,1,1]
def w26_5:List Nat:=[1,1,1,0,1]
def w26_0:List Nat:=[1,1,1,0,1,0]
def w26_4:List Nat:=[1,1,1,1,0,1]
def w26_2:List Nat:=w26_0++[0,1]
def w26_1:List Nat:=w26_2++[1]
noncomputable def e26 (J:Nat→Nat→Nat→St→Option Int→Option Int) (m:Nat) (p ms:List Nat) (σ:St):=evAt Tryz.prog env (ct m) J (m+1) 78 62 Tryz.f78 d22 p ms σ
noncomputable def l26 (J:Nat→Nat→Nat→St→Option Int→Option Int) (m:Nat) (p ms:List Nat) (M:Nat) (σ:St):=loopAt Tryz.prog env (ct m) J (m+1) 78 62 Tryz.f78 d22 p ms M σ
noncomputable def s26_4 (x0 x1:Int) (x2:Dt):St:=⟨tsOf [(1,(.ptr 0 [] 0)),(3,(.dat 3 (.int x0))),(4,(.dat 3 (.int x1)))],[(.box 49 (.dat 49 x2))],0⟩
noncomputable def s26_7:St:=⟨tsOf [],[],0⟩
noncomputable def s26_6 (x0:Bool):St:=⟨tsOf [(61,(.dat 4 (.bool x0)))],[],0⟩
noncomputable def s26_5 (x0:Int) (x1:Dt):St:=⟨tsOf [(1,(.ptr 0 [] 0)),(3,(.dat 3 (.int x0)))],[(.box 49 (.dat 49 x1))],0⟩
abbrev H26_2 (m M2:Nat) (rec2:Int→Int→Dt→Option Int):Prop:=∀x0 x1 x2,l26 jn m w26_0 [] M2 (s26_4 x0 x1 x2)=rec2 x0 x1 x2
theorem ref10_Valid_j4_eq m M2 rec2 (h2:H26_2 m M2 rec2) x0 x1 x2:e26 jn m w26_1 [M2] (s26_4 x0 x1 x2)=ref10_Valid_j4 m rec2 x0 x1 x2:=
 tre (g:=fun J=>(jj J 1 5 M2 (s26_4 x0 (IntKind.wrap .i64 (x1+1)) x2) (l26 J m w26_0 [] M2))) (fun J=>by kernel_rfl) (by simp only[jj_eq,h2];rfl)
theorem ref10_Valid_j3_eq m M2 rec2 (h2:H26_2 m M2 rec2) x0 x1 x2:e26 jn m w26_2 [M2] (s26_4 x0 x1 x2)=ref10_Valid_j3 m rec2 x0 x1 x2:=
 tre (g:=fun J=>((idx (Dt.L x2 1) x1).bind fun v0=>
  ((ref10_Is m v0).bind fun r1=>
  (bif (Bool.not r1) then
  some 18
  else
  (jj J 0 6 0 (s26_4 x0 x1 x2) (e26 J m w26_1 [M2])))))) (fun J=>by kernel_rfl) (by simp only[jj_eq,ref10_Valid_j4_eq m M2 rec2 h2];rfl)
theorem ref10_Valid_j7_eq m:e26 jn m w26_3 [] s26_7=ref10_Valid_j7 m:=
 tre (g:=fun J=>some 18) (fun J=>by kernel_rfl) (by rfl)
theorem ref10_Valid_j6_eq m x0:e26 jn m w26_4 [] (s26_6 x0)=ref10_Valid_j6 m x0:=
 tre (g:=fun J=>(bif x0 then
  some 0
   else
  (jj J 0 11 0 s26_7 (e26 J m w26_3 [])))) (fun J=>by kernel_rfl) (by simp only[jj_eq,ref10_Valid_j7_eq m];rfl)
theorem ref10_Valid_j5_eq m x0 x1:e26 jn m [1,1,1,1] [] (s26_5 x0 x1)=ref10_Valid_j5 m x0 x1:=
 tre (g:=fun J=>(bif ((Dt.I x1 0)==1) then
  (bif (x0==2) then
  (bif ((Dt.I x1 2)==0) then
  (jj J 0 10 0 (s26_6 true) (e26 J m w26_4 []))
  else
  (bif ((Dt.I x1 0)==2) then
  (bif (x0==1) then
  ((ref10_in m (Dt.I x1 2)).bind fun r2=>
  (bif r2 then
  (jj J 0 10 0 (s26_6 true) (e26 J m w26_4 []))
  else
  (bif ((Dt.I x1 0)==3) then
  (bif (decide (3≤x0)) then
  (jj J 0 10 0 (s26_6 ((Dt.I x1 2)==0)) (e26 J m w26_4 []))
  else
  (jj J 0 10 0 (s26_6 false) (e26 J m w26_4 [])))
  else
  (jj J 0 10 0 (s26_6 false) (e26 J m w26_4 [])))))
  else
  (bif ((Dt.I x1 0)==3) then
  (bif (decide (3≤x0)) then
  (jj J 0 10 0 (s26_6 ((Dt.I x1 2)==0)) (e26 J m w26_4 []))
  else
  (jj J 0 10 0 (s26_6 false) (e26 J m w26_4 [])))
  else
  (jj J 0 10 0 (s26_6 false) (e26 J m w26_4 []))))
  else
  (bif ((Dt.I x1 0)==3) then
  (bif (decide (3≤x0)) then
  (jj J 0 10 0 (s26_6 ((Dt.I x1 2)==0)) (e26 J m w26_4 []))
  else
  (jj J 0 10 0 (s26_6 false) (e26 J m w26_4 [])))
  else
  (jj J 0 10 0 (s26_6 false) (e26 J m w26_4 [])))))
  else
  (bif ((Dt.I x1 0)==2) then
  (bif (x0==1) then
  ((ref10_in m (Dt.I x1 2)).bind fun r3=>
  (bif r3 then
  (jj J 0 10 0 (s26_6 true) (e26 J m w26_4 []))
  else
  (bif ((Dt.I x1 0)==3) then
  (bif (decide (3≤x0)) then
  (jj J 0 10 0 (s26_6 ((Dt.I x1 2)==0)) (e26 J m w26_4 []))
  else
  (jj J 0 10 0 (s26_6 false) (e26 J m w26_4 [])))
  else
  (jj J 0 10 0 (s26_6 false) (e26 J m w26_4 [])))))
  else
  (bif ((Dt.I x1 0)==3) then
  (bif (decide (3≤x0)) then
  (jj J 0 10 0 (s26_6 ((Dt.I x1 2)==0)) (e26 J m w26_4 []))
  else
  (jj J 0 10 0 (s26_6 false) (e26 J m w26_4 [])))
  else
  (jj J 0 10 0 (s26_6 false) (e26 J m w26_4 []))))
  else
  (bif ((Dt.I x1 0)==3) then
  (bif (decide (3≤x0)) then
  (jj J 0 10 0 (s26_6 ((Dt.I x1 2)==0)) (e26 J m w26_4 []))
  else
  (jj J 0 10 0 (s26_6 false) (e26 J m w26_4 [])))
  else
  (jj J 0 10 0 (s26_6 false) (e26 J m w26_4 [])))))
   else
  (bif ((Dt.I x1 0)==2) then
  (bif (x0==1) then
  ((ref10_in m (Dt.I x1 2)).bind fun r4=>
  (bif r4 then
  (jj J 0 10 0 (s26_6 true) (e26 J m w26_4 []))
  else
  (bif ((Dt.I x1 0)==3) then
  (bif (decide (3≤x0)) then
  (jj J 0 10 0 (s26_6 ((Dt.I x1 2)==0)) (e26 J m w26_4 []))
  else
  (jj J 0 10 0 (s26_6 false) (e26 J m w26_4 [])))
  else
  (jj J 0 10 0 (s26_6 false) (e26 J m w26_4 [])))))
  else
  (bif ((Dt.I x1 0)==3) then
  (bif (decide (3≤x0)) then
  (jj J 0 10 0 (s26_6 ((Dt.I x1 2)==0)) (e26 J m w26_4 []))
  else
  (jj J 0 10 0 (s26_6 false) (e26 J m w26_4 [])))
  else
  (jj J 0 10 0 (s26_6 false) (e26 J m w26_4 []))))
  else
  (bif ((Dt.I x1 0)==3) then
  (bif (decide (3≤x0)) then
  (jj J 0 10 0 (s26_6 ((Dt.I x1 2)==0)) (e26 J m w26_4 []))
  else
  (jj J 0 10 0 (s26_6 false) (e26 J m w26_4 [])))
  else
  (jj J 0 10 0 (s26_6 false) (e26 J m w26_4 [])))))) (fun J=>by kernel_rfl) (by simp only[jj_eq,ref10_Valid_j6_eq m];rfl)
theorem ref10_Valid_l2_eq m:∀M2 x0 x1 x2,l26 jn m w26_0 [] M2 (s26_4 x0 x1 x2)=ref10_Valid_l2 m M2 x0 x1 x2
 |0,_,_,_=>rfl
 | M2+1,x0,x1,x2=>
   trl (g:=fun J=>(bif (decide (x1<x0)) then
  (jj J 0 7 0 (s26_4 x0 x1 x2) (e26 J m w26_2 [M2]))
   else
  (jj J 0 9 0 (s26_5 x0 x2) (e26 J m [1,1,1,1] [])))) (fun J=>by kernel_rfl) (by simp only[jj_eq,ref10_Valid_j3_eq m M2 (ref10_Valid_l2 m M2) (ref10_Valid_l2_eq m M2),ref10_Valid_j5_eq m];rfl)
theorem ref10_Valid_j1_eq m x0 x1 x2:e26 jn m w26_5 [] (s26_4 x0 x1 x2)=ref10_Valid_j1 m x0 x1 x2:=
 tre (g:=fun J=>(jj J 1 5 (Nat.succ m) (s26_4 x0 x1 x2) (l26 J m w26_0 [] (Nat.succ m)))) (fun J=>by kernel_rfl) (by simp only[jj_eq,ref10_Valid_l2_eq m];rfl)
theorem ref10_Valid_j0_eq m x0 x1:e26 jn m [1,1,1] [] (s26_5 x0 x1)=ref10_Valid_j0 m x0 x1:=
 tre (g:=fun J=>(jj J 0 5 0 (s26_4 x0 0 x1) (e26 J m w26_5 []))) (fun J=>by kernel_rfl) (by simp only[jj_eq,ref10_Valid_j1_eq m];rfl)
theorem ref10_Valid_eq m a0:e26 jn m [] [] ⟨[(.dat 49 a0)],[],0⟩=ref10_Valid (m+1) a0:=
 tre (g:=fun J=>(bif (decide (64<(List.length (Dt.L a0 1):Int))) then
  some 18
   else
  (jj J 0 4 0 (s26_5 (List.length (Dt.L a0 1):Int) a0) (e26 J m [1,1,1] [])))) (fun J=>by kernel_rfl) (by simp only[jj_eq,ref10_Valid_j0_eq m];rfl)
noncomputable def e40 (J:Nat→Nat→Nat→St→Option Int→Option Int) (m:Nat) (p ms:List Nat) (σ:St):=evAt Tryz.prog env (ct m) J (m+1) 129 36 Tryz.f129 d15 p ms σ
noncomputable def l40 (J:Nat→Nat→Nat→St→Option Int→Option Int) (m:Nat) (p ms:List Nat) (M:Nat) (σ:St):=loopAt Tryz.prog env (ct m) J (m+1) 129 36 Tryz.f129 d15 p ms M σ
noncomputable def s40_1 (x0 x1:Dt):St:=⟨tsOf [(2,(.ptr 0 [] 0)),(3,(.ptr 1 [] 0))],[(.box 90 (.dat 90 x0)),(.box 90 (.dat 90 x1))],0⟩
noncomputable def s40_0 (x0:Bool) (x1 x2:Dt):St:=⟨tsOf [(2,(.ptr 0 [] 0)),(3,(.ptr 1 [] 0)),(12,(.dat 4 (.bool x0)))],[(.box 90 (.dat 90 x1)),(.box 90 (.dat 90 x2))],0⟩
theorem ref10_Distance_j1_eq m x0 x1:e40 jn m [1,1] [] (s40_1 x0 x1)=ref10_Distance_j1 m x0 x1:=
 tre (g:=fun J=>some (IntKind.wrap .i64 ((IntKind.wrap .i64 ((IntKind.wrap .i64 ((Dt.I x0 0)-(Dt.I x1 0)))*(IntKind.wrap .i64 ((Dt.I x0 0)-(Dt.I x1 0)))))+(IntKind.wrap .i64 ((IntKind.wrap .i64 ((Dt.I x0 1)-(Dt.I x1 1)))*(IntKind.wrap .i64 ((Dt.I x0 1)-(Dt.I x1 1)))))))) (fun J=>by kernel_rfl) (by rfl)
theorem ref10_Distance_j0_eq m x0 x1 x2:e40 jn m [1,0,1] [] (s40_0 x0 x1 x2)=ref10_Distance_j0 m x0 x1 x2:=
 tre (g:=fun J=>(bif x0 then
  some (-1)
   else
  (jj J 0 3 0 (s40_1 x1 x2) (e40 J m [1,1] [])))) (fun J=>by kernel_rfl) (by simp only[jj_eq,ref10_Distance_j1_eq m];rfl)
theorem ref10_Distance_eq m a0 a1:e40 jn m [] [] ⟨[(.dat 90 a0),(.dat 90 a1)],[],0⟩=ref10_Distance (m+1) a0 a1:=
 tre (g:=fun J=>((ref10_Is m a0).bind fun r0=>
  (bif (Bool.not r0) then
  (jj J 0 2 0 (s40_0 true a0 a1) (e40 J m [1,0,1] []))
  else
  ((ref10_Is m a1).bind fun r1=>
  (jj J 0 2 0 (s40_0 (Bool.not r1) a0 a1) (e40 J m [1,0,1] [])))))) (fun J=>by kernel_rfl) (by simp only[jj_eq,ref10_Distance_j0_eq m];rfl)
def w48_7:List Nat:=[1,1,0,1,0,1,1]
def w48_0:List Nat:=w48_7++[0]
def w48_6:List Nat:=[1,1,1,0,1,0,1,1]
def w48_3:List Nat:=w48_6++[0]
def w48_2:List Nat:=w48_0++[0,1,1]
def w48_1:List Nat:=w48_2++[1]
def w48_5:List Nat:=w48_3++[0,1,1]
def w48_4:List Nat:=w48_5++[1]
noncomputable def e48 (J:Nat→Nat→Nat→St→Option (Int×Int×ByteArray×List Dt×List Dt)→Option (Int×Int×ByteArray×List Dt×List Dt)) (m:Nat) (p ms:List Nat) (σ:St):=evAt Tryz.prog env (ct m) J (m+1) 140 68 Tryz.f140 d48 p ms σ
noncomputable def l48 (J:Nat→Nat→Nat→St→Option (Int×Int×ByteArray×List Dt×List Dt)→Option (Int×Int×ByteArray×List Dt×List Dt)) (m:Nat) (p ms:List Nat) (M:Nat) (σ:St):=loopAt Tryz.prog env (ct m) J (m+1) 140 68 Tryz.f140 d48 p ms M σ
noncomputable def s48_3 (x0:List Dt) (x1 x2:Int) (x3 x4:Dt) (x5 x6:Int) (x7:ByteArray) (x8 x9:List Dt):St:=⟨tsOf [(1,(.ptr 0 [] 0)),(2,(.ptr 1 [] 0)),(3,(.ptr 2 [] 0)),(25,(.dat 23 (.lst x0))),(26,(.dat 3 (.int x1))),(27,(.dat 3 (.int x2)))],[(.box 33 (.dat 33 x3)),(.box 33 (.dat 33 x4)),(.box 33 (.agg 33 [(.dat 3 (.int x5)),(.dat 3 (.int x6)),(.dat 9 (.str x7)),(.row 3),(.row 4)])),(.row 23 x8),(.row 31 x9)],0⟩
noncomputable def s48_8 (x0:List Dt) (x1 x2:Int) (x3:Dt) (x4 x5:Int) (x6:ByteArray) (x7 x8:List Dt):St:=⟨tsOf [(2,(.ptr 0 [] 0)),(3,(.ptr 1 [] 0)),(49,(.dat 31 (.lst x0))),(50,(.dat 3 (.int x1))),(51,(.dat 3 (.int x2)))],[(.box 33 (.dat 33 x3)),(.box 33 (.agg 33 [(.dat 3 (.int x4)),(.dat 3 (.int x5)),(.dat 9 (.str x6)),(.row 2),(.row 3)])),(.row 23 x7),(.row 31 x8)],0⟩
noncomputable def s48_9 (x0:Dt) (x1 x2:Int) (x3:ByteArray) (x4 x5:List Dt):St:=⟨tsOf [(2,(.ptr 0 [] 0)),(3,(.ptr 1 [] 0))],[(.box 33 (.dat 33 x0)),(.box 33 (.agg 33 [(.dat 3 (.int x1)),(.dat 3 (.int x2)),(.dat 9 (.str x3)),(.row 2),(.row 3)])),(.row 23 x4),(.row 31 x5)],0⟩
noncomputable def s48_4 (x0 x1:Dt) (x2 x3:Int) (x4:ByteArray) (x5 x6:List Dt):St:=⟨tsOf [(1,(.ptr 0 [] 0)),(2,(.ptr 1 [] 0)),(3,(.ptr 2 [] 0))],[(.box 33 (.dat 33 x0)),(.box 33 (.dat 33 x1)),(.box 33 (.agg 33 [(.dat 3 (.int x2)),(.dat 3 (.int x3)),(.dat 9 (.str x4)),(.row 3),(.row 4)])),(.row 23 x5),(.row 31 x6)],0⟩
abbrev H48_1 (m M1:Nat) (rec1:List Dt→Int→Int→Dt→Dt→Int→Int→ByteArray→List Dt→List Dt→Option (Int×Int×ByteArray×List Dt×List Dt)):Prop:=∀x0 x1 x2 x3 x4 x5 x6 x7 x8 x9,l48 jn m w48_0 [] M1 (s48_3 x0 x1 x2 x3 x4 x5 x6 x7 x8 x9)=rec1 x0 x1 x2 x3 x4 x5 x6 x7 x8 x9
theorem path_clone_j3_eq m M1 rec1 (h1:H48_1 m M1 rec1) x0 x1 x2 x3 x4 x5 x6 x7 x8 x9:e48 jn m w48_1 [M1] (s48_3 x0 x1 x2 x3 x4 x5 x6 x7 x8 x9)=path_clone_j3 m (path_clone m) rec1 x0 x1 x2 x3 x4 x5 x6 x7 x8 x9:=
 tre (g:=fun J=>(jj J 1 5 M1 (s48_3 x0 x1 (IntKind.wrap .i64 (x2+1)) x3 x4 x5 x6 x7 x8 x9) (l48 J m w48_0 [] M1))) (fun J=>by kernel_rfl) (by simp only[jj_eq,h1];rfl)
theorem path_clone_j2_eq m M1 rec1 (h1:H48_1 m M1 rec1) x0 x1 x2 x3 x4 x5 x6 x7 x8 x9:e48 jn m w48_2 [M1] (s48_3 x0 x1 x2 x3 x4 x5 x6 x7 x8 x9)=path_clone_j2 m (path_clone m) rec1 x0 x1 x2 x3 x4 x5 x6 x7 x8 x9:=
 tre (g:=fun J=>((idx x0 x2).bind fun v1=>
  ((path_clone m v1).bind fun r2=>
  ((inL x8 x2).bind fun v3=>
  ((x8[(Int.toNat x2)]?).bind fun v4=>
  (jj J 0 8 0 (s48_3 x0 x1 x2 x3 x4 x5 x6 x7 (List.set x8 (Int.toNat x2) (Dt.agg [(Dt.int r2.1),(Dt.int r2.2.1),(Dt.str r2.2.2.1),(Dt.lst r2.2.2.2.1),(Dt.lst r2.2.2.2.2)])) x9) (e48 J m w48_1 [M1]))))))) (fun J=>by kernel_rfl) (by simp only[jj_eq,path_clone_j3_eq m M1 rec1 h1];rfl)
abbrev H48_6 (m M6:Nat) (rec6:List Dt→Int→Int→Dt→Int→Int→ByteArray→List Dt→List Dt→Option (Int×Int×ByteArray×List Dt×List Dt)):Prop:=∀x0 x1 x2 x3 x4 x5 x6 x7 x8,l48 jn m w48_3 [] M6 (s48_8 x0 x1 x2 x3 x4 x5 x6 x7 x8)=rec6 x0 x1 x2 x3 x4 x5 x6 x7 x8
theorem path_clone_j8_eq m M6 rec6 (h6:H48_6 m M6 rec6) x0 x1 x2 x3 x4 x5 x6 x7 x8:e48 jn m w48_4 [M6] (s48_8 x0 x1 x2 x3 x4 x5 x6 x7 x8)=path_clone_j8 m (path_clone m) rec6 x0 x1 x2 x3 x4 x5 x6 x7 x8:=
 tre (g:=fun J=>(jj J 1 12 M6 (s48_8 x0 x1 (IntKind.wrap .i64 (x2+1)) x3 x4 x5 x6 x7 x8) (l48 J m w48_3 [] M6))) (fun J=>by kernel_rfl) (by simp only[jj_eq,h6];rfl)
theorem path_clone_j7_eq m M6 rec6 (h6:H48_6 m M6 rec6) x0 x1 x2 x3 x4 x5 x6 x7 x8:e48 jn m w48_5 [M6] (s48_8 x0 x1 x2 x3 x4 x5 x6 x7 x8)=path_clone_j7 m (path_clone m) rec6 x0 x1 x2 x3 x4 x5 x6 x7 x8:=
 tre (g:=fun J=>((idx x0 x2).bind fun v6=>
  ((path_clone m (Dt.fld v6 1)).bind fun r7=>
  ((inL x8 x2).bind fun v8=>
  ((x8[(Int.toNat x2)]?).bind fun v9=>
  (jj J 0 15 0 (s48_8 x0 x1 x2 x3 x4 x5 x6 x7 (List.set x8 (Int.toNat x2) (Dt.agg [(Dt.str (Dt.S v6 0)),(Dt.agg [(Dt.int r7.1),(Dt.int r7.2.1),(Dt.str r7.2.2.1),(Dt.lst r7.2.2.2.1),(Dt.lst r7.2.2.2.2)])]))) (e48 J m w48_4 [M6]))))))) (fun J=>by kernel_rfl) (by simp only[jj_eq,path_clone_j8_eq m M6 rec6 h6];rfl)
theorem path_clone_j9_eq m x0 x1 x2 x3 x4 x5:e48 jn m [1,1,1,1] [] (s48_9 x0 x1 x2 x3 x4 x5)=path_clone_j9 m (path_clone m) x0 x1 x2 x3 x4 x5:=
 tre (g:=fun J=>some (x1,x2,x3,x4,x5)) (fun J=>by kernel_rfl) (by rfl)
theorem path_clone_l6_eq m:∀M6 x0 x1 x2 x3 x4 x5 x6 x7 x8,l48 jn m w48_3 [] M6 (s48_8 x0 x1 x2 x3 x4 x5 x6 x7 x8)=path_clone_l6 m (path_clone m) M6 x0 x1 x2 x3 x4 x5 x6 x7 x8
 |0,_,_,_,_,_,_,_,_,_=>rfl
 | M6+1,x0,x1,x2,x3,x4,x5,x6,x7,x8=>
   trl (g:=fun J=>(bif (decide (x2<x1)) then
  (jj J 0 13 0 (s48_8 x0 x1 x2 x3 x4 x5 x6 x7 x8) (e48 J m w48_5 [M6]))
   else
  (jj J 0 16 0 (s48_9 x3 x4 x5 x6 x7 x8) (e48 J m [1,1,1,1] [])))) (fun J=>by kernel_rfl) (by simp only[jj_eq,path_clone_j7_eq m M6 (path_clone_l6 m (path_clone m) M6) (path_clone_l6_eq m M6),path_clone_j9_eq m];rfl)
theorem path_clone_j5_eq m x0 x1 x2 x3 x4 x5 x6 x7 x8:e48 jn m w48_6 [] (s48_8 x0 x1 x2 x3 x4 x5 x6 x7 x8)=path_clone_j5 m (path_clone m) x0 x1 x2 x3 x4 x5 x6 x7 x8:=
 tre (g:=fun J=>(jj J 1 12 (Nat.succ m) (s48_8 x0 x1 x2 x3 x4 x5 x6 x7 x8) (l48 J m w48_3 [] (Nat.succ m)))) (fun J=>by kernel_rfl) (by simp only[jj_eq,path_clone_l6_eq m];rfl)
theorem path_clone_j4_eq m x0 x1 x2 x3 x4 x5 x6:e48 jn m [1,1,1] [] (s48_4 x0 x1 x2 x3 x4 x5 x6)=path_clone_j4 m (path_clone m) x0 x1 x2 x3 x4 x5 x6:=
 tre (g:=fun J=>(bif (decide (0<(List.length (Dt.L x0 4):Int))) then
  ((mkL (List.length (Dt.L x0 4):Int) (List.length (Dt.L x0 4):Int) kzcda49).bind fun v5=>
  (jj J 0 12 0 (s48_8 (Dt.L x0 4) (List.length (Dt.L x0 4):Int) 0 x1 x2 x3 x4 x5 v5) (e48 J m w48_6 [])))
   else
  (jj J 0 16 0 (s48_9 x1 x2 x3 x4 x5 x6) (e48 J m [1,1,1,1] [])))) (fun J=>by kernel_rfl) (by simp only[jj_eq,path_clone_j5_eq m,path_clone_j9_eq m];rfl)
theorem path_clone_l1_eq m:∀M1 x0 x1 x2 x3 x4 x5 x6 x7 x8 x9,l48 jn m w48_0 [] M1 (s48_3 x0 x1 x2 x3 x4 x5 x6 x7 x8 x9)=path_clone_l1 m (path_clone m) M1 x0 x1 x2 x3 x4 x5 x6 x7 x8 x9
 |0,_,_,_,_,_,_,_,_,_,_=>rfl
 | M1+1,x0,x1,x2,x3,x4,x5,x6,x7,x8,x9=>
   trl (g:=fun J=>(bif (decide (x2<x1)) then
  (jj J 0 6 0 (s48_3 x0 x1 x2 x3 x4 x5 x6 x7 x8 x9) (e48 J m w48_2 [M1]))
   else
  (jj J 0 9 0 (s48_4 x3 x4 x5 x6 x7 x8 x9) (e48 J m [1,1,1] [])))) (fun J=>by kernel_rfl) (by simp only[jj_eq,path_clone_j2_eq m M1 (path_clone_l1 m (path_clone m) M1) (path_clone_l1_eq m M1),path_clone_j4_eq m];rfl)
theorem path_clone_j0_eq m x0 x1 x2 x3 x4 x5 x6 x7 x8 x9:e48 jn m w48_7 [] (s48_3 x0 x1 x2 x3 x4 x5 x6 x7 x8 x9)=path_clone_j0 m (path_clone m) x0 x1 x2 x3 x4 x5 x6 x7 x8 x9:=
 tre (g:=fun J=>(jj J 1 5 (Nat.succ m) (s48_3 x0 x1 x2 x3 x4 x5 x6 x7 x8 x9) (l48 J m w48_0 [] (Nat.succ m)))) (fun J=>by kernel_rfl) (by simp only[jj_eq,path_clone_l1_eq m];rfl)
theorem path_clone_eq m a0:e48 jn m [] [] ⟨[(.dat 33 a0)],[],0⟩=path_clone (m+1) a0:=
 tre (g:=fun J=>(bif (decide (0<(List.length (Dt.L a0 3):Int))) then
  ((mkL (List.length (Dt.L a0 3):Int) (List.length (Dt.L a0 3):Int) kza2373).bind fun v0=>
  (jj J 0 5 0 (s48_3 (Dt.L a0 3) (List.length (Dt.L a0 3):Int) 0 a0 kza2373 (Dt.I a0 0) (Dt.I a0 1) (Dt.S a0 2) v0 []) (e48 J m w48_7 [])))
   else
  (jj J 0 9 0 (s48_4 a0 kza2373 (Dt.I a0 0) (Dt.I a0 1) (Dt.S a0 2) [] []) (e48 J m [1,1,1] [])))) (fun J=>by kernel_rfl) (by simp only[jj_eq,path_clone_j0_eq m,path_clone_j4_eq m];rfl)
def w50_0:List Nat:=[1,1,0,1,0]
def w50_2:List Nat:=[1,1,0,1,0,0,1,1]
def w50_1:List Nat:=w50_2++[1]
noncomputable def e50 (J:Nat→Nat→Nat→St→Option (Dt×Dt)→Option (Dt×Dt)) (m:Nat) (p ms:List Nat) (σ:St):=evAt Tryz.prog env (ct m) J (m+1) 165 74 Tryz.f165 d50 p ms σ
noncomputable def l50 (J:Nat→Nat→Nat→St→Option (Dt×Dt)→Option (Dt×Dt)) (m:Nat) (p ms:List Nat) (M:Nat) (σ:St):=loopAt Tryz.prog env (ct m) J (m+1) 165 74 Tryz.f165 d50 p ms M σ
noncomputable def s50_3 (x0:List Dt) (x1 x2:Int) (x3 x4 x5 x6 x7:Dt):St:=⟨tsOf [(1,(.ptr 0 [] 0)),(2,(.ptr 1 [] 0)),(3,(.ptr 2 [] 0)),(4,(.ptr 3 [] 0)),(5,(.ptr 4 [] 0)),(17,(.dat 47 (.lst x0))),(18,(.dat 3 (.int x1))),(19,(.dat 3 (.int x2)))],[(.box 49 (.dat 49 x3)),(.box 90 (.dat 90 x4)),(.box 90 (.dat 90 x5)),(.box 90 (.dat 90 x6)),(.box 90 (.dat 90 x7))],0⟩
noncomputable def s50_4 (x0 x1 x2 x3 x4:Dt):St:=⟨tsOf [(1,(.ptr 0 [] 0)),(2,(.ptr 1 [] 0)),(3,(.ptr 2 [] 0)),(4,(.ptr 3 [] 0)),(5,(.ptr 4 [] 0))],[(.box 49 (.dat 49 x0)),(.box 90 (.dat 90 x1)),(.box 90 (.dat 90 x2)),(.box 90 (.dat 90 x3)),(.box 90 (.dat 90 x4))],0⟩
abbrev H50_1 (m M1:Nat) (rec1:List Dt→Int→Int→Dt→Dt→Dt→Dt→Dt→Option (Dt×Dt)):Prop:=∀x0 x1 x2 x3 x4 x5 x6 x7,l50 jn m w50_0 [] M1 (s50_3 x0 x1 x2 x3 x4 x5 x6 x7)=rec1 x0 x1 x2 x3 x4 x5 x6 x7
theorem geo_bounds_j3_eq m M1 rec1 (h1:H50_1 m M1 rec1) x0 x1 x2 x3 x4 x5 x6 x7:e50 jn m w50_1 [M1] (s50_3 x0 x1 x2 x3 x4 x5 x6 x7)=geo_bounds_j3 m rec1 x0 x1 x2 x3 x4 x5 x6 x7:=
 tre (g:=fun J=>(jj J 1 3 M1 (s50_3 x0 x1 (IntKind.wrap .i64 (x2+1)) x3 x4 x5 x6 x7) (l50 J m w50_0 [] M1))) (fun J=>by kernel_rfl) (by simp only[jj_eq,h1];rfl)
theorem geo_bounds_j2_eq m M1 rec1 (h1:H50_1 m M1 rec1) x0 x1 x2 x3 x4 x5 x6 x7:e50 jn m w50_2 [M1] (s50_3 x0 x1 x2 x3 x4 x5 x6 x7)=geo_bounds_j2 m rec1 x0 x1 x2 x3 x4 x5 x6 x7:=
 tre (g:=fun J=>((idx x0 x2).bind fun v2=>
  (jj J 0 7 0 (s50_3 x0 x1 x2 x3 x4 x5 (Dt.agg [(Dt.int (bif (decide ((Dt.I v2 0)<(Dt.I x6 0))) then(Dt.I v2 0) else(Dt.I x6 0))),(Dt.int (bif (decide ((Dt.I v2 1)<(Dt.I x6 1))) then(Dt.I v2 1) else(Dt.I x6 1)))]) (Dt.agg [(Dt.int (bif (decide ((Dt.I x7 0)<(Dt.I v2 0))) then(Dt.I v2 0) else(Dt.I x7 0))),(Dt.int (bif (decide ((Dt.I x7 1)<(Dt.I v2 1))) then(Dt.I v2 1) else(Dt.I x7 1)))])) (e50 J m w50_1 [M1])))) (fun J=>by kernel_rfl) (by simp only[jj_eq,geo_bounds_j3_eq m M1 rec1 h1];rfl)
theorem geo_bounds_j4_eq m x0 x1 x2 x3 x4:e50 jn m [1,1,1] [] (s50_4 x0 x1 x2 x3 x4)=geo_bounds_j4 m x0 x1 x2 x3 x4:=
 tre (g:=fun J=>some ((Dt.agg [(Dt.int (bif (decide (0<(IntKind.wrap .i64 ((Dt.I x3 0)-(Dt.I x0 2))))) then(IntKind.wrap .i64 ((Dt.I x3 0)-(Dt.I x0 2))) else 0)),(Dt.int (bif (decide (0<(IntKind.wrap .i64 ((Dt.I x3 1)-(Dt.I x0 2))))) then(IntKind.wrap .i64 ((Dt.I x3 1)-(Dt.I x0 2))) else 0))]),(Dt.agg [(Dt.int (bif (decide ((IntKind.wrap .i64 ((Dt.I x4 0)+(Dt.I x0 2)))<65535)) then(IntKind.wrap .i64 ((Dt.I x4 0)+(Dt.I x0 2))) else 65535)),(Dt.int (bif (decide ((IntKind.wrap .i64 ((Dt.I x4 1)+(Dt.I x0 2)))<65535)) then(IntKind.wrap .i64 ((Dt.I x4 1)+(Dt.I x0 2))) else 65535))]))) (fun J=>by kernel_rfl) (by rfl)
theorem geo_bounds_l1_eq m:∀M1 x0 x1 x2 x3 x4 x5 x6 x7,l50 jn m w50_0 [] M1 (s50_3 x0 x1 x2 x3 x4 x5 x6 x7)=geo_bounds_l1 m M1 x0 x1 x2 x3 x4 x5 x6 x7
 |0,_,_,_,_,_,_,_,_=>rfl
 | M1+1,x0,x1,x2,x3,x4,x5,x6,x7=>
   trl (g:=fun J=>(bif (decide (x2<x1)) then
  (jj J 0 4 0 (s50_3 x0 x1 x2 x3 x4 x5 x6 x7) (e50 J m w50_2 [M1]))
   else
  (jj J 0 8 0 (s50_4 x3 x4 x5 x6 x7) (e50 J m [1,1,1] [])))) (fun J=>by kernel_rfl) (by simp only[jj_eq,geo_bounds_j2_eq m M1 (geo_bounds_l1 m M1) (geo_bounds_l1_eq m M1),geo_bounds_j4_eq m];rfl)
theorem geo_bounds_j0_eq m x0 x1 x2 x3 x4 x5 x6 x7:e50 jn m [1,1,0,1] [] (s50_3 x0 x1 x2 x3 x4 x5 x6 x7)=geo_bounds_j0 m x0 x1 x2 x3 x4 x5 x6 x7:=
 tre (g:=fun J=>(jj J 1 3 (Nat.succ m) (s50_3 x0 x1 x2 x3 x4 x5 x6 x7) (l50 J m w50_0 [] (Nat.succ m)))) (fun J=>by kernel_rfl) (by simp only[jj_eq,geo_bounds_l1_eq m];rfl)
theorem geo_bounds_eq m a0:e50 jn m [] [] ⟨[(.dat 49 a0)],[],0⟩=geo_bounds (m+1) a0:=
 tre (g:=fun J=>((idx (Dt.L a0 1) 0).bind fun v0=>
  ((idx (Dt.L a0 1) 0).bind fun v1=>
  (jj J 0 3 0 (s50_3 (Dt.L a0 1) (List.length (Dt.L a0 1):Int) 0 a0 (Dt.agg [(Dt.int 0),(Dt.int 0)]) (Dt.agg [(Dt.int 0),(Dt.int 0)]) v0 v1) (e50 J m [1,1,0,1] []))))) (fun J=>by kernel_rfl) (by simp only[jj_eq,geo_bounds_j0_eq m];rfl)
def w53_7:List Nat:=[1,1,0,1,0,1,1]
def w53_0:List Nat:=w53_7++[0]
def w53_6:List Nat:=[1,1,1,0,1,0,1,1]
def w53_3:List Nat:=w53_6++[0]
def w53_2:List Nat:=w53_0++[0,1,1]
def w53_1:List Nat:=w53_2++[1]
def w53_5:List Nat:=w53_3++[0,1,1]
def w53_4:List Nat:=w53_5++[1]
noncomputable def e53 (J:Nat→Nat→Nat→St→Option (Int×Int×ByteArray×List Dt×List Dt)→Option (Int×Int×ByteArray×List Dt×List Dt)) (m:Nat) (p ms:List Nat) (σ:St):=evAt Tryz.prog env (ct m) J (m+1) 170 68 Tryz.f170 d48 p ms σ
noncomputable def l53 (J:Nat→Nat→Nat→St→Option (Int×Int×ByteArray×List Dt×List Dt)→Option (Int×Int×ByteArray×List Dt×List Dt)) (m:Nat) (p ms:List Nat) (M:Nat) (σ:St):=loopAt Tryz.prog env (ct m) J (m+1) 170 68 Tryz.f170 d48 p ms M σ
noncomputable def s53_3 (x0:List Dt) (x1 x2:Int) (x3 x4:Dt) (x5 x6:Int) (x7:ByteArray) (x8 x9:List Dt):St:=⟨tsOf [(1,(.ptr 0 [] 0)),(2,(.ptr 1 [] 0)),(3,(.ptr 2 [] 0)),(25,(.dat 23 (.lst x0))),(26,(.dat 3 (.int x1))),(27,(.dat 3 (.int x2)))],[(.box 33 (.dat 33 x3)),(.box 33 (.dat 33 x4)),(.box 33 (.agg 33 [(.dat 3 (.int x5)),(.dat 3 (.int x6)),(.dat 9 (.str x7)),(.row 3),(.row 4)])),(.row 23 x8),(.row 31 x9)],0⟩
noncomputable def s53_8 (x0:List Dt) (x1 x2:Int) (x3:Dt) (x4 x5:Int) (x6:ByteArray) (x7 x8:List Dt):St:=⟨tsOf [(2,(.ptr 0 [] 0)),(3,(.ptr 1 [] 0)),(49,(.dat 31 (.lst x0))),(50,(.dat 3 (.int x1))),(51,(.dat 3 (.int x2)))],[(.box 33 (.dat 33 x3)),(.box 33 (.agg 33 [(.dat 3 (.int x4)),(.dat 3 (.int x5)),(.dat 9 (.str x6)),(.row 2),(.row 3)])),(.row 23 x7),(.row 31 x8)],0⟩
noncomputable def s53_9 (x0:Dt) (x1 x2:Int) (x3:ByteArray) (x4 x5:List Dt):St:=⟨tsOf [(2,(.ptr 0 [] 0)),(3,(.ptr 1 [] 0))],[(.box 33 (.dat 33 x0)),(.box 33 (.agg 33 [(.dat 3 (.int x1)),(.dat 3 (.int x2)),(.dat 9 (.str x3)),(.row 2),(.row 3)])),(.row 23 x4),(.row 31 x5)],0⟩
noncomputable def s53_4 (x0 x1:Dt) (x2 x3:Int) (x4:ByteArray) (x5 x6:List Dt):St:=⟨tsOf [(1,(.ptr 0 [] 0)),(2,(.ptr 1 [] 0)),(3,(.ptr 2 [] 0))],[(.box 33 (.dat 33 x0)),(.box 33 (.dat 33 x1)),(.box 33 (.agg 33 [(.dat 3 (.int x2)),(.dat 3 (.int x3)),(.dat 9 (.str x4)),(.row 3),(.row 4)])),(.row 23 x5),(.row 31 x6)],0⟩
abbrev H53_1 (m M1:Nat) (rec1:List Dt→Int→Int→Dt→Dt→Int→Int→ByteArray→List Dt→List Dt→Option (Int×Int×ByteArray×List Dt×List Dt)):Prop:=∀x0 x1 x2 x3 x4 x5 x6 x7 x8 x9,l53 jn m w53_0 [] M1 (s53_3 x0 x1 x2 x3 x4 x5 x6 x7 x8 x9)=rec1 x0 x1 x2 x3 x4 x5 x6 x7 x8 x9
theorem value_clone_j3_eq m M1 rec1 (h1:H53_1 m M1 rec1) x0 x1 x2 x3 x4 x5 x6 x7 x8 x9:e53 jn m w53_1 [M1] (s53_3 x0 x1 x2 x3 x4 x5 x6 x7 x8 x9)=value_clone_j3 m (value_clone m) rec1 x0 x1 x2 x3 x4 x5 x6 x7 x8 x9:=
 tre (g:=fun J=>(jj J 1 5 M1 (s53_3 x0 x1 (IntKind.wrap .i64 (x2+1)) x3 x4 x5 x6 x7 x8 x9) (l53 J m w53_0 [] M1))) (fun J=>by kernel_rfl) (by simp only[jj_eq,h1];rfl)
theorem value_clone_j2_eq m M1 rec1 (h1:H53_1 m M1 rec1) x0 x1 x2 x3 x4 x5 x6 x7 x8 x9:e53 jn m w53_2 [M1] (s53_3 x0 x1 x2 x3 x4 x5 x6 x7 x8 x9)=value_clone_j2 m (value_clone m) rec1 x0 x1 x2 x3 x4 x5 x6 x7 x8 x9:=
 tre (g:=fun J=>((idx x0 x2).bind fun v1=>
  ((value_clone m v1).bind fun r2=>
  ((inL x8 x2).bind fun v3=>
  ((x8[(Int.toNat x2)]?).bind fun v4=>
  (jj J 0 8 0 (s53_3 x0 x1 x2 x3 x4 x5 x6 x7 (List.set x8 (Int.toNat x2) (Dt.agg [(Dt.int r2.1),(Dt.int r2.2.1),(Dt.str r2.2.2.1),(Dt.lst r2.2.2.2.1),(Dt.lst r2.2.2.2.2)])) x9) (e53 J m w53_1 [M1]))))))) (fun J=>by kernel_rfl) (by simp only[jj_eq,value_clone_j3_eq m M1 rec1 h1];rfl)
abbrev H53_6 (m M6:Nat) (rec6:List Dt→Int→Int→Dt→Int→Int→ByteArray→List Dt→List Dt→Option (Int×Int×ByteArray×List Dt×List Dt)):Prop:=∀x0 x1 x2 x3 x4 x5 x6 x7 x8,l53 jn m w53_3 [] M6 (s53_8 x0 x1 x2 x3 x4 x5 x6 x7 x8)=rec6 x0 x1 x2 x3 x4 x5 x6 x7 x8
theorem value_clone_j8_eq m M6 rec6 (h6:H53_6 m M6 rec6) x0 x1 x2 x3 x4 x5 x6 x7 x8:e53 jn m w53_4 [M6] (s53_8 x0 x1 x2 x3 x4 x5 x6 x7 x8)=value_clone_j8 m (value_clone m) rec6 x0 x1 x2 x3 x4 x5 x6 x7 x8:=
 tre (g:=fun J=>(jj J 1 12 M6 (s53_8 x0 x1 (IntKind.wrap .i64 (x2+1)) x3 x4 x5 x6 x7 x8) (l53 J m w53_3 [] M6))) (fun J=>by kernel_rfl) (by simp only[jj_eq,h6];rfl)
theorem value_clone_j7_eq m M6 rec6 (h6:H53_6 m M6 rec6) x0 x1 x2 x3 x4 x5 x6 x7 x8:e53 jn m w53_5 [M6] (s53_8 x0 x1 x2 x3 x4 x5 x6 x7 x8)=value_clone_j7 m (value_clone m) rec6 x0 x1 x2 x3 x4 x5 x6 x7 x8:=
 tre (g:=fun J=>((idx x0 x2).bind fun v6=>
  ((value_clone m (Dt.fld v6 1)).bind fun r7=>
  ((inL x8 x2).bind fun v8=>
  ((x8[(Int.toNat x2)]?).bind fun v9=>
  (jj J 0 15 0 (s53_8 x0 x1 x2 x3 x4 x5 x6 x7 (List.set x8 (Int.toNat x2) (Dt.agg [(Dt.str (Dt.S v6 0)),(Dt.agg [(Dt.int r7.1),(Dt.int r7.2.1),(Dt.str r7.2.2.1),(Dt.lst r7.2.2.2.1),(Dt.lst r7.2.2.2.2)])]))) (e53 J m w53_4 [M6]))))))) (fun J=>by kernel_rfl) (by simp only[jj_eq,value_clone_j8_eq m M6 rec6 h6];rfl)
theorem value_clone_j9_eq m x0 x1 x2 x3 x4 x5:e53 jn m [1,1,1,1] [] (s53_9 x0 x1 x2 x3 x4 x5)=value_clone_j9 m (value_clone m) x0 x1 x2 x3 x4 x5:=
 tre (g:=fun J=>some (x1,x2,x3,x4,x5)) (fun J=>by kernel_rfl) (by rfl)
theorem value_clone_l6_eq m:∀M6 x0 x1 x2 x3 x4 x5 x6 x7 x8,l53 jn m w53_3 [] M6 (s53_8 x0 x1 x2 x3 x4 x5 x6 x7 x8)=value_clone_l6 m (value_clone m) M6 x0 x1 x2 x3 x4 x5 x6 x7 x8
 |0,_,_,_,_,_,_,_,_,_=>rfl
 | M6+1,x0,x1,x2,x3,x4,x5,x6,x7,x8=>
   trl (g:=fun J=>(bif (decide (x2<x1)) then
  (jj J 0 13 0 (s53_8 x0 x1 x2 x3 x4 x5 x6 x7 x8) (e53 J m w53_5 [M6]))
   else
  (jj J 0 16 0 (s53_9 x3 x4 x5 x6 x7 x8) (e53 J m [1,1,1,1] [])))) (fun J=>by kernel_rfl) (by simp only[jj_eq,value_clone_j7_eq m M6 (value_clone_l6 m (value_clone m) M6) (value_clone_l6_eq m M6),value_clone_j9_eq m];rfl)
theorem value_clone_j5_eq m x0 x1 x2 x3 x4 x5 x6 x7 x8:e53 jn m w53_6 [] (s53_8 x0 x1 x2 x3 x4 x5 x6 x7 x8)=value_clone_j5 m (value_clone m) x0 x1 x2 x3 x4 x5 x6 x7 x8:=
 tre (g:=fun J=>(jj J 1 12 (Nat.succ m) (s53_8 x0 x1 x2 x3 x4 x5 x6 x7 x8) (l53 J m w53_3 [] (Nat.succ m)))) (fun J=>by kernel_rfl) (by simp only[jj_eq,value_clone_l6_eq m];rfl)
theorem value_clone_j4_eq m x0 x1 x2 x3 x4 x5 x6:e53 jn m [1,1,1] [] (s53_4 x0 x1 x2 x3 x4 x5 x6)=value_clone_j4 m (value_clone m) x0 x1 x2 x3 x4 x5 x6:=
 tre (g:=fun J=>(bif (decide (0<(List.length (Dt.L x0 4):Int))) then
  ((mkL (List.length (Dt.L x0 4):Int) (List.length (Dt.L x0 4):Int) kzcda49).bind fun v5=>
  (jj J 0 12 0 (s53_8 (Dt.L x0 4) (List.length (Dt.L x0 4):Int) 0 x1 x2 x3 x4 x5 v5) (e53 J m w53_6 [])))
   else
  (jj J 0 16 0 (s53_9 x1 x2 x3 x4 x5 x6) (e53 J m [1,1,1,1] [])))) (fun J=>by kernel_rfl) (by simp only[jj_eq,value_clone_j5_eq m,value_clone_j9_eq m];rfl)
theorem value_clone_l1_eq m:∀M1 x0 x1 x2 x3 x4 x5 x6 x7 x8 x9,l53 jn m w53_0 [] M1 (s53_3 x0 x1 x2 x3 x4 x5 x6 x7 x8 x9)=value_clone_l1 m (value_clone m) M1 x0 x1 x2 x3 x4 x5 x6 x7 x8 x9
 |0,_,_,_,_,_,_,_,_,_,_=>rfl
 | M1+1,x0,x1,x2,x3,x4,x5,x6,x7,x8,x9=>
   trl (g:=fun J=>(bif (decide (x2<x1)) then
  (jj J 0 6 0 (s53_3 x0 x1 x2 x3 x4 x5 x6 x7 x8 x9) (e53 J m w53_2 [M1]))
   else
  (jj J 0 9 0 (s53_4 x3 x4 x5 x6 x7 x8 x9) (e53 J m [1,1,1] [])))) (fun J=>by kernel_rfl) (by simp only[jj_eq,value_clone_j2_eq m M1 (value_clone_l1 m (value_clone m) M1) (value_clone_l1_eq m M1),value_clone_j4_eq m];rfl)
theorem value_clone_j0_eq m x0 x1 x2 x3 x4 x5 x6 x7 x8 x9:e53 jn m w53_7 [] (s53_3 x0 x1 x2 x3 x4 x5 x6 x7 x8 x9)=value_clone_j0 m (value_clone m) x0 x1 x2 x3 x4 x5 x6 x7 x8 x9:=
 tre (g:=fun J=>(jj J 1 5 (Nat.succ m) (s53_3 x0 x1 x2 x3 x4 x5 x6 x7 x8 x9) (l53 J m w53_0 [] (Nat.succ m)))) (fun J=>by kernel_rfl) (by simp only[jj_eq,value_clone_l1_eq m];rfl)
theorem value_clone_eq m a0:e53 jn m [] [] ⟨[(.dat 33 a0)],[],0⟩=value_clone (m+1) a0:=
 tre (g:=fun J=>(bif (decide (0<(List.length (Dt.L a0 3):Int))) then
  ((mkL (List.length (Dt.L a0 3):Int) (List.length (Dt.L a0 3):Int) kza2373).bind fun v0=>
  (jj J 0 5 0 (s53_3 (Dt.L a0 3) (List.length (Dt.L a0 3):Int) 0 a0 kza2373 (Dt.I a0 0) (Dt.I a0 1) (Dt.S a0 2) v0 []) (e53 J m w53_7 [])))
   else
  (jj J 0 9 0 (s53_4 a0 kza2373 (Dt.I a0 0) (Dt.I a0 1) (Dt.S a0 2) [] []) (e53 J m [1,1,1] [])))) (fun J=>by kernel_rfl) (by simp only[jj_eq,value_clone_j0_eq m,value_clone_j4_eq m];rfl)
def w54_0:List Nat:=[1,1,0,1,0]
def w54_2:List Nat:=[1,1,0,1,0,0,1,1]
def w54_1:List Nat:=w54_2++[1]
noncomputable def e54 (J:Nat→Nat→Nat→St→Option Int→Option Int) (m:Nat) (p ms:List Nat) (σ:St):=evAt Tryz.prog env (ct m) J (m+1) 171 25 Tryz.f171 d15 p ms σ
noncomputable def l54 (J:Nat→Nat→Nat→St→Option Int→Option Int) (m:Nat) (p ms:List Nat) (M:Nat) (σ:St):=loopAt Tryz.prog env (ct m) J (m+1) 171 25 Tryz.f171 d15 p ms M σ
noncomputable def s54_4 (x0:ByteArray) (x1 x2:Int) (x3:Dt):St:=⟨tsOf [(1,(.dat 9 (.str x0))),(2,(.ptr 0 [] 0)),(11,(.dat 3 (.int x1))),(12,(.dat 3 (.int x2)))],[(.box 33 (.dat 33 x3))],0⟩
noncomputable def s54_5:St:=⟨tsOf [],[],0⟩
noncomputable def s54_0 (x0:ByteArray) (x1:Dt):St:=⟨tsOf [(1,(.dat 9 (.str x0))),(2,(.ptr 0 [] 0))],[(.box 33 (.dat 33 x1))],0⟩
abbrev H54_2 (m M2:Nat) (rec2:ByteArray→Int→Int→Dt→Option Int):Prop:=∀x0 x1 x2 x3,l54 jn m w54_0 [] M2 (s54_4 x0 x1 x2 x3)=rec2 x0 x1 x2 x3
theorem value_find_j4_eq m M2 rec2 (h2:H54_2 m M2 rec2) x0 x1 x2 x3:e54 jn m w54_1 [M2] (s54_4 x0 x1 x2 x3)=value_find_j4 m rec2 x0 x1 x2 x3:=
 tre (g:=fun J=>(jj J 1 4 M2 (s54_4 x0 x1 (IntKind.wrap .i64 (x2+1)) x3) (l54 J m w54_0 [] M2))) (fun J=>by kernel_rfl) (by simp only[jj_eq,h2];rfl)
theorem value_find_j3_eq m M2 rec2 (h2:H54_2 m M2 rec2) x0 x1 x2 x3:e54 jn m w54_2 [M2] (s54_4 x0 x1 x2 x3)=value_find_j3 m rec2 x0 x1 x2 x3:=
 tre (g:=fun J=>((idx (Dt.L x3 4) x2).bind fun v0=>
  (bif ((ByteArray.toList (Dt.S v0 0))==(ByteArray.toList x0)) then
  some x2
  else
  (jj J 0 8 0 (s54_4 x0 x1 x2 x3) (e54 J m w54_1 [M2]))))) (fun J=>by kernel_rfl) (by simp only[jj_eq,value_find_j4_eq m M2 rec2 h2];rfl)
theorem value_find_j5_eq m:e54 jn m [1,1,1] [] s54_5=value_find_j5 m:=
 tre (g:=fun J=>some (-1)) (fun J=>by kernel_rfl) (by rfl)
theorem value_find_l2_eq m:∀M2 x0 x1 x2 x3,l54 jn m w54_0 [] M2 (s54_4 x0 x1 x2 x3)=value_find_l2 m M2 x0 x1 x2 x3
 |0,_,_,_,_=>rfl
 | M2+1,x0,x1,x2,x3=>
   trl (g:=fun J=>(bif (decide (x2<x1)) then
  (jj J 0 5 0 (s54_4 x0 x1 x2 x3) (e54 J m w54_2 [M2]))
   else
  (jj J 0 9 0 s54_5 (e54 J m [1,1,1] [])))) (fun J=>by kernel_rfl) (by simp only[jj_eq,value_find_j3_eq m M2 (value_find_l2 m M2) (value_find_l2_eq m M2),value_find_j5_eq m];rfl)
theorem value_find_j1_eq m x0 x1 x2 x3:e54 jn m [1,1,0,1] [] (s54_4 x0 x1 x2 x3)=value_find_j1 m x0 x1 x2 x3:=
 tre (g:=fun J=>(jj J 1 4 (Nat.succ m) (s54_4 x0 x1 x2 x3) (l54 J m w54_0 [] (Nat.succ m)))) (fun J=>by kernel_rfl) (by simp only[jj_eq,value_find_l2_eq m];rfl)
theorem value_find_j0_eq m x0 x1:e54 jn m [1,1] [] (s54_0 x0 x1)=value_find_j0 m x0 x1:=
 tre (g:=fun J=>(jj J 0 4 0 (s54_4 x0 (List.length (Dt.L x1 4):Int) 0 x1) (e54 J m [1,1,0,1] []))) (fun J=>by kernel_rfl) (by simp only[jj_eq,value_find_j1_eq m];rfl)
theorem value_find_eq m a0 a1:e54 jn m [] [] ⟨[(.dat 33 a0),(.dat 9 (.str a1))],[],0⟩=value_find (m+1) a0 a1:=
 tre (g:=fun J=>(bif ((Dt.I a0 0) !=5) then
  some (-1)
   else
  (jj J 0 3 0 (s54_0 a1 a0) (e54 J m [1,1] [])))) (fun J=>by kernel_rfl) (by simp only[jj_eq,value_find_j0_eq m];rfl)
noncomputable def e34 (J:Nat→Nat→Nat→St→Option Dt→Option Dt) (m:Nat) (p ms:List Nat) (σ:St):=evAt Tryz.prog env (ct m) J (m+1) 123 38 Tryz.f123 d19 p ms σ
noncomputable def l34 (J:Nat→Nat→Nat→St→Option Dt→Option Dt) (m:Nat) (p ms:List Nat) (M:Nat) (σ:St):=loopAt Tryz.prog env (ct m) J (m+1) 123 38 Tryz.f123 d19 p ms M σ
noncomputable def s34_1 (x0:ByteArray) (x1 x2:Dt) (x3 x4:Int) (x5:ByteArray) (x6 x7:List Dt):St:=⟨tsOf [(1,(.dat 9 (.str x0))),(5,(.ptr 0 [] 0)),(6,(.ptr 1 [] 0)),(7,(.ptr 2 [] 0))],[(.box 33 (.dat 33 x1)),(.box 33 (.dat 33 x2)),(.box 33 (.agg 33 [(.dat 3 (.int x3)),(.dat 3 (.int x4)),(.dat 9 (.str x5)),(.row 3),(.row 4)])),(.row 23 x6),(.row 31 x7)],0⟩
theorem value_Set_j1_eq m x0 x1 x2 x3 x4 x5 x6 x7:e34 jn m [1,1,1,1] [] (s34_1 x0 x1 x2 x3 x4 x5 x6 x7)=value_Set_j1 m x0 x1 x2 x3 x4 x5 x6 x7:=
 tre (g:=fun J=>((value_clone m x1).bind fun r5=>
  ((app x7 [(Dt.agg [(Dt.str x0),(Dt.agg [(Dt.int r5.1),(Dt.int r5.2.1),(Dt.str r5.2.2.1),(Dt.lst r5.2.2.2.1),(Dt.lst r5.2.2.2.2)])])]).bind fun v6=>
  some (Dt.agg [(Dt.int x3),(Dt.int x4),(Dt.str x5),(Dt.lst x6),(Dt.lst v6)])))) (fun J=>by kernel_rfl) (by rfl)
theorem value_Set_j0_eq m x0 x1 x2 x3 x4 x5 x6 x7:e34 jn m [1,1,1] [] (s34_1 x0 x1 x2 x3 x4 x5 x6 x7)=value_Set_j0 m x0 x1 x2 x3 x4 x5 x6 x7:=
 tre (g:=fun J=>((value_find m (Dt.agg [(Dt.int x3),(Dt.int x4),(Dt.str x5),(Dt.lst x6),(Dt.lst x7)]) x0).bind fun r1=>
  (bif (decide (0≤r1)) then
  ((value_clone m x1).bind fun r2=>
  ((inL x7 r1).bind fun v3=>
  ((x7[(Int.toNat r1)]?).bind fun v4=>
  some (Dt.agg [(Dt.int x3),(Dt.int x4),(Dt.str x5),(Dt.lst x6),(Dt.lst (List.set x7 (Int.toNat r1) (Dt.agg [(Dt.str (Dt.S v4 0)),(Dt.agg [(Dt.int r2.1),(Dt.int r2.2.1),(Dt.str r2.2.2.1),(Dt.lst r2.2.2.2.1),(Dt.lst r2.2.2.2.2)])])))]))))
  else
  (jj J 0 8 0 (s34_1 x0 x1 x2 x3 x4 x5 x6 x7) (e34 J m [1,1,1,1] []))))) (fun J=>by kernel_rfl) (by simp only[jj_eq,value_Set_j1_eq m];rfl)
theorem value_Set_eq m a0 a1 a2:e34 jn m [] [] ⟨[(.dat 33 a0),(.dat 9 (.str a1)),(.dat 33 a2)],[],0⟩=value_Set (m+1) a0 a1 a2:=
 tre (g:=fun J=>((value_clone m a0).bind fun r0=>
  (bif (r0.1 !=5) then
  some (Dt.agg [(Dt.int r0.1),(Dt.int r0.2.1),(Dt.str r0.2.2.1),(Dt.lst r0.2.2.2.1),(Dt.lst r0.2.2.2.2)])
  else
  (jj J 0 4 0 (s34_1 a1 a2 kza2373 r0.1 r0.2.1 r0.2.2.1 r0.2.2.2.1 r0.2.2.2.2) (e34 J m [1,1,1] []))))) (fun J=>by kernel_rfl) (by simp only[jj_eq,value_Set_j0_eq m];rfl)
noncomputable def e21 (J:Nat→Nat→Nat→St→Option Dt→Option Dt) (m:Nat) (p ms:List Nat) (σ:St):=evAt Tryz.prog env (ct m) J (m+1) 77 14 Tryz.f77 d19 p ms σ
noncomputable def l21 (J:Nat→Nat→Nat→St→Option Dt→Option Dt) (m:Nat) (p ms:List Nat) (M:Nat) (σ:St):=loopAt Tryz.prog env (ct m) J (m+1) 77 14 Tryz.f77 d19 p ms M σ
noncomputable def s21_0 (x0:ByteArray) (x1 x2 x3:Dt):St:=⟨tsOf [(1,(.dat 9 (.str x0))),(3,(.ptr 0 [] 0)),(5,(.ptr 1 [] 0)),(6,(.ptr 2 [] 0))],[(.box 33 (.dat 33 x1)),(.box 33 (.dat 33 x2)),(.box 33 (.dat 33 x3))],0⟩
theorem reshape_named_j0_eq m x0 x1 x2 x3:e21 jn m [1,1] [] (s21_0 x0 x1 x2 x3)=reshape_named_j0 m x0 x1 x2 x3:=
 tre (g:=fun J=>((value_Set m x1 x0 x2).bind fun r0=>
  some r0)) (fun J=>by kernel_rfl) (by rfl)
theorem reshape_named_eq m a0 a1 a2:e21 jn m [] [] ⟨[(.dat 33 a0),(.dat 9 (.str a1)),(.dat 33 a2)],[],0⟩=reshape_named (m+1) a0 a1 a2:=
 tre (g:=fun J=>(bif ((ByteArray.toList a1)==[]) then
  some a0
   else
  (jj J 0 3 0 (s21_0 a1 a0 a2 kza2373) (e21 J m [1,1] [])))) (fun J=>by kernel_rfl) (by simp only[jj_eq,reshape_named_j0_eq m];rfl)
noncomputable def e49 (J:Nat→Nat→Nat→St→Option (Dt×Bool)→Option (Dt×Bool)) (m:Nat) (p ms:List Nat) (σ:St):=evAt Tryz.prog env (ct m) J (m+1) 164 20 Tryz.f164 d49 p ms σ
noncomputable def l49 (J:Nat→Nat→Nat→St→Option (Dt×Bool)→Option (Dt×Bool)) (m:Nat) (p ms:List Nat) (M:Nat) (σ:St):=loopAt Tryz.prog env (ct m) J (m+1) 164 20 Tryz.f164 d49 p ms M σ
noncomputable def s49_0 (x0:Int) (x1 x2:Dt):St:=⟨tsOf [(2,(.ptr 0 [] 0)),(4,(.ptr 1 [] 0)),(6,(.dat 3 (.int x0)))],[(.box 33 (.dat 33 x1)),(.box 33 (.dat 33 x2))],0⟩
theorem value_Get_j0_eq m x0 x1 x2:e49 jn m [1,1,1] [] (s49_0 x0 x1 x2)=value_Get_j0 m x0 x1 x2:=
 tre (g:=fun J=>((idx (Dt.L x1 4) x0).bind fun v1=>
  ((value_clone m (Dt.fld v1 1)).bind fun r2=>
  some ((Dt.agg [(Dt.int r2.1),(Dt.int r2.2.1),(Dt.str r2.2.2.1),(Dt.lst r2.2.2.2.1),(Dt.lst r2.2.2.2.2)]),true)))) (fun J=>by kernel_rfl) (by rfl)
theorem value_Get_eq m a0 a1:e49 jn m [] [] ⟨[(.dat 33 a0),(.dat 9 (.str a1))],[],0⟩=value_Get (m+1) a0 a1:=
 tre (g:=fun J=>((value_find m a0 a1).bind fun r0=>
  (bif (decide (r0<0)) then
  some (kza2373,false)
  else
  (jj J 0 4 0 (s49_0 r0 a0 kza2373) (e49 J m [1,1,1] []))))) (fun J=>by kernel_rfl) (by simp only[jj_eq,value_Get_j0_eq m];rfl)
def w31_0:List Nat:=[1,1,1,1,1]
def w31_3:List Nat:=[1,1,0,0,1]
def w31_1:List Nat:=[1,1,1,1,0,1]
def w31_2:List Nat:=[1,1,0,0,1,1,1]
noncomputable def e31 (J:Nat→Nat→Nat→St→Option (Dt×Int)→Option (Dt×Int)) (m:Nat) (p ms:List Nat) (σ:St):=evAt Tryz.prog env (ct m) J (m+1) 119 65 Tryz.f119 d31 p ms σ
noncomputable def l31 (J:Nat→Nat→Nat→St→Option (Dt×Int)→Option (Dt×Int)) (m:Nat) (p ms:List Nat) (M:Nat) (σ:St):=loopAt Tryz.prog env (ct m) J (m+1) 119 65 Tryz.f119 d31 p ms M σ
noncomputable def s31_3 (x0 x1:Dt):St:=⟨tsOf [(2,(.ptr 0 [] 0)),(6,(.ptr 1 [] 0))],[(.box 90 (.dat 90 x0)),(.box 90 (.dat 90 x1))],0⟩
noncomputable def s31_2 (x0:Bool) (x1 x2:Dt):St:=⟨tsOf [(2,(.ptr 0 [] 0)),(6,(.ptr 1 [] 0)),(62,(.dat 4 (.bool x0)))],[(.box 90 (.dat 90 x1)),(.box 90 (.dat 90 x2))],0⟩
noncomputable def s31_1 (x0 x1 x2:Dt):St:=⟨tsOf [(2,(.ptr 0 [] 0)),(4,(.ptr 1 [] 0)),(5,(.ptr 2 [] 0))],[(.box 90 (.dat 90 x0)),(.box 33 (.dat 33 x1)),(.box 33 (.dat 33 x2))],0⟩
noncomputable def s31_4 (x0:Bool) (x1 x2 x3 x4:Dt):St:=⟨tsOf [(1,(.ptr 0 [] 0)),(2,(.ptr 1 [] 0)),(4,(.ptr 2 [] 0)),(5,(.ptr 3 [] 0)),(25,(.dat 4 (.bool x0)))],[(.box 33 (.dat 33 x1)),(.box 90 (.dat 90 x2)),(.box 33 (.dat 33 x3)),(.box 33 (.dat 33 x4))],0⟩
noncomputable def s31_0 (x0:Bool) (x1 x2 x3 x4:Dt):St:=⟨tsOf [(1,(.ptr 0 [] 0)),(2,(.ptr 1 [] 0)),(4,(.ptr 2 [] 0)),(5,(.ptr 3 [] 0)),(7,(.dat 4 (.bool x0)))],[(.box 33 (.dat 33 x1)),(.box 90 (.dat 90 x2)),(.box 33 (.dat 33 x3)),(.box 33 (.dat 33 x4))],0⟩
theorem geo_Point_j3_eq m x0 x1:e31 jn m w31_0 [] (s31_3 x0 x1)=geo_Point_j3 m x0 x1:=
 tre (g:=fun J=>some (x1,0)) (fun J=>by kernel_rfl) (by rfl)
theorem geo_Point_j2_eq m x0 x1 x2:e31 jn m w31_1 [] (s31_2 x0 x1 x2)=geo_Point_j2 m x0 x1 x2:=
 tre (g:=fun J=>(bif x0 then
  some ((Dt.agg [(Dt.int 0),(Dt.int 0)]),18)
   else
  (jj J 0 10 0 (s31_3 x1 x2) (e31 J m w31_0 [])))) (fun J=>by kernel_rfl) (by simp only[jj_eq,geo_Point_j3_eq m];rfl)
theorem geo_Point_j1_eq m x0 x1 x2:e31 jn m [1,1,1] [] (s31_1 x0 x1 x2)=geo_Point_j1 m x0 x1 x2:=
 tre (g:=fun J=>(bif ((Dt.I x1 0) !=3) then
  (jj J 0 9 0 (s31_2 true x0 (Dt.agg [(Dt.int (Dt.I x1 1)),(Dt.int (Dt.I x2 1))])) (e31 J m w31_1 []))
   else
  (bif ((Dt.I x2 0) !=3) then
  (jj J 0 9 0 (s31_2 true x0 (Dt.agg [(Dt.int (Dt.I x1 1)),(Dt.int (Dt.I x2 1))])) (e31 J m w31_1 []))
  else
  ((geo_isPoint m (Dt.agg [(Dt.int (Dt.I x1 1)),(Dt.int (Dt.I x2 1))])).bind fun r2=>
  (jj J 0 9 0 (s31_2 (Bool.not r2) x0 (Dt.agg [(Dt.int (Dt.I x1 1)),(Dt.int (Dt.I x2 1))])) (e31 J m w31_1 [])))))) (fun J=>by kernel_rfl) (by simp only[jj_eq,geo_Point_j2_eq m];rfl)
theorem geo_Point_j4_eq m x0 x1 x2 x3 x4:e31 jn m w31_2 [] (s31_4 x0 x1 x2 x3 x4)=geo_Point_j4 m x0 x1 x2 x3 x4:=
 tre (g:=fun J=>(bif x0 then
  ((value_Get m x1 (ByteArray.mk (List.toArray [120]))).bind fun r3=>
  ((value_Get m x1 (ByteArray.mk (List.toArray [121]))).bind fun r4=>
  (jj J 0 7 0 (s31_1 x2 r3.1 r4.1) (e31 J m [1,1,1] []))))
   else
  (jj J 0 7 0 (s31_1 x2 x3 x4) (e31 J m [1,1,1] [])))) (fun J=>by kernel_rfl) (by simp only[jj_eq,geo_Point_j1_eq m];rfl)
theorem geo_Point_j0_eq m x0 x1 x2 x3 x4:e31 jn m w31_3 [] (s31_0 x0 x1 x2 x3 x4)=geo_Point_j0 m x0 x1 x2 x3 x4:=
 tre (g:=fun J=>(bif x0 then
  ((idx (Dt.L x1 3) 0).bind fun v0=>
  ((idx (Dt.L x1 3) 1).bind fun v1=>
  (jj J 0 7 0 (s31_1 x2 v0 v1) (e31 J m [1,1,1] []))))
   else
  (bif ((Dt.I x1 0)==5) then
  (jj J 0 5 0 (s31_4 ((List.length (Dt.L x1 4):Int)==2) x1 x2 x3 x4) (e31 J m w31_2 []))
  else
  (jj J 0 5 0 (s31_4 false x1 x2 x3 x4) (e31 J m w31_2 []))))) (fun J=>by kernel_rfl) (by simp only[jj_eq,geo_Point_j1_eq m,geo_Point_j4_eq m];rfl)
theorem geo_Point_eq m a0:e31 jn m [] [] ⟨[(.dat 33 a0)],[],0⟩=geo_Point (m+1) a0:=
 tre (g:=fun J=>(bif ((Dt.I a0 0)==6) then
  (jj J 0 3 0 (s31_0 ((List.length (Dt.L a0 3):Int)==2) a0 (Dt.agg [(Dt.int 0),(Dt.int 0)]) kza2373 kza2373) (e31 J m w31_3 []))
   else
  (jj J 0 3 0 (s31_0 false a0 (Dt.agg [(Dt.int 0),(Dt.int 0)]) kza2373 kza2373) (e31 J m w31_3 [])))) (fun J=>by kernel_rfl) (by simp only[jj_eq,geo_Point_j0_eq m];rfl)
noncomputable def e57 (J:Nat→Nat→Nat→St→Option Bool→Option Bool) (m:Nat) (p ms:List Nat) (σ:St):=evAt Tryz.prog env (ct m) J (m+1) 173 19 Tryz.f173 d5 p ms σ
noncomputable def l57 (J:Nat→Nat→Nat→St→Option Bool→Option Bool) (m:Nat) (p ms:List Nat) (M:Nat) (σ:St):=loopAt Tryz.prog env (ct m) J (m+1) 173 19 Tryz.f173 d5 p ms M σ
theorem ref10_between_eq m a0 a1 a2:e57 jn m [] [] ⟨[(.dat 3 (.int a0)),(.dat 3 (.int a1)),(.dat 3 (.int a2))],[],0⟩=ref10_between (m+1) a0 a1 a2:=
 tre (g:=fun J=>(bif (decide ((bif (decide (a2<a1)) then a2 else a1)≤a0)) then
  some (decide (a0≤(bif (decide (a1<a2)) then a2 else a1)))
   else
  some false)) (fun J=>by kernel_rfl) (by rfl)
def w59_0:List Nat:=[1,1,0,1,0]
def w59_2:List Nat:=[1,1,0,1,0,0,1]
def w59_1:List Nat:=w59_2++[1]
noncomputable def e59 (J:Nat→Nat→Nat→St→Option Int→Option Int) (m:Nat) (p ms:List Nat) (σ:St):=evAt Tryz.prog env (ct m) J (m+1) 82 25 Tryz.f82 d15 p ms σ
noncomputable def l59 (J:Nat→Nat→Nat→St→Option Int→Option Int) (m:Nat) (p ms:List Nat) (M:Nat) (σ:St):=loopAt Tryz.prog env (ct m) J (m+1) 82 25 Tryz.f82 d15 p ms M σ
noncomputable def s59_4 (x0:ByteArray) (x1:Int) (x2:Dt):St:=⟨tsOf [(1,(.dat 9 (.str x0))),(2,(.ptr 0 [] 0)),(5,(.dat 3 (.int x1)))],[(.box 33 (.dat 33 x2))],0⟩
noncomputable def s59_5:St:=⟨tsOf [],[],0⟩
noncomputable def s59_0 (x0:ByteArray) (x1:Dt):St:=⟨tsOf [(1,(.dat 9 (.str x0))),(2,(.ptr 0 [] 0))],[(.box 33 (.dat 33 x1))],0⟩
abbrev H59_2 (m M2:Nat) (rec2:ByteArray→Int→Dt→Option Int):Prop:=∀x0 x1 x2,l59 jn m w59_0 [] M2 (s59_4 x0 x1 x2)=rec2 x0 x1 x2
theorem ref01_at_j4_eq m M2 rec2 (h2:H59_2 m M2 rec2) x0 x1 x2:e59 jn m w59_1 [M2] (s59_4 x0 x1 x2)=ref01_at_j4 m rec2 x0 x1 x2:=
 tre (g:=fun J=>(jj J 1 4 M2 (s59_4 x0 (IntKind.wrap .i64 (x1+1)) x2) (l59 J m w59_0 [] M2))) (fun J=>by kernel_rfl) (by simp only[jj_eq,h2];rfl)
theorem ref01_at_j3_eq m M2 rec2 (h2:H59_2 m M2 rec2) x0 x1 x2:e59 jn m w59_2 [M2] (s59_4 x0 x1 x2)=ref01_at_j3 m rec2 x0 x1 x2:=
 tre (g:=fun J=>((idx (Dt.L x2 4) x1).bind fun v0=>
  (bif ((ByteArray.toList (Dt.S v0 0))==(ByteArray.toList x0)) then
  some x1
  else
  (jj J 0 5 0 (s59_4 x0 x1 x2) (e59 J m w59_1 [M2]))))) (fun J=>by kernel_rfl) (by simp only[jj_eq,ref01_at_j4_eq m M2 rec2 h2];rfl)
theorem ref01_at_j5_eq m:e59 jn m [1,1,1] [] s59_5=ref01_at_j5 m:=
 tre (g:=fun J=>some (-1)) (fun J=>by kernel_rfl) (by rfl)
theorem ref01_at_l2_eq m:∀M2 x0 x1 x2,l59 jn m w59_0 [] M2 (s59_4 x0 x1 x2)=ref01_at_l2 m M2 x0 x1 x2
 |0,_,_,_=>rfl
 | M2+1,x0,x1,x2=>
   trl (g:=fun J=>(bif (decide (x1<(List.length (Dt.L x2 4):Int))) then
  (jj J 0 6 0 (s59_4 x0 x1 x2) (e59 J m w59_2 [M2]))
   else
  (jj J 0 8 0 s59_5 (e59 J m [1,1,1] [])))) (fun J=>by kernel_rfl) (by simp only[jj_eq,ref01_at_j3_eq m M2 (ref01_at_l2 m M2) (ref01_at_l2_eq m M2),ref01_at_j5_eq m];rfl)
theorem ref01_at_j1_eq m x0 x1 x2:e59 jn m [1,1,0,1] [] (s59_4 x0 x1 x2)=ref01_at_j1 m x0 x1 x2:=
 tre (g:=fun J=>(jj J 1 4 (Nat.succ m) (s59_4 x0 x1 x2) (l59 J m w59_0 [] (Nat.succ m)))) (fun J=>by kernel_rfl) (by simp only[jj_eq,ref01_at_l2_eq m];rfl)
theorem ref01_at_j0_eq m x0 x1:e59 jn m [1,1] [] (s59_0 x0 x1)=ref01_at_j0 m x0 x1:=
 tre (g:=fun J=>(jj J 0 4 0 (s59_4 x0 0 x1) (e59 J m [1,1,0,1] []))) (fun J=>by kernel_rfl) (by simp only[jj_eq,ref01_at_j1_eq m];rfl)
theorem ref01_at_eq m a0 a1:e59 jn m [] [] ⟨[(.dat 33 a0),(.dat 9 (.str a1))],[],0⟩=ref01_at (m+1) a0 a1:=
 tre (g:=fun J=>(bif ((Dt.I a0 0) !=5) then
  some (-1)
   else
  (jj J 0 3 0 (s59_0 a1 a0) (e59 J m [1,1] [])))) (fun J=>by kernel_rfl) (by simp only[jj_eq,ref01_at_j0_eq m];rfl)
def w41_5:List Nat:=[1,1,1,1,1]
def w41_4:List Nat:=[1,1,1,1,1,1]
def w41_6:List Nat:=[1,1,1,1,0,1]
def w41_0:List Nat:=w41_6++[0]
def w41_3:List Nat:=w41_0++[0,1]
def w41_1:List Nat:=w41_3++[1]
def w41_2:List Nat:=w41_3++[0,0,1,1]
noncomputable def e41 (J:Nat→Nat→Nat→St→Option Dt→Option Dt) (m:Nat) (p ms:List Nat) (σ:St):=evAt Tryz.prog env (ct m) J (m+1) 99 50 Tryz.f99 d19 p ms σ
noncomputable def l41 (J:Nat→Nat→Nat→St→Option Dt→Option Dt) (m:Nat) (p ms:List Nat) (M:Nat) (σ:St):=loopAt Tryz.prog env (ct m) J (m+1) 99 50 Tryz.f99 d19 p ms M σ
noncomputable def s41_5 (x0:ByteArray) (x1 x2:Int) (x3 x4 x5:Dt) (x6:List Dt):St:=⟨tsOf [(1,(.dat 9 (.str x0))),(3,(.ptr 0 [] 0)),(5,(.ptr 1 [] 0)),(6,(.ptr 2 [] 0)),(7,(.dat 3 (.int x1))),(8,(.row 3)),(9,(.dat 3 (.int x2)))],[(.box 33 (.dat 33 x3)),(.box 33 (.dat 33 x4)),(.box 33 (.dat 33 x5)),(.row 31 x6)],0⟩
noncomputable def s41_4 (x0:ByteArray) (x1 x2:Int) (x3 x4 x5:Dt) (x6:List Dt) (x7:Dt):St:=⟨tsOf [(1,(.dat 9 (.str x0))),(3,(.ptr 0 [] 0)),(5,(.ptr 1 [] 0)),(6,(.ptr 2 [] 0)),(7,(.dat 3 (.int x1))),(8,(.row 3)),(9,(.dat 3 (.int x2))),(10,(.ptr 4 [] 0))],[(.box 33 (.dat 33 x3)),(.box 33 (.dat 33 x4)),(.box 33 (.dat 33 x5)),(.row 31 x6),(.box 57 (.dat 57 x7))],0⟩
noncomputable def s41_7 (x0 x1:Dt) (x2:List Dt):St:=⟨tsOf [(3,(.ptr 0 [] 0)),(6,(.ptr 1 [] 0)),(8,(.row 2))],[(.box 33 (.dat 33 x0)),(.box 33 (.dat 33 x1)),(.row 31 x2)],0⟩
noncomputable def s41_6 (x0:ByteArray) (x1:Int) (x2 x3 x4:Dt) (x5:List Dt):St:=⟨tsOf [(1,(.dat 9 (.str x0))),(3,(.ptr 0 [] 0)),(5,(.ptr 1 [] 0)),(6,(.ptr 2 [] 0)),(7,(.dat 3 (.int x1))),(8,(.row 3))],[(.box 33 (.dat 33 x2)),(.box 33 (.dat 33 x3)),(.box 33 (.dat 33 x4)),(.row 31 x5)],0⟩
noncomputable def s41_0 (x0:ByteArray) (x1 x2 x3:Dt):St:=⟨tsOf [(1,(.dat 9 (.str x0))),(3,(.ptr 0 [] 0)),(5,(.ptr 1 [] 0)),(6,(.ptr 2 [] 0))],[(.box 33 (.dat 33 x1)),(.box 33 (.dat 33 x2)),(.box 33 (.dat 33 x3))],0⟩
abbrev H41_2 (m M2:Nat) (rec2:ByteArray→Int→Int→Dt→Dt→Dt→List Dt→Option Dt):Prop:=∀x0 x1 x2 x3 x4 x5 x6,l41 jn m w41_0 [] M2 (s41_5 x0 x1 x2 x3 x4 x5 x6)=rec2 x0 x1 x2 x3 x4 x5 x6
theorem ref01_Set_j5_eq m M2 rec2 (h2:H41_2 m M2 rec2) x0 x1 x2 x3 x4 x5 x6:e41 jn m w41_1 [M2] (s41_5 x0 x1 x2 x3 x4 x5 x6)=ref01_Set_j5 m rec2 x0 x1 x2 x3 x4 x5 x6:=
 tre (g:=fun J=>(jj J 1 6 M2 (s41_5 x0 x1 (IntKind.wrap .i64 (x2+1)) x3 x4 x5 x6) (l41 J m w41_0 [] M2))) (fun J=>by kernel_rfl) (by simp only[jj_eq,h2];rfl)
theorem ref01_Set_j4_eq m M2 rec2 (h2:H41_2 m M2 rec2) x0 x1 x2 x3 x4 x5 x6 x7:e41 jn m w41_2 [M2] (s41_4 x0 x1 x2 x3 x4 x5 x6 x7)=ref01_Set_j4 m rec2 x0 x1 x2 x3 x4 x5 x6 x7:=
 tre (g:=fun J=>((app x6 [x7]).bind fun v2=>
  (jj J 0 7 0 (s41_5 x0 x1 x2 x3 x4 x5 v2) (e41 J m w41_1 [M2])))) (fun J=>by kernel_rfl) (by simp only[jj_eq,ref01_Set_j5_eq m M2 rec2 h2];rfl)
theorem ref01_Set_j3_eq m M2 rec2 (h2:H41_2 m M2 rec2) x0 x1 x2 x3 x4 x5 x6:e41 jn m w41_3 [M2] (s41_5 x0 x1 x2 x3 x4 x5 x6)=ref01_Set_j3 m rec2 x0 x1 x2 x3 x4 x5 x6:=
 tre (g:=fun J=>((idx (Dt.L x3 4) x2).bind fun v1=>
  (bif (x2==x1) then
  (jj J 0 11 0 (s41_4 x0 x1 x2 x3 x4 x5 x6 (Dt.agg [(Dt.str (Dt.S v1 0)),x4])) (e41 J m w41_2 [M2]))
  else
  (jj J 0 11 0 (s41_4 x0 x1 x2 x3 x4 x5 x6 v1) (e41 J m w41_2 [M2]))))) (fun J=>by kernel_rfl) (by simp only[jj_eq,ref01_Set_j4_eq m M2 rec2 h2];rfl)
theorem ref01_Set_j7_eq m x0 x1 x2:e41 jn m w41_4 [] (s41_7 x0 x1 x2)=ref01_Set_j7 m x0 x1 x2:=
 tre (g:=fun J=>some (Dt.agg [(Dt.int (Dt.I x0 0)),(Dt.int (Dt.I x0 1)),(Dt.str (Dt.S x0 2)),(Dt.lst (Dt.L x0 3)),(Dt.lst x2)])) (fun J=>by kernel_rfl) (by rfl)
theorem ref01_Set_j6_eq m x0 x1 x2 x3 x4 x5:e41 jn m w41_5 [] (s41_6 x0 x1 x2 x3 x4 x5)=ref01_Set_j6 m x0 x1 x2 x3 x4 x5:=
 tre (g:=fun J=>(bif (decide (x1<0)) then
  ((app x5 [(Dt.agg [(Dt.str x0),x3])]).bind fun v3=>
  (jj J 0 14 0 (s41_7 x2 x4 v3) (e41 J m w41_4 [])))
   else
  (jj J 0 14 0 (s41_7 x2 x4 x5) (e41 J m w41_4 [])))) (fun J=>by kernel_rfl) (by simp only[jj_eq,ref01_Set_j7_eq m];rfl)
theorem ref01_Set_l2_eq m:∀M2 x0 x1 x2 x3 x4 x5 x6,l41 jn m w41_0 [] M2 (s41_5 x0 x1 x2 x3 x4 x5 x6)=ref01_Set_l2 m M2 x0 x1 x2 x3 x4 x5 x6
 |0,_,_,_,_,_,_,_=>rfl
 | M2+1,x0,x1,x2,x3,x4,x5,x6=>
   trl (g:=fun J=>(bif (decide (x2<(List.length (Dt.L x3 4):Int))) then
  (jj J 0 8 0 (s41_5 x0 x1 x2 x3 x4 x5 x6) (e41 J m w41_3 [M2]))
   else
  (jj J 0 12 0 (s41_6 x0 x1 x3 x4 x5 x6) (e41 J m w41_5 [])))) (fun J=>by kernel_rfl) (by simp only[jj_eq,ref01_Set_j3_eq m M2 (ref01_Set_l2 m M2) (ref01_Set_l2_eq m M2),ref01_Set_j6_eq m];rfl)
theorem ref01_Set_j1_eq m x0 x1 x2 x3 x4 x5 x6:e41 jn m w41_6 [] (s41_5 x0 x1 x2 x3 x4 x5 x6)=ref01_Set_j1 m x0 x1 x2 x3 x4 x5 x6:=
 tre (g:=fun J=>(jj J 1 6 (Nat.succ m) (s41_5 x0 x1 x2 x3 x4 x5 x6) (l41 J m w41_0 [] (Nat.succ m)))) (fun J=>by kernel_rfl) (by simp only[jj_eq,ref01_Set_l2_eq m];rfl)
theorem ref01_Set_j0_eq m x0 x1 x2 x3:e41 jn m [1,1] [] (s41_0 x0 x1 x2 x3)=ref01_Set_j0 m x0 x1 x2 x3:=
 tre (g:=fun J=>((ref01_at m x1 x0).bind fun r0=>
  (jj J 0 6 0 (s41_5 x0 r0 0 x1 x2 x3 []) (e41 J m w41_6 [])))) (fun J=>by kernel_rfl) (by simp only[jj_eq,ref01_Set_j1_eq m];rfl)
theorem ref01_Set_eq m a0 a1 a2:e41 jn m [] [] ⟨[(.dat 33 a0),(.dat 9 (.str a1)),(.dat 33 a2)],[],0⟩=ref01_Set (m+1) a0 a1 a2:=
 tre (g:=fun J=>(bif ((Dt.I a0 0) !=5) then
  some a0
   else
  (jj J 0 3 0 (s41_0 a1 a0 a2 kza2373) (e41 J m [1,1] [])))) (fun J=>by kernel_rfl) (by simp only[jj_eq,ref01_Set_j0_eq m];rfl)
noncomputable def e25 (J:Nat→Nat→Nat→St→Option Dt→Option Dt) (m:Nat) (p ms:List Nat) (σ:St):=evAt Tryz.prog env (ct m) J (m+1) 50 14 Tryz.f50 d19 p ms σ
noncomputable def l25 (J:Nat→Nat→Nat→St→Option Dt→Option Dt) (m:Nat) (p ms:List Nat) (M:Nat) (σ:St):=loopAt Tryz.prog env (ct m) J (m+1) 50 14 Tryz.f50 d19 p ms M σ
noncomputable def s25_0 (x0:ByteArray) (x1 x2 x3:Dt):St:=⟨tsOf [(1,(.dat 9 (.str x0))),(3,(.ptr 0 [] 0)),(5,(.ptr 1 [] 0)),(6,(.ptr 2 [] 0))],[(.box 33 (.dat 33 x1)),(.box 33 (.dat 33 x2)),(.box 33 (.dat 33 x3))],0⟩
theorem ref36_with_j0_eq m x0 x1 x2 x3:e25 jn m [1,1] [] (s25_0 x0 x1 x2 x3)=ref36_with_j0 m x0 x1 x2 x3:=
 tre (g:=fun J=>((ref01_Set m x1 x0 x2).bind fun r0=>
  some r0)) (fun J=>by kernel_rfl) (by rfl)
theorem ref36_with_eq m a0 a1 a2:e25 jn m [] [] ⟨[(.dat 33 a0),(.dat 9 (.str a1)),(.dat 33 a2)],[],0⟩=ref36_with (m+1) a0 a1 a2:=
 tre (g:=fun J=>(bif ((ByteArray.toList a1)==[]) then
  some a0
   else
  (jj J 0 3 0 (s25_0 a1 a0 a2 kza2373) (e25 J m [1,1] [])))) (fun J=>by kernel_rfl) (by simp only[jj_eq,ref36_with_j0_eq m];rfl)
noncomputable def e56 (J:Nat→Nat→Nat→St→Option (Dt×Bool)→Option (Dt×Bool)) (m:Nat) (p ms:List Nat) (σ:St):=evAt Tryz.prog env (ct m) J (m+1) 31 19 Tryz.f31 d49 p ms σ
noncomputable def l56 (J:Nat→Nat→Nat→St→Option (Dt×Bool)→Option (Dt×Bool)) (m:Nat) (p ms:List Nat) (M:Nat) (σ:St):=loopAt Tryz.prog env (ct m) J (m+1) 31 19 Tryz.f31 d49 p ms M σ
noncomputable def s56_0 (x0:Int) (x1 x2:Dt):St:=⟨tsOf [(2,(.ptr 0 [] 0)),(4,(.ptr 1 [] 0)),(6,(.dat 3 (.int x0)))],[(.box 33 (.dat 33 x1)),(.box 33 (.dat 33 x2))],0⟩
theorem ref01_Get_j0_eq m x0 x1 x2:e56 jn m [1,1,1] [] (s56_0 x0 x1 x2)=ref01_Get_j0 m x0 x1 x2:=
 tre (g:=fun J=>((idx (Dt.L x1 4) x0).bind fun v1=>
  some ((Dt.fld v1 1),true))) (fun J=>by kernel_rfl) (by rfl)
theorem ref01_Get_eq m a0 a1:e56 jn m [] [] ⟨[(.dat 33 a0),(.dat 9 (.str a1))],[],0⟩=ref01_Get (m+1) a0 a1:=
 tre (g:=fun J=>((ref01_at m a0 a1).bind fun r0=>
  (bif (decide (r0<0)) then
  some (kza2373,false)
  else
  (jj J 0 4 0 (s56_0 r0 a0 kza2373) (e56 J m [1,1,1] []))))) (fun J=>by kernel_rfl) (by simp only[jj_eq,ref01_Get_j0_eq m];rfl)
def w38_2:List Nat:=[1,1,1,0,1]
def w38_0:List Nat:=[1,1,1,1,1,1]
def w38_1:List Nat:=[1,1,1,1,1,0,1]
noncomputable def e38 (J:Nat→Nat→Nat→St→Option (Dt×Int)→Option (Dt×Int)) (m:Nat) (p ms:List Nat) (σ:St):=evAt Tryz.prog env (ct m) J (m+1) 127 63 Tryz.f127 d31 p ms σ
noncomputable def l38 (J:Nat→Nat→Nat→St→Option (Dt×Int)→Option (Dt×Int)) (m:Nat) (p ms:List Nat) (M:Nat) (σ:St):=loopAt Tryz.prog env (ct m) J (m+1) 127 63 Tryz.f127 d31 p ms M σ
noncomputable def s38_5 (x0 x1:Dt):St:=⟨tsOf [(2,(.ptr 0 [] 0)),(6,(.ptr 1 [] 0))],[(.box 90 (.dat 90 x0)),(.box 90 (.dat 90 x1))],0⟩
noncomputable def s38_4 (x0:Bool) (x1 x2:Dt):St:=⟨tsOf [(2,(.ptr 0 [] 0)),(6,(.ptr 1 [] 0)),(60,(.dat 4 (.bool x0)))],[(.box 90 (.dat 90 x1)),(.box 90 (.dat 90 x2))],0⟩
noncomputable def s38_3 (x0 x1 x2:Dt):St:=⟨tsOf [(2,(.ptr 0 [] 0)),(4,(.ptr 1 [] 0)),(5,(.ptr 2 [] 0))],[(.box 90 (.dat 90 x0)),(.box 33 (.dat 33 x1)),(.box 33 (.dat 33 x2))],0⟩
noncomputable def s38_2 (x0:Bool) (x1 x2 x3 x4:Dt):St:=⟨tsOf [(1,(.ptr 0 [] 0)),(2,(.ptr 1 [] 0)),(4,(.ptr 2 [] 0)),(5,(.ptr 3 [] 0)),(32,(.dat 4 (.bool x0)))],[(.box 33 (.dat 33 x1)),(.box 90 (.dat 90 x2)),(.box 33 (.dat 33 x3)),(.box 33 (.dat 33 x4))],0⟩
noncomputable def s38_1 (x0 x1 x2 x3:Dt):St:=⟨tsOf [(1,(.ptr 0 [] 0)),(2,(.ptr 1 [] 0)),(4,(.ptr 2 [] 0)),(5,(.ptr 3 [] 0))],[(.box 33 (.dat 33 x0)),(.box 90 (.dat 90 x1)),(.box 33 (.dat 33 x2)),(.box 33 (.dat 33 x3))],0⟩
noncomputable def s38_0 (x0:Bool) (x1 x2 x3 x4:Dt):St:=⟨tsOf [(1,(.ptr 0 [] 0)),(2,(.ptr 1 [] 0)),(4,(.ptr 2 [] 0)),(5,(.ptr 3 [] 0)),(15,(.dat 4 (.bool x0)))],[(.box 33 (.dat 33 x1)),(.box 90 (.dat 90 x2)),(.box 33 (.dat 33 x3)),(.box 33 (.dat 33 x4))],0⟩
theorem ref10_Point_j5_eq m x0 x1:e38 jn m w38_0 [] (s38_5 x0 x1)=ref10_Point_j5 m x0 x1:=
 tre (g:=fun J=>some (x1,0)) (fun J=>by kernel_rfl) (by rfl)
theorem ref10_Point_j4_eq m x0 x1 x2:e38 jn m w38_1 [] (s38_4 x0 x1 x2)=ref10_Point_j4 m x0 x1 x2:=
 tre (g:=fun J=>(bif x0 then
  some ((Dt.agg [(Dt.int 0),(Dt.int 0)]),18)
   else
  (jj J 0 10 0 (s38_5 x1 x2) (e38 J m w38_0 [])))) (fun J=>by kernel_rfl) (by simp only[jj_eq,ref10_Point_j5_eq m];rfl)
theorem ref10_Point_j3_eq m x0 x1 x2:e38 jn m [1,1,1,1] [] (s38_3 x0 x1 x2)=ref10_Point_j3 m x0 x1 x2:=
 tre (g:=fun J=>(bif ((Dt.I x1 0) !=3) then
  (jj J 0 9 0 (s38_4 true x0 (Dt.agg [(Dt.int (Dt.I x1 1)),(Dt.int (Dt.I x2 1))])) (e38 J m w38_1 []))
   else
  (bif ((Dt.I x2 0) !=3) then
  (jj J 0 9 0 (s38_4 true x0 (Dt.agg [(Dt.int (Dt.I x1 1)),(Dt.int (Dt.I x2 1))])) (e38 J m w38_1 []))
  else
  ((ref10_Is m (Dt.agg [(Dt.int (Dt.I x1 1)),(Dt.int (Dt.I x2 1))])).bind fun r4=>
  (jj J 0 9 0 (s38_4 (Bool.not r4) x0 (Dt.agg [(Dt.int (Dt.I x1 1)),(Dt.int (Dt.I x2 1))])) (e38 J m w38_1 [])))))) (fun J=>by kernel_rfl) (by simp only[jj_eq,ref10_Point_j4_eq m];rfl)
theorem ref10_Point_j2_eq m x0 x1 x2 x3 x4:e38 jn m w38_2 [] (s38_2 x0 x1 x2 x3 x4)=ref10_Point_j2 m x0 x1 x2 x3 x4:=
 tre (g:=fun J=>(bif x0 then
  ((ref01_Get m x1 (ByteArray.mk (List.toArray [120]))).bind fun r2=>
  ((ref01_Get m x1 (ByteArray.mk (List.toArray [121]))).bind fun r3=>
  (jj J 0 7 0 (s38_3 x2 r2.1 r3.1) (e38 J m [1,1,1,1] []))))
   else
  (jj J 0 7 0 (s38_3 x2 x3 x4) (e38 J m [1,1,1,1] [])))) (fun J=>by kernel_rfl) (by simp only[jj_eq,ref10_Point_j3_eq m];rfl)
theorem ref10_Point_j1_eq m x0 x1 x2 x3:e38 jn m [1,1,1] [] (s38_1 x0 x1 x2 x3)=ref10_Point_j1 m x0 x1 x2 x3:=
 tre (g:=fun J=>(bif ((Dt.I x0 0)==5) then
  (jj J 0 5 0 (s38_2 ((List.length (Dt.L x0 4):Int)==2) x0 x1 x2 x3) (e38 J m w38_2 []))
   else
  (jj J 0 5 0 (s38_2 false x0 x1 x2 x3) (e38 J m w38_2 [])))) (fun J=>by kernel_rfl) (by simp only[jj_eq,ref10_Point_j2_eq m];rfl)
theorem ref10_Point_j0_eq m x0 x1 x2 x3 x4:e38 jn m [1,1,0,1] [] (s38_0 x0 x1 x2 x3 x4)=ref10_Point_j0 m x0 x1 x2 x3 x4:=
 tre (g:=fun J=>(bif x0 then
  ((idx (Dt.L x1 3) 0).bind fun v0=>
  ((idx (Dt.L x1 3) 1).bind fun v1=>
  (jj J 0 4 0 (s38_1 x1 x2 v0 v1) (e38 J m [1,1,1] []))))
   else
  (jj J 0 4 0 (s38_1 x1 x2 x3 x4) (e38 J m [1,1,1] [])))) (fun J=>by kernel_rfl) (by simp only[jj_eq,ref10_Point_j1_eq m];rfl)
theorem ref10_Point_eq m a0:e38 jn m [] [] ⟨[(.dat 33 a0)],[],0⟩=ref10_Point (m+1) a0:=
 tre (g:=fun J=>(bif ((Dt.I a0 0)==6) then
  (jj J 0 3 0 (s38_0 ((List.length (Dt.L a0 3):Int)==2) a0 (Dt.agg [(Dt.int 0),(Dt.int 0)]) kza2373 kza2373) (e38 J m [1,1,0,1] []))
   else
  (jj J 0 3 0 (s38_0 false a0 (Dt.agg [(Dt.int 0),(Dt.int 0)]) kza2373 kza2373) (e38 J m [1,1,0,1] [])))) (fun J=>by kernel_rfl) (by simp only[jj_eq,ref10_Point_j0_eq m];rfl)
def w65_1:List Nat:=[1,0,1,0,0,1,1]
def w65_0:List Nat:=w65_1++[1]
noncomputable def e65 (J:Nat→Nat→Nat→St→Option Int→Option Int) (m:Nat) (p ms:List Nat) (σ:St):=evAt Tryz.prog env (ct m) J (m+1) 138 20 Tryz.f138 d15 p ms σ
noncomputable def l65 (J:Nat→Nat→Nat→St→Option Int→Option Int) (m:Nat) (p ms:List Nat) (M:Nat) (σ:St):=loopAt Tryz.prog env (ct m) J (m+1) 138 20 Tryz.f138 d15 p ms M σ
noncomputable def s65_3 (x0:List Dt) (x1:ByteArray) (x2 x3:Int):St:=⟨tsOf [(0,(.dat 31 (.lst x0))),(1,(.dat 9 (.str x1))),(7,(.dat 3 (.int x2))),(8,(.dat 3 (.int x3)))],[],0⟩
noncomputable def s65_4:St:=⟨tsOf [],[],0⟩
abbrev H65_1 (m M1:Nat) (rec1:List Dt→ByteArray→Int→Int→Option Int):Prop:=∀x0 x1 x2 x3,l65 jn m [1,0,1,0] [] M1 (s65_3 x0 x1 x2 x3)=rec1 x0 x1 x2 x3
theorem path_field_j3_eq m M1 rec1 (h1:H65_1 m M1 rec1) x0 x1 x2 x3:e65 jn m w65_0 [M1] (s65_3 x0 x1 x2 x3)=path_field_j3 m rec1 x0 x1 x2 x3:=
 tre (g:=fun J=>(jj J 1 2 M1 (s65_3 x0 x1 x2 (IntKind.wrap .i64 (x3+1))) (l65 J m [1,0,1,0] [] M1))) (fun J=>by kernel_rfl) (by simp only[jj_eq,h1];rfl)
theorem path_field_j2_eq m M1 rec1 (h1:H65_1 m M1 rec1) x0 x1 x2 x3:e65 jn m w65_1 [M1] (s65_3 x0 x1 x2 x3)=path_field_j2 m rec1 x0 x1 x2 x3:=
 tre (g:=fun J=>((idx x0 x3).bind fun v0=>
  (bif ((ByteArray.toList (Dt.S v0 0))==(ByteArray.toList x1)) then
  some x3
  else
  (jj J 0 6 0 (s65_3 x0 x1 x2 x3) (e65 J m w65_0 [M1]))))) (fun J=>by kernel_rfl) (by simp only[jj_eq,path_field_j3_eq m M1 rec1 h1];rfl)
theorem path_field_j4_eq m:e65 jn m [1,1] [] s65_4=path_field_j4 m:=
 tre (g:=fun J=>some (-1)) (fun J=>by kernel_rfl) (by rfl)
theorem path_field_l1_eq m:∀M1 x0 x1 x2 x3,l65 jn m [1,0,1,0] [] M1 (s65_3 x0 x1 x2 x3)=path_field_l1 m M1 x0 x1 x2 x3
 |0,_,_,_,_=>rfl
 | M1+1,x0,x1,x2,x3=>
   trl (g:=fun J=>(bif (decide (x3<x2)) then
  (jj J 0 3 0 (s65_3 x0 x1 x2 x3) (e65 J m w65_1 [M1]))
   else
  (jj J 0 7 0 s65_4 (e65 J m [1,1] [])))) (fun J=>by kernel_rfl) (by simp only[jj_eq,path_field_j2_eq m M1 (path_field_l1 m M1) (path_field_l1_eq m M1),path_field_j4_eq m];rfl)
theorem path_field_j0_eq m x0 x1 x2 x3:e65 jn m [1,0,1] [] (s65_3 x0 x1 x2 x3)=path_field_j0 m x0 x1 x2 x3:=
 tre (g:=fun J=>(jj J 1 2 (Nat.succ m) (s65_3 x0 x1 x2 x3) (l65 J m [1,0,1,0] [] (Nat.succ m)))) (fun J=>by kernel_rfl) (by simp only[jj_eq,path_field_l1_eq m];rfl)
theorem path_field_eq m a0 a1:e65 jn m [] [] ⟨[(.dat 31 (.lst a0)),(.dat 9 (.str a1))],[],0⟩=path_field (m+1) a0 a1:=
 tre (g:=fun J=>(jj J 0 2 0 (s65_3 a0 a1 (List.length a0:Int) 0) (e65 J m [1,0,1] []))) (fun J=>by kernel_rfl) (by simp only[jj_eq,path_field_j0_eq m];rfl)
def w66_5:List Nat:=[1,1,1,0,1]
def w66_0:List Nat:=[1,1,1,0,1,0]
def w66_4:List Nat:=w66_0++[0,1,1]
def w66_1:List Nat:=w66_4++[1]
def w66_2:List Nat:=w66_4++[0,0,1,1]
def w66_3:List Nat:=w66_4++[0,0,1,0,1]
noncomputable def e66 (J:Nat→Nat→Nat→St→Option (Int×Bool)→Option (Int×Bool)) (m:Nat) (p ms:List Nat) (σ:St):=evAt Tryz.prog env (ct m) J (m+1) 139 49 Tryz.f139 d66 p ms σ
noncomputable def l66 (J:Nat→Nat→Nat→St→Option (Int×Bool)→Option (Int×Bool)) (m:Nat) (p ms:List Nat) (M:Nat) (σ:St):=loopAt Tryz.prog env (ct m) J (m+1) 139 49 Tryz.f139 d66 p ms M σ
noncomputable def s66_7 (x0:ByteArray) (x1 x2 x3:Int):St:=⟨tsOf [(0,(.dat 9 (.str x0))),(4,(.dat 3 (.int x1))),(25,(.dat 3 (.int x2))),(26,(.dat 3 (.int x3)))],[],0⟩
noncomputable def s66_6 (x0:ByteArray) (x1 x2 x3 x4:Int):St:=⟨tsOf [(0,(.dat 9 (.str x0))),(4,(.dat 3 (.int x1))),(5,(.dat 3 (.int x2))),(25,(.dat 3 (.int x3))),(26,(.dat 3 (.int x4)))],[],0⟩
noncomputable def s66_5 (x0:ByteArray) (x1 x2 x3 x4:Int) (x5:Bool):St:=⟨tsOf [(0,(.dat 9 (.str x0))),(4,(.dat 3 (.int x1))),(5,(.dat 3 (.int x2))),(25,(.dat 3 (.int x3))),(26,(.dat 3 (.int x4))),(38,(.dat 4 (.bool x5)))],[],0⟩
noncomputable def s66_8 (x0:Int):St:=⟨tsOf [(4,(.dat 3 (.int x0)))],[],0⟩
noncomputable def s66_1 (x0:ByteArray):St:=⟨tsOf [(0,(.dat 9 (.str x0)))],[],0⟩
noncomputable def s66_0 (x0:ByteArray) (x1:Bool):St:=⟨tsOf [(0,(.dat 9 (.str x0))),(23,(.dat 4 (.bool x1)))],[],0⟩
abbrev H66_3 (m M3:Nat) (rec3:ByteArray→Int→Int→Int→Option (Int×Bool)):Prop:=∀x0 x1 x2 x3,l66 jn m w66_0 [] M3 (s66_7 x0 x1 x2 x3)=rec3 x0 x1 x2 x3
theorem path_Number_j7_eq m M3 rec3 (h3:H66_3 m M3 rec3) x0 x1 x2 x3:e66 jn m w66_1 [M3] (s66_7 x0 x1 x2 x3)=path_Number_j7 m rec3 x0 x1 x2 x3:=
 tre (g:=fun J=>(jj J 1 5 M3 (s66_7 x0 x1 x2 (IntKind.wrap .i64 (x3+1))) (l66 J m w66_0 [] M3))) (fun J=>by kernel_rfl) (by simp only[jj_eq,h3];rfl)
theorem path_Number_j6_eq m M3 rec3 (h3:H66_3 m M3 rec3) x0 x1 x2 x3 x4:e66 jn m w66_2 [M3] (s66_6 x0 x1 x2 x3 x4)=path_Number_j6 m rec3 x0 x1 x2 x3 x4:=
 tre (g:=fun J=>((idxS x0 x2).bind fun v1=>
  (jj J 0 10 0 (s66_7 x0 (IntKind.wrap .i64 ((IntKind.wrap .i64 (10*x1))+(IntKind.wrap .i64 (IntKind.wrap IntKind.u8 (v1-48))))) x3 x4) (e66 J m w66_1 [M3])))) (fun J=>by kernel_rfl) (by simp only[jj_eq,path_Number_j7_eq m M3 rec3 h3];rfl)
theorem path_Number_j5_eq m M3 rec3 (h3:H66_3 m M3 rec3) x0 x1 x2 x3 x4 x5:e66 jn m w66_3 [M3] (s66_5 x0 x1 x2 x3 x4 x5)=path_Number_j5 m rec3 x0 x1 x2 x3 x4 x5:=
 tre (g:=fun J=>(bif x5 then
  some (0,false)
   else
  (jj J 0 9 0 (s66_6 x0 x1 x2 x3 x4) (e66 J m w66_2 [M3])))) (fun J=>by kernel_rfl) (by simp only[jj_eq,path_Number_j6_eq m M3 rec3 h3];rfl)
theorem path_Number_j4_eq m M3 rec3 (h3:H66_3 m M3 rec3) x0 x1 x2 x3:e66 jn m w66_4 [M3] (s66_7 x0 x1 x2 x3)=path_Number_j4 m rec3 x0 x1 x2 x3:=
 tre (g:=fun J=>((idxS x0 x3).bind fun v0=>
  (bif (decide (v0<48)) then
  (jj J 0 8 0 (s66_5 x0 x1 x3 x2 x3 true) (e66 J m w66_3 [M3]))
  else
  ((idxS x0 x3).bind fun v2=>
  (jj J 0 8 0 (s66_5 x0 x1 x3 x2 x3 (decide (57<v2))) (e66 J m w66_3 [M3])))))) (fun J=>by kernel_rfl) (by simp only[jj_eq,path_Number_j5_eq m M3 rec3 h3];rfl)
theorem path_Number_j8_eq m x0:e66 jn m [1,1,1,1] [] (s66_8 x0)=path_Number_j8 m x0:=
 tre (g:=fun J=>some (x0,true)) (fun J=>by kernel_rfl) (by rfl)
theorem path_Number_l3_eq m:∀M3 x0 x1 x2 x3,l66 jn m w66_0 [] M3 (s66_7 x0 x1 x2 x3)=path_Number_l3 m M3 x0 x1 x2 x3
 |0,_,_,_,_=>rfl
 | M3+1,x0,x1,x2,x3=>
   trl (g:=fun J=>(bif (decide (x3<x2)) then
  (jj J 0 6 0 (s66_7 x0 x1 x2 x3) (e66 J m w66_4 [M3]))
   else
  (jj J 0 11 0 (s66_8 x1) (e66 J m [1,1,1,1] [])))) (fun J=>by kernel_rfl) (by simp only[jj_eq,path_Number_j4_eq m M3 (path_Number_l3 m M3) (path_Number_l3_eq m M3),path_Number_j8_eq m];rfl)
theorem path_Number_j2_eq m x0 x1 x2 x3:e66 jn m w66_5 [] (s66_7 x0 x1 x2 x3)=path_Number_j2 m x0 x1 x2 x3:=
 tre (g:=fun J=>(jj J 1 5 (Nat.succ m) (s66_7 x0 x1 x2 x3) (l66 J m w66_0 [] (Nat.succ m)))) (fun J=>by kernel_rfl) (by simp only[jj_eq,path_Number_l3_eq m];rfl)
theorem path_Number_j1_eq m x0:e66 jn m [1,1] [] (s66_1 x0)=path_Number_j1 m x0:=
 tre (g:=fun J=>(jj J 0 5 0 (s66_7 x0 0 (ByteArray.size x0:Int) 0) (e66 J m w66_5 []))) (fun J=>by kernel_rfl) (by simp only[jj_eq,path_Number_j2_eq m];rfl)
theorem path_Number_j0_eq m x0 x1:e66 jn m [1,0,1] [] (s66_0 x0 x1)=path_Number_j0 m x0 x1:=
 tre (g:=fun J=>(bif x1 then
  some (0,false)
   else
  (jj J 0 3 0 (s66_1 x0) (e66 J m [1,1] [])))) (fun J=>by kernel_rfl) (by simp only[jj_eq,path_Number_j1_eq m];rfl)
theorem path_Number_eq m a0:e66 jn m [] [] ⟨[(.dat 9 (.str a0))],[],0⟩=path_Number (m+1) a0:=
 tre (g:=fun J=>(bif (decide ((ByteArray.size a0:Int)<1)) then
  (jj J 0 2 0 (s66_0 a0 true) (e66 J m [1,0,1] []))
   else
  (bif (decide (4<(ByteArray.size a0:Int))) then
  (jj J 0 2 0 (s66_0 a0 true) (e66 J m [1,0,1] []))
  else
  ((idxS a0 0).bind fun v3=>
  (bif (v3==48) then
  (jj J 0 2 0 (s66_0 a0 (decide (1<(ByteArray.size a0:Int)))) (e66 J m [1,0,1] []))
  else
  (jj J 0 2 0 (s66_0 a0 false) (e66 J m [1,0,1] []))))))) (fun J=>by kernel_rfl) (by simp only[jj_eq,path_Number_j0_eq m];rfl)
def w64_4:List Nat:=[1,1,0,1,0,1,1,1,0,1]
def w64_5:List Nat:=[1,1,0,1,0,1,1,1,0,0,1]
def w64_0:List Nat:=w64_5++[0]
def w64_3:List Nat:=w64_4++[1,1]
def w64_2:List Nat:=w64_0++[0,1,1]
def w64_1:List Nat:=w64_2++[1]
noncomputable def e64 (J:Nat→Nat→Nat→St→Option (List Dt)→Option (List Dt)) (m:Nat) (p ms:List Nat) (σ:St):=evAt Tryz.prog env (ct m) J (m+1) 218 83 Tryz.f218 d64 p ms σ
noncomputable def l64 (J:Nat→Nat→Nat→St→Option (List Dt)→Option (List Dt)) (m:Nat) (p ms:List Nat) (M:Nat) (σ:St):=loopAt Tryz.prog env (ct m) J (m+1) 218 83 Tryz.f218 d64 p ms M σ
noncomputable def s64_1 (x0:List Dt):St:=⟨tsOf [(0,(.row 1))],[.gone,(.row 23 x0)],1⟩
noncomputable def s64_5 (x0 x1:List Dt) (x2 x3:Int) (x4:List Dt) (x5:Dt):St:=⟨tsOf [(0,(.row 1)),(2,(.dat 22 (.lst x0))),(4,(.ptr 2 [] 0)),(44,(.dat 23 (.lst x1))),(45,(.dat 3 (.int x2))),(46,(.dat 3 (.int x3)))],[.gone,(.row 23 x4),(.box 33 (.dat 33 x5))],1⟩
noncomputable def s64_7 (x0:List Dt) (x1:Int) (x2:Bool) (x3:List Dt) (x4:Dt):St:=⟨tsOf [(0,(.row 1)),(2,(.dat 22 (.lst x0))),(4,(.ptr 2 [] 0)),(10,(.dat 3 (.int x1))),(72,(.dat 4 (.bool x2)))],[.gone,(.row 23 x3),(.box 33 (.dat 33 x4))],1⟩
noncomputable def s64_6 (x0 x1:List Dt) (x2:Dt):St:=⟨tsOf [(0,(.row 1)),(2,(.dat 22 (.lst x0))),(4,(.ptr 2 [] 0))],[.gone,(.row 23 x1),(.box 33 (.dat 33 x2))],1⟩
theorem i64_j1_eq m x0:e64 jn m [1,1,1] [] (s64_1 x0)=i64_j1 m (i64 m) x0:=
 tre (g:=fun J=>some x0) (fun J=>by kernel_rfl) (by rfl)
abbrev H64_3 (m M3:Nat) (rec3:List Dt→List Dt→Int→Int→List Dt→Dt→Option (List Dt)):Prop:=∀x0 x1 x2 x3 x4 x5,l64 jn m w64_0 [] M3 (s64_5 x0 x1 x2 x3 x4 x5)=rec3 x0 x1 x2 x3 x4 x5
theorem i64_j5_eq m M3 rec3 (h3:H64_3 m M3 rec3) x0 x1 x2 x3 x4 x5:e64 jn m w64_1 [M3] (s64_5 x0 x1 x2 x3 x4 x5)=i64_j5 m (i64 m) rec3 x0 x1 x2 x3 x4 x5:=
 tre (g:=fun J=>(jj J 1 10 M3 (s64_5 x0 x1 x2 (IntKind.wrap .i64 (x3+1)) x4 x5) (l64 J m w64_0 [] M3))) (fun J=>by kernel_rfl) (by simp only[jj_eq,h3];rfl)
theorem i64_j4_eq m M3 rec3 (h3:H64_3 m M3 rec3) x0 x1 x2 x3 x4 x5:e64 jn m w64_2 [M3] (s64_5 x0 x1 x2 x3 x4 x5)=i64_j4 m (i64 m) rec3 x0 x1 x2 x3 x4 x5:=
 tre (g:=fun J=>((idx x1 x3).bind fun v6=>
  (bif ((Dt.I v6 0)==5) then
  ((i64 m v6 x0 x4).bind fun r7=>
  (jj J 0 14 0 (s64_5 x0 x1 x2 x3 r7 x5) (e64 J m w64_1 [M3])))
  else
  (jj J 0 14 0 (s64_5 x0 x1 x2 x3 x4 x5) (e64 J m w64_1 [M3]))))) (fun J=>by kernel_rfl) (by simp only[jj_eq,i64_j5_eq m M3 rec3 h3];rfl)
theorem i64_j7_eq m x0 x1 x2 x3 x4:e64 jn m w64_3 [] (s64_7 x0 x1 x2 x3 x4)=i64_j7 m (i64 m) x0 x1 x2 x3 x4:=
 tre (g:=fun J=>(bif x2 then
  ((idx (Dt.L x4 3) x1).bind fun v10=>
  ((cutL x0 1 (List.length x0:Int)).bind fun v11=>
  ((i64 m v10 v11 x3).bind fun r12=>
  (jj J 0 18 0 (s64_1 r12) (e64 J m [1,1,1] [])))))
   else
  (jj J 0 18 0 (s64_1 x3) (e64 J m [1,1,1] [])))) (fun J=>by kernel_rfl) (by simp only[jj_eq,i64_j1_eq m];rfl)
theorem i64_j6_eq m x0 x1 x2:e64 jn m w64_4 [] (s64_6 x0 x1 x2)=i64_j6 m (i64 m) x0 x1 x2:=
 tre (g:=fun J=>((idx x0 0).bind fun v8=>
  ((path_Number m (Dt.toStr v8)).bind fun r9=>
  (bif r9.2 then
  (jj J 0 17 0 (s64_7 x0 r9.1 (decide (r9.1<(List.length (Dt.L x2 3):Int))) x1 x2) (e64 J m w64_3 []))
  else
  (jj J 0 17 0 (s64_7 x0 r9.1 false x1 x2) (e64 J m w64_3 [])))))) (fun J=>by kernel_rfl) (by simp only[jj_eq,i64_j7_eq m];rfl)
theorem i64_l3_eq m:∀M3 x0 x1 x2 x3 x4 x5,l64 jn m w64_0 [] M3 (s64_5 x0 x1 x2 x3 x4 x5)=i64_l3 m (i64 m) M3 x0 x1 x2 x3 x4 x5
 |0,_,_,_,_,_,_=>rfl
 | M3+1,x0,x1,x2,x3,x4,x5=>
   trl (g:=fun J=>(bif (decide (x3<x2)) then
  (jj J 0 11 0 (s64_5 x0 x1 x2 x3 x4 x5) (e64 J m w64_2 [M3]))
   else
  (jj J 0 15 0 (s64_6 x0 x4 x5) (e64 J m w64_4 [])))) (fun J=>by kernel_rfl) (by simp only[jj_eq,i64_j4_eq m M3 (i64_l3 m (i64 m) M3) (i64_l3_eq m M3),i64_j6_eq m];rfl)
theorem i64_j2_eq m x0 x1 x2 x3 x4 x5:e64 jn m w64_5 [] (s64_5 x0 x1 x2 x3 x4 x5)=i64_j2 m (i64 m) x0 x1 x2 x3 x4 x5:=
 tre (g:=fun J=>(jj J 1 10 (Nat.succ m) (s64_5 x0 x1 x2 x3 x4 x5) (l64 J m w64_0 [] (Nat.succ m)))) (fun J=>by kernel_rfl) (by simp only[jj_eq,i64_l3_eq m];rfl)
theorem i64_j0_eq m x0 x1 x2:e64 jn m [1,1] [] (s64_6 x0 x1 x2)=i64_j0 m (i64 m) x0 x1 x2:=
 tre (g:=fun J=>(bif ((Dt.I x2 0)==5) then
  ((idx x0 0).bind fun v1=>
  ((path_field m (Dt.L x2 4) (Dt.toStr v1)).bind fun r2=>
  (bif (decide (0≤r2)) then
  ((idx (Dt.L x2 4) r2).bind fun v3=>
  ((cutL x0 1 (List.length x0:Int)).bind fun v4=>
  ((i64 m (Dt.fld v3 1) v4 x1).bind fun r5=>
  (jj J 0 18 0 (s64_1 r5) (e64 J m [1,1,1] [])))))
  else
  (jj J 0 18 0 (s64_1 x1) (e64 J m [1,1,1] [])))))
   else
  (bif ((Dt.I x2 0)==6) then
  (jj J 0 10 0 (s64_5 x0 (Dt.L x2 3) (List.length (Dt.L x2 3):Int) 0 x1 x2) (e64 J m w64_5 []))
  else
  (jj J 0 18 0 (s64_1 x1) (e64 J m [1,1,1] []))))) (fun J=>by kernel_rfl) (by simp only[jj_eq,i64_j1_eq m,i64_j2_eq m];rfl)
theorem i64_eq m a0 a1 a2:e64 jn m [] [] ⟨[(.row 0),(.dat 33 a0),(.dat 22 (.lst a1))],[(.row 23 a2)],1⟩=i64 (m+1) a0 a1 a2:=
 tre (g:=fun J=>(bif ((List.length a1:Int)==0) then
  ((app a2 [a0]).bind fun v0=>
  some v0)
   else
  (jj J 0 3 0 (s64_6 a1 a2 a0) (e64 J m [1,1] [])))) (fun J=>by kernel_rfl) (by simp only[jj_eq,i64_j0_eq m];rfl)
def w47_3:List Nat:=[1,1,1,0,1]
def w47_0:List Nat:=[1,1,1,0,1,0]
def w47_2:List Nat:=w47_0++[0,1,1]
def w47_1:List Nat:=w47_2++[1]
noncomputable def e47 (J:Nat→Nat→Nat→St→Option (List Dt)→Option (List Dt)) (m:Nat) (p ms:List Nat) (σ:St):=evAt Tryz.prog env (ct m) J (m+1) 163 30 Tryz.f163 d47 p ms σ
noncomputable def l47 (J:Nat→Nat→Nat→St→Option (List Dt)→Option (List Dt)) (m:Nat) (p ms:List Nat) (M:Nat) (σ:St):=loopAt Tryz.prog env (ct m) J (m+1) 163 30 Tryz.f163 d47 p ms M σ
noncomputable def s47_4 (x0 x1:Int) (x2:List Dt):St:=⟨tsOf [(5,(.row 0)),(16,(.row 0)),(17,(.dat 3 (.int x0))),(18,(.dat 3 (.int x1)))],[(.row 23 x2)],0⟩
noncomputable def s47_5 (x0:List Dt):St:=⟨tsOf [(5,(.row 0))],[(.row 23 x0)],0⟩
abbrev H47_2 (m M2:Nat) (rec2:Int→Int→List Dt→Option (List Dt)):Prop:=∀x0 x1 x2,l47 jn m w47_0 [] M2 (s47_4 x0 x1 x2)=rec2 x0 x1 x2
theorem path_Reach_j4_eq m M2 rec2 (h2:H47_2 m M2 rec2) x0 x1 x2:e47 jn m w47_1 [M2] (s47_4 x0 x1 x2)=path_Reach_j4 m rec2 x0 x1 x2:=
 tre (g:=fun J=>(jj J 1 5 M2 (s47_4 x0 (IntKind.wrap .i64 (x1+1)) x2) (l47 J m w47_0 [] M2))) (fun J=>by kernel_rfl) (by simp only[jj_eq,h2];rfl)
theorem path_Reach_j3_eq m M2 rec2 (h2:H47_2 m M2 rec2) x0 x1 x2:e47 jn m w47_2 [M2] (s47_4 x0 x1 x2)=path_Reach_j3 m rec2 x0 x1 x2:=
 tre (g:=fun J=>((inL x2 x1).bind fun v1=>
  ((x2[(Int.toNat x1)]?).bind fun v2=>
  ((path_clone m v2).bind fun r3=>
  ((inL x2 x1).bind fun v4=>
  ((x2[(Int.toNat x1)]?).bind fun v5=>
  (jj J 0 8 0 (s47_4 x0 x1 (List.set x2 (Int.toNat x1) (Dt.agg [(Dt.int r3.1),(Dt.int r3.2.1),(Dt.str r3.2.2.1),(Dt.lst r3.2.2.2.1),(Dt.lst r3.2.2.2.2)]))) (e47 J m w47_1 [M2])))))))) (fun J=>by kernel_rfl) (by simp only[jj_eq,path_Reach_j4_eq m M2 rec2 h2];rfl)
theorem path_Reach_j5_eq m x0:e47 jn m [1,1,1,1] [] (s47_5 x0)=path_Reach_j5 m x0:=
 tre (g:=fun J=>some x0) (fun J=>by kernel_rfl) (by rfl)
theorem path_Reach_l2_eq m:∀M2 x0 x1 x2,l47 jn m w47_0 [] M2 (s47_4 x0 x1 x2)=path_Reach_l2 m M2 x0 x1 x2
 |0,_,_,_=>rfl
 | M2+1,x0,x1,x2=>
   trl (g:=fun J=>(bif (decide (x1<x0)) then
  (jj J 0 6 0 (s47_4 x0 x1 x2) (e47 J m w47_2 [M2]))
   else
  (jj J 0 9 0 (s47_5 x2) (e47 J m [1,1,1,1] [])))) (fun J=>by kernel_rfl) (by simp only[jj_eq,path_Reach_j3_eq m M2 (path_Reach_l2 m M2) (path_Reach_l2_eq m M2),path_Reach_j5_eq m];rfl)
theorem path_Reach_j1_eq m x0 x1 x2:e47 jn m w47_3 [] (s47_4 x0 x1 x2)=path_Reach_j1 m x0 x1 x2:=
 tre (g:=fun J=>(jj J 1 5 (Nat.succ m) (s47_4 x0 x1 x2) (l47 J m w47_0 [] (Nat.succ m)))) (fun J=>by kernel_rfl) (by simp only[jj_eq,path_Reach_l2_eq m];rfl)
theorem path_Reach_j0_eq m x0:e47 jn m [1,1,1] [] (s47_5 x0)=path_Reach_j0 m x0:=
 tre (g:=fun J=>(jj J 0 5 0 (s47_4 (List.length x0:Int) 0 x0) (e47 J m w47_3 []))) (fun J=>by kernel_rfl) (by simp only[jj_eq,path_Reach_j1_eq m];rfl)
theorem path_Reach_eq m a0 a1:e47 jn m [] [] ⟨[(.dat 33 a0),(.dat 22 (.lst a1))],[],0⟩=path_Reach (m+1) a0 a1:=
 tre (g:=fun J=>((i64 m a0 a1 []).bind fun r0=>
  (bif ((List.length r0:Int)==0) then
  some [kza2373]
  else
  (jj J 0 4 0 (s47_5 r0) (e47 J m [1,1,1] []))))) (fun J=>by kernel_rfl) (by simp only[jj_eq,path_Reach_j0_eq m];rfl)
def w30_0:List Nat:=[1,1,0,1,0]
def w30_6:List Nat:=[1,1,0,1,0,0,1,1]
def w30_4:List Nat:=w30_6++[1]
def w30_5:List Nat:=w30_6++[0,0,1,1,1,0,1]
def w30_1:List Nat:=w30_5++[0]
def w30_3:List Nat:=w30_1++[0,1,1]
def w30_2:List Nat:=w30_3++[1]
noncomputable def e30 (J:Nat→Nat→Nat→St→Option (List Dt)→Option (List Dt)) (m:Nat) (p ms:List Nat) (σ:St):=evAt Tryz.prog env (ct m) J (m+1) 118 40 Tryz.f118 d47 p ms σ
noncomputable def l30 (J:Nat→Nat→Nat→St→Option (List Dt)→Option (List Dt)) (m:Nat) (p ms:List Nat) (M:Nat) (σ:St):=loopAt Tryz.prog env (ct m) J (m+1) 118 40 Tryz.f118 d47 p ms M σ
noncomputable def s30_6 (x0:List Dt) (x1 x2:Int) (x3:List Dt) (x4 x5:Int) (x6:List Dt):St:=⟨tsOf [(5,(.row 0)),(12,(.dat 23 (.lst x0))),(13,(.dat 3 (.int x1))),(14,(.dat 3 (.int x2))),(26,(.dat 23 (.lst x3))),(27,(.dat 3 (.int x4))),(28,(.dat 3 (.int x5)))],[(.row 23 x6)],0⟩
noncomputable def s30_7 (x0:List Dt) (x1 x2:Int) (x3:List Dt):St:=⟨tsOf [(5,(.row 0)),(12,(.dat 23 (.lst x0))),(13,(.dat 3 (.int x1))),(14,(.dat 3 (.int x2)))],[(.row 23 x3)],0⟩
noncomputable def s30_8 (x0:List Dt):St:=⟨tsOf [(5,(.row 0))],[(.row 23 x0)],0⟩
abbrev H30_1 (m M1:Nat) (rec1:List Dt→Int→Int→List Dt→Option (List Dt)):Prop:=∀x0 x1 x2 x3,l30 jn m w30_0 [] M1 (s30_7 x0 x1 x2 x3)=rec1 x0 x1 x2 x3
abbrev H30_4 (m M1 M4:Nat) (rec4:List Dt→Int→Int→List Dt→Int→Int→List Dt→Option (List Dt)):Prop:=∀x0 x1 x2 x3 x4 x5 x6,l30 jn m w30_1 [M1] M4 (s30_6 x0 x1 x2 x3 x4 x5 x6)=rec4 x0 x1 x2 x3 x4 x5 x6
theorem path_Leaves_j6_eq m M1 rec1 (h1:H30_1 m M1 rec1) M4 rec4 (h4:H30_4 m M1 M4 rec4) x0 x1 x2 x3 x4 x5 x6:e30 jn m w30_2 [M1,M4] (s30_6 x0 x1 x2 x3 x4 x5 x6)=path_Leaves_j6 m rec1 rec4 x0 x1 x2 x3 x4 x5 x6:=
 tre (g:=fun J=>(jj J 1 8 M4 (s30_6 x0 x1 x2 x3 x4 (IntKind.wrap .i64 (x5+1)) x6) (l30 J m w30_1 [M1] M4))) (fun J=>by kernel_rfl) (by simp only[jj_eq,h4];rfl)
theorem path_Leaves_j5_eq m M1 rec1 (h1:H30_1 m M1 rec1) M4 rec4 (h4:H30_4 m M1 M4 rec4) x0 x1 x2 x3 x4 x5 x6:e30 jn m w30_3 [M1,M4] (s30_6 x0 x1 x2 x3 x4 x5 x6)=path_Leaves_j5 m rec1 rec4 x0 x1 x2 x3 x4 x5 x6:=
 tre (g:=fun J=>((idx x3 x5).bind fun v3=>
  ((path_clone m v3).bind fun r4=>
  ((app x6 [(Dt.agg [(Dt.int r4.1),(Dt.int r4.2.1),(Dt.str r4.2.2.1),(Dt.lst r4.2.2.2.1),(Dt.lst r4.2.2.2.2)])]).bind fun v5=>
  (jj J 0 11 0 (s30_6 x0 x1 x2 x3 x4 x5 v5) (e30 J m w30_2 [M1,M4])))))) (fun J=>by kernel_rfl) (by simp only[jj_eq,path_Leaves_j6_eq m M1 rec1 h1 M4 rec4 h4];rfl)
theorem path_Leaves_j7_eq m M1 rec1 (h1:H30_1 m M1 rec1) x0 x1 x2 x3:e30 jn m w30_4 [M1] (s30_7 x0 x1 x2 x3)=path_Leaves_j7 m rec1 x0 x1 x2 x3:=
 tre (g:=fun J=>(jj J 1 3 M1 (s30_7 x0 x1 (IntKind.wrap .i64 (x2+1)) x3) (l30 J m w30_0 [] M1))) (fun J=>by kernel_rfl) (by simp only[jj_eq,h1];rfl)
theorem path_Leaves_l4_eq m M1 rec1 (h1:H30_1 m M1 rec1):∀M4 x0 x1 x2 x3 x4 x5 x6,l30 jn m w30_1 [M1] M4 (s30_6 x0 x1 x2 x3 x4 x5 x6)=path_Leaves_l4 m rec1 M4 x0 x1 x2 x3 x4 x5 x6
 |0,_,_,_,_,_,_,_=>rfl
 | M4+1,x0,x1,x2,x3,x4,x5,x6=>
   trl (g:=fun J=>(bif (decide (x5<x4)) then
  (jj J 0 9 0 (s30_6 x0 x1 x2 x3 x4 x5 x6) (e30 J m w30_3 [M1,M4]))
   else
  (jj J 0 12 0 (s30_7 x0 x1 x2 x6) (e30 J m w30_4 [M1])))) (fun J=>by kernel_rfl) (by simp only[jj_eq,path_Leaves_j5_eq m M1 rec1 h1 M4 (path_Leaves_l4 m rec1 M4) (path_Leaves_l4_eq m M1 rec1 h1 M4),path_Leaves_j7_eq m M1 rec1 h1];rfl)
theorem path_Leaves_j3_eq m M1 rec1 (h1:H30_1 m M1 rec1) x0 x1 x2 x3 x4 x5 x6:e30 jn m w30_5 [M1] (s30_6 x0 x1 x2 x3 x4 x5 x6)=path_Leaves_j3 m rec1 x0 x1 x2 x3 x4 x5 x6:=
 tre (g:=fun J=>(jj J 1 8 (Nat.succ m) (s30_6 x0 x1 x2 x3 x4 x5 x6) (l30 J m w30_1 [M1] (Nat.succ m)))) (fun J=>by kernel_rfl) (by simp only[jj_eq,path_Leaves_l4_eq m M1 rec1 h1];rfl)
theorem path_Leaves_j2_eq m M1 rec1 (h1:H30_1 m M1 rec1) x0 x1 x2 x3:e30 jn m w30_6 [M1] (s30_7 x0 x1 x2 x3)=path_Leaves_j2 m rec1 x0 x1 x2 x3:=
 tre (g:=fun J=>((idx x0 x2).bind fun v1=>
  ((app x3 [v1]).bind fun v2=>
  (bif ((Dt.I v1 0)==6) then
  (jj J 0 8 0 (s30_6 x0 x1 x2 (Dt.L v1 3) (List.length (Dt.L v1 3):Int) 0 v2) (e30 J m w30_5 [M1]))
  else
  (jj J 0 12 0 (s30_7 x0 x1 x2 v2) (e30 J m w30_4 [M1])))))) (fun J=>by kernel_rfl) (by simp only[jj_eq,path_Leaves_j3_eq m M1 rec1 h1,path_Leaves_j7_eq m M1 rec1 h1];rfl)
theorem path_Leaves_j8_eq m x0:e30 jn m [1,1,1] [] (s30_8 x0)=path_Leaves_j8 m x0:=
 tre (g:=fun J=>some x0) (fun J=>by kernel_rfl) (by rfl)
theorem path_Leaves_l1_eq m:∀M1 x0 x1 x2 x3,l30 jn m w30_0 [] M1 (s30_7 x0 x1 x2 x3)=path_Leaves_l1 m M1 x0 x1 x2 x3
 |0,_,_,_,_=>rfl
 | M1+1,x0,x1,x2,x3=>
   trl (g:=fun J=>(bif (decide (x2<x1)) then
  (jj J 0 4 0 (s30_7 x0 x1 x2 x3) (e30 J m w30_6 [M1]))
   else
  (jj J 0 13 0 (s30_8 x3) (e30 J m [1,1,1] [])))) (fun J=>by kernel_rfl) (by simp only[jj_eq,path_Leaves_j2_eq m M1 (path_Leaves_l1 m M1) (path_Leaves_l1_eq m M1),path_Leaves_j8_eq m];rfl)
theorem path_Leaves_j0_eq m x0 x1 x2 x3:e30 jn m [1,1,0,1] [] (s30_7 x0 x1 x2 x3)=path_Leaves_j0 m x0 x1 x2 x3:=
 tre (g:=fun J=>(jj J 1 3 (Nat.succ m) (s30_7 x0 x1 x2 x3) (l30 J m w30_0 [] (Nat.succ m)))) (fun J=>by kernel_rfl) (by simp only[jj_eq,path_Leaves_l1_eq m];rfl)
theorem path_Leaves_eq m a0 a1:e30 jn m [] [] ⟨[(.dat 33 a0),(.dat 22 (.lst a1))],[],0⟩=path_Leaves (m+1) a0 a1:=
 tre (g:=fun J=>((path_Reach m a0 a1).bind fun r0=>
  (jj J 0 3 0 (s30_7 r0 (List.length r0:Int) 0 []) (e30 J m [1,1,0,1] [])))) (fun J=>by kernel_rfl) (by simp only[jj_eq,path_Leaves_j0_eq m];rfl)
noncomputable def e67 (J:Nat→Nat→Nat→St→Option Int→Option Int) (m:Nat) (p ms:List Nat) (σ:St):=evAt Tryz.prog env (ct m) J (m+1) 219 30 Tryz.f219 d15 p ms σ
noncomputable def l67 (J:Nat→Nat→Nat→St→Option Int→Option Int) (m:Nat) (p ms:List Nat) (M:Nat) (σ:St):=loopAt Tryz.prog env (ct m) J (m+1) 219 30 Tryz.f219 d15 p ms M σ
theorem geo_turn_eq m a0 a1 a2:e67 jn m [] [] ⟨[(.dat 90 a0),(.dat 90 a1),(.dat 90 a2)],[],0⟩=geo_turn (m+1) a0 a1 a2:=
 tre (g:=fun J=>some (IntKind.wrap .i64 ((IntKind.wrap .i64 ((IntKind.wrap .i64 ((Dt.I a1 0)-(Dt.I a0 0)))*(IntKind.wrap .i64 ((Dt.I a2 1)-(Dt.I a0 1)))))-(IntKind.wrap .i64 ((IntKind.wrap .i64 ((Dt.I a1 1)-(Dt.I a0 1)))*(IntKind.wrap .i64 ((Dt.I a2 0)-(Dt.I a0 0)))))))) (fun J=>by kernel_rfl) (by rfl)
noncomputable def e51 (J:Nat→Nat→Nat→St→Option Bool→Option Bool) (m:Nat) (p ms:List Nat) (σ:St):=evAt Tryz.prog env (ct m) J (m+1) 166 52 Tryz.f166 d5 p ms σ
noncomputable def l51 (J:Nat→Nat→Nat→St→Option Bool→Option Bool) (m:Nat) (p ms:List Nat) (M:Nat) (σ:St):=loopAt Tryz.prog env (ct m) J (m+1) 166 52 Tryz.f166 d5 p ms M σ
theorem geo_onEdge_eq m a0 a1 a2:e51 jn m [] [] ⟨[(.dat 90 a0),(.dat 90 a1),(.dat 90 a2)],[],0⟩=geo_onEdge (m+1) a0 a1 a2:=
 tre (g:=fun J=>((geo_turn m a0 a1 a2).bind fun r0=>
  (bif (r0==0) then
  (bif (decide ((bif (decide ((Dt.I a1 0)<(Dt.I a0 0))) then(Dt.I a1 0) else(Dt.I a0 0))≤(Dt.I a2 0))) then
  (bif (decide ((Dt.I a2 0)≤(bif (decide ((Dt.I a0 0)<(Dt.I a1 0))) then(Dt.I a1 0) else(Dt.I a0 0)))) then
  (bif (decide ((bif (decide ((Dt.I a1 1)<(Dt.I a0 1))) then(Dt.I a1 1) else(Dt.I a0 1))≤(Dt.I a2 1))) then
  some (decide ((Dt.I a2 1)≤(bif (decide ((Dt.I a0 1)<(Dt.I a1 1))) then(Dt.I a1 1) else(Dt.I a0 1))))
  else
  some false)
  else
  some false)
  else
  some false)
  else
  some false))) (fun J=>by kernel_rfl) (by rfl)
noncomputable def e52 (J:Nat→Nat→Nat→St→Option Bool→Option Bool) (m:Nat) (p ms:List Nat) (σ:St):=evAt Tryz.prog env (ct m) J (m+1) 167 30 Tryz.f167 d5 p ms σ
noncomputable def l52 (J:Nat→Nat→Nat→St→Option Bool→Option Bool) (m:Nat) (p ms:List Nat) (M:Nat) (σ:St):=loopAt Tryz.prog env (ct m) J (m+1) 167 30 Tryz.f167 d5 p ms M σ
noncomputable def s52_1 (x0 x1 x2:Dt):St:=⟨tsOf [(3,(.ptr 0 [] 0)),(4,(.ptr 1 [] 0)),(5,(.ptr 2 [] 0))],[(.box 90 (.dat 90 x0)),(.box 90 (.dat 90 x1)),(.box 90 (.dat 90 x2))],0⟩
theorem geo_crosses_j1_eq m x0 x1 x2:e52 jn m [1,1,1] [] (s52_1 x0 x1 x2)=geo_crosses_j1 m x0 x1 x2:=
 tre (g:=fun J=>((geo_turn m x0 x1 x2).bind fun r0=>
  some (decide (0<r0)))) (fun J=>by kernel_rfl) (by rfl)
theorem geo_crosses_j0_eq m x0 x1 x2:e52 jn m [1,1] [] (s52_1 x0 x1 x2)=geo_crosses_j0 m x0 x1 x2:=
 tre (g:=fun J=>(bif (decide ((Dt.I x1 1)<(Dt.I x0 1))) then
  (jj J 0 5 0 (s52_1 x1 x0 x2) (e52 J m [1,1,1] []))
   else
  (jj J 0 5 0 (s52_1 x0 x1 x2) (e52 J m [1,1,1] [])))) (fun J=>by kernel_rfl) (by simp only[jj_eq,geo_crosses_j1_eq m];rfl)
theorem geo_crosses_eq m a0 a1 a2:e52 jn m [] [] ⟨[(.dat 90 a0),(.dat 90 a1),(.dat 90 a2)],[],0⟩=geo_crosses (m+1) a0 a1 a2:=
 tre (g:=fun J=>(bif ((decide ((Dt.I a2 1)<(Dt.I a0 1)))==(decide ((Dt.I a2 1)<(Dt.I a1 1)))) then
  some false
   else
  (jj J 0 3 0 (s52_1 a0 a1 a2) (e52 J m [1,1] [])))) (fun J=>by kernel_rfl) (by simp only[jj_eq,geo_crosses_j0_eq m];rfl)
def w32_5:List Nat:=[1,1,1,1,1,1]
def w32_6:List Nat:=[1,1,1,1,1,0,1]
def w32_0:List Nat:=w32_6++[0]
def w32_4:List Nat:=w32_0++[0,1,1]
def w32_1:List Nat:=w32_4++[1]
def w32_3:List Nat:=w32_4++[0,0,1,1]
def w32_2:List Nat:=w32_3++[1]
noncomputable def e32 (J:Nat→Nat→Nat→St→Option Bool→Option Bool) (m:Nat) (p ms:List Nat) (σ:St):=evAt Tryz.prog env (ct m) J (m+1) 120 96 Tryz.f120 d5 p ms σ
noncomputable def l32 (J:Nat→Nat→Nat→St→Option Bool→Option Bool) (m:Nat) (p ms:List Nat) (M:Nat) (σ:St):=loopAt Tryz.prog env (ct m) J (m+1) 120 96 Tryz.f120 d5 p ms M σ
noncomputable def s32_8 (x0:Bool) (x1:List Dt) (x2 x3:Int) (x4 x5:Dt):St:=⟨tsOf [(3,(.ptr 0 [] 0)),(7,(.dat 4 (.bool x0))),(8,(.ptr 1 [] 0)),(77,(.dat 47 (.lst x1))),(78,(.dat 3 (.int x2))),(79,(.dat 3 (.int x3)))],[(.box 90 (.dat 90 x4)),(.box 90 (.dat 90 x5))],0⟩
noncomputable def s32_7 (x0:Bool) (x1:List Dt) (x2 x3:Int) (x4 x5 x6:Dt):St:=⟨tsOf [(3,(.ptr 0 [] 0)),(7,(.dat 4 (.bool x0))),(8,(.ptr 1 [] 0)),(10,(.ptr 2 [] 0)),(77,(.dat 47 (.lst x1))),(78,(.dat 3 (.int x2))),(79,(.dat 3 (.int x3)))],[(.box 90 (.dat 90 x4)),(.box 90 (.dat 90 x5)),(.box 90 (.dat 90 x6))],0⟩
noncomputable def s32_9 (x0:Bool):St:=⟨tsOf [(7,(.dat 4 (.bool x0)))],[],0⟩
noncomputable def s32_2 (x0 x1:Dt):St:=⟨tsOf [(2,(.ptr 0 [] 0)),(3,(.ptr 1 [] 0))],[(.box 49 (.dat 49 x0)),(.box 90 (.dat 90 x1))],0⟩
noncomputable def s32_0 (x0:Bool) (x1 x2:Dt):St:=⟨tsOf [(2,(.ptr 0 [] 0)),(3,(.ptr 1 [] 0)),(18,(.dat 4 (.bool x0)))],[(.box 49 (.dat 49 x1)),(.box 90 (.dat 90 x2))],0⟩
abbrev H32_4 (m M4:Nat) (rec4:Bool→List Dt→Int→Int→Dt→Dt→Option Bool):Prop:=∀x0 x1 x2 x3 x4 x5,l32 jn m w32_0 [] M4 (s32_8 x0 x1 x2 x3 x4 x5)=rec4 x0 x1 x2 x3 x4 x5
theorem geo_Inside_j8_eq m M4 rec4 (h4:H32_4 m M4 rec4) x0 x1 x2 x3 x4 x5:e32 jn m w32_1 [M4] (s32_8 x0 x1 x2 x3 x4 x5)=geo_Inside_j8 m rec4 x0 x1 x2 x3 x4 x5:=
 tre (g:=fun J=>(jj J 1 12 M4 (s32_8 x0 x1 x2 (IntKind.wrap .i64 (x3+1)) x4 x5) (l32 J m w32_0 [] M4))) (fun J=>by kernel_rfl) (by simp only[jj_eq,h4];rfl)
theorem geo_Inside_j7_eq m M4 rec4 (h4:H32_4 m M4 rec4) x0 x1 x2 x3 x4 x5 x6:e32 jn m w32_2 [M4] (s32_7 x0 x1 x2 x3 x4 x5 x6)=geo_Inside_j7 m rec4 x0 x1 x2 x3 x4 x5 x6:=
 tre (g:=fun J=>(jj J 0 19 0 (s32_8 x0 x1 x2 x3 x4 x6) (e32 J m w32_1 [M4]))) (fun J=>by kernel_rfl) (by simp only[jj_eq,geo_Inside_j8_eq m M4 rec4 h4];rfl)
theorem geo_Inside_j6_eq m M4 rec4 (h4:H32_4 m M4 rec4) x0 x1 x2 x3 x4 x5 x6:e32 jn m w32_3 [M4] (s32_7 x0 x1 x2 x3 x4 x5 x6)=geo_Inside_j6 m rec4 x0 x1 x2 x3 x4 x5 x6:=
 tre (g:=fun J=>((geo_crosses m x5 x6 x4).bind fun r7=>
  (bif r7 then
  (jj J 0 18 0 (s32_7 (Bool.not x0) x1 x2 x3 x4 x5 x6) (e32 J m w32_2 [M4]))
  else
  (jj J 0 18 0 (s32_7 x0 x1 x2 x3 x4 x5 x6) (e32 J m w32_2 [M4]))))) (fun J=>by kernel_rfl) (by simp only[jj_eq,geo_Inside_j7_eq m M4 rec4 h4];rfl)
theorem geo_Inside_j5_eq m M4 rec4 (h4:H32_4 m M4 rec4) x0 x1 x2 x3 x4 x5:e32 jn m w32_4 [M4] (s32_8 x0 x1 x2 x3 x4 x5)=geo_Inside_j5 m rec4 x0 x1 x2 x3 x4 x5:=
 tre (g:=fun J=>((idx x1 x3).bind fun v5=>
  ((geo_onEdge m x5 v5 x4).bind fun r6=>
  (bif r6 then
  some true
  else
  (jj J 0 16 0 (s32_7 x0 x1 x2 x3 x4 x5 v5) (e32 J m w32_3 [M4])))))) (fun J=>by kernel_rfl) (by simp only[jj_eq,geo_Inside_j6_eq m M4 rec4 h4];rfl)
theorem geo_Inside_j9_eq m x0:e32 jn m w32_5 [] (s32_9 x0)=geo_Inside_j9 m x0:=
 tre (g:=fun J=>some x0) (fun J=>by kernel_rfl) (by rfl)
theorem geo_Inside_l4_eq m:∀M4 x0 x1 x2 x3 x4 x5,l32 jn m w32_0 [] M4 (s32_8 x0 x1 x2 x3 x4 x5)=geo_Inside_l4 m M4 x0 x1 x2 x3 x4 x5
 |0,_,_,_,_,_,_=>rfl
 | M4+1,x0,x1,x2,x3,x4,x5=>
   trl (g:=fun J=>(bif (decide (x3<x2)) then
  (jj J 0 13 0 (s32_8 x0 x1 x2 x3 x4 x5) (e32 J m w32_4 [M4]))
   else
  (jj J 0 20 0 (s32_9 x0) (e32 J m w32_5 [])))) (fun J=>by kernel_rfl) (by simp only[jj_eq,geo_Inside_j5_eq m M4 (geo_Inside_l4 m M4) (geo_Inside_l4_eq m M4),geo_Inside_j9_eq m];rfl)
theorem geo_Inside_j3_eq m x0 x1 x2 x3 x4 x5:e32 jn m w32_6 [] (s32_8 x0 x1 x2 x3 x4 x5)=geo_Inside_j3 m x0 x1 x2 x3 x4 x5:=
 tre (g:=fun J=>(jj J 1 12 (Nat.succ m) (s32_8 x0 x1 x2 x3 x4 x5) (l32 J m w32_0 [] (Nat.succ m)))) (fun J=>by kernel_rfl) (by simp only[jj_eq,geo_Inside_l4_eq m];rfl)
theorem geo_Inside_j2_eq m x0 x1:e32 jn m [1,1,1] [] (s32_2 x0 x1)=geo_Inside_j2 m x0 x1:=
 tre (g:=fun J=>((idx (Dt.L x0 1) (IntKind.wrap .i64 ((List.length (Dt.L x0 1):Int)-1))).bind fun v4=>
  (jj J 0 12 0 (s32_8 false (Dt.L x0 1) (List.length (Dt.L x0 1):Int) 0 x1 v4) (e32 J m w32_6 [])))) (fun J=>by kernel_rfl) (by simp only[jj_eq,geo_Inside_j3_eq m];rfl)
theorem geo_Inside_j1_eq m x0 x1:e32 jn m [1,1] [] (s32_2 x0 x1)=geo_Inside_j1 m x0 x1:=
 tre (g:=fun J=>(bif ((Dt.I x0 0)==1) then
  ((geo_bounds m x0).bind fun r1=>
  (bif (decide ((Dt.I r1.1 0)≤(Dt.I x1 0))) then
  (bif (decide ((Dt.I x1 0)≤(Dt.I r1.2 0))) then
  (bif (decide ((Dt.I r1.1 1)≤(Dt.I x1 1))) then
  some (decide ((Dt.I x1 1)≤(Dt.I r1.2 1)))
  else
  some false)
  else
  some false)
  else
  some false))
   else
  (bif ((Dt.I x0 0)==2) then
  ((idx (Dt.L x0 1) 0).bind fun v2=>
  ((geo_Distance m v2 x1).bind fun r3=>
  some (decide (r3≤(IntKind.wrap .i64 ((Dt.I x0 2)*(Dt.I x0 2)))))))
  else
  (jj J 0 9 0 (s32_2 x0 x1) (e32 J m [1,1,1] []))))) (fun J=>by kernel_rfl) (by simp only[jj_eq,geo_Inside_j2_eq m];rfl)
theorem geo_Inside_j0_eq m x0 x1 x2:e32 jn m [1,0,1] [] (s32_0 x0 x1 x2)=geo_Inside_j0 m x0 x1 x2:=
 tre (g:=fun J=>(bif x0 then
  some false
   else
  (jj J 0 3 0 (s32_2 x1 x2) (e32 J m [1,1] [])))) (fun J=>by kernel_rfl) (by simp only[jj_eq,geo_Inside_j1_eq m];rfl)
theorem geo_Inside_eq m a0 a1:e32 jn m [] [] ⟨[(.dat 49 a0),(.dat 90 a1)],[],0⟩=geo_Inside (m+1) a0 a1:=
 tre (g:=fun J=>((geo_Valid m a0).bind fun r0=>
  (bif (r0 !=0) then
  (jj J 0 2 0 (s32_0 true a0 a1) (e32 J m [1,0,1] []))
  else
  ((geo_isPoint m a1).bind fun r8=>
  (jj J 0 2 0 (s32_0 (Bool.not r8) a0 a1) (e32 J m [1,0,1] [])))))) (fun J=>by kernel_rfl) (by simp only[jj_eq,geo_Inside_j0_eq m];rfl)
def w11_0:List Nat:=[1,1,0,1,0]
def w11_4:List Nat:=[1,1,0,1,0,0,1,1]
def w11_1:List Nat:=w11_4++[1]
def w11_3:List Nat:=w11_4++[0,0,1,1,1]
def w11_2:List Nat:=w11_3++[1,1]
noncomputable def e11 (J:Nat→Nat→Nat→St→Option (Int×Bool)→Option (Int×Bool)) (m:Nat) (p ms:List Nat) (σ:St):=evAt Tryz.prog env (ct m) J (m+1) 74 53 Tryz.f74 d66 p ms σ
noncomputable def l11 (J:Nat→Nat→Nat→St→Option (Int×Bool)→Option (Int×Bool)) (m:Nat) (p ms:List Nat) (M:Nat) (σ:St):=loopAt Tryz.prog env (ct m) J (m+1) 74 53 Tryz.f74 d66 p ms M σ
noncomputable def s11_3 (x0:Int) (x1:Bool) (x2:List Dt) (x3 x4:Int) (x5:Dt):St:=⟨tsOf [(3,(.ptr 0 [] 0)),(8,(.dat 3 (.int x0))),(9,(.dat 4 (.bool x1))),(17,(.dat 23 (.lst x2))),(18,(.dat 3 (.int x3))),(19,(.dat 3 (.int x4)))],[(.box 49 (.dat 49 x5))],0⟩
noncomputable def s11_5 (x0:Int) (x1:Bool) (x2:Int) (x3:List Dt) (x4 x5:Int) (x6:Bool) (x7:Dt):St:=⟨tsOf [(3,(.ptr 0 [] 0)),(8,(.dat 3 (.int x0))),(9,(.dat 4 (.bool x1))),(14,(.dat 3 (.int x2))),(17,(.dat 23 (.lst x3))),(18,(.dat 3 (.int x4))),(19,(.dat 3 (.int x5))),(48,(.dat 4 (.bool x6)))],[(.box 49 (.dat 49 x7))],0⟩
noncomputable def s11_4 (x0:Int) (x1:Bool) (x2:List Dt) (x3 x4:Int) (x5 x6:Dt):St:=⟨tsOf [(3,(.ptr 0 [] 0)),(8,(.dat 3 (.int x0))),(9,(.dat 4 (.bool x1))),(12,(.ptr 1 [] 0)),(17,(.dat 23 (.lst x2))),(18,(.dat 3 (.int x3))),(19,(.dat 3 (.int x4)))],[(.box 49 (.dat 49 x5)),(.box 90 (.dat 90 x6))],0⟩
noncomputable def s11_6 (x0:Int) (x1:Bool):St:=⟨tsOf [(8,(.dat 3 (.int x0))),(9,(.dat 4 (.bool x1)))],[],0⟩
abbrev H11_1 (m M1:Nat) (rec1:Int→Bool→List Dt→Int→Int→Dt→Option (Int×Bool)):Prop:=∀x0 x1 x2 x3 x4 x5,l11 jn m w11_0 [] M1 (s11_3 x0 x1 x2 x3 x4 x5)=rec1 x0 x1 x2 x3 x4 x5
theorem reshape_nearest_j3_eq m M1 rec1 (h1:H11_1 m M1 rec1) x0 x1 x2 x3 x4 x5:e11 jn m w11_1 [M1] (s11_3 x0 x1 x2 x3 x4 x5)=reshape_nearest_j3 m rec1 x0 x1 x2 x3 x4 x5:=
 tre (g:=fun J=>(jj J 1 3 M1 (s11_3 x0 x1 x2 x3 (IntKind.wrap .i64 (x4+1)) x5) (l11 J m w11_0 [] M1))) (fun J=>by kernel_rfl) (by simp only[jj_eq,h1];rfl)
theorem reshape_nearest_j5_eq m M1 rec1 (h1:H11_1 m M1 rec1) x0 x1 x2 x3 x4 x5 x6 x7:e11 jn m w11_2 [M1] (s11_5 x0 x1 x2 x3 x4 x5 x6 x7)=reshape_nearest_j5 m rec1 x0 x1 x2 x3 x4 x5 x6 x7:=
 tre (g:=fun J=>(bif x6 then
  (jj J 0 10 0 (s11_3 x2 true x3 x4 x5 x7) (e11 J m w11_1 [M1]))
   else
  (jj J 0 10 0 (s11_3 x0 x1 x3 x4 x5 x7) (e11 J m w11_1 [M1])))) (fun J=>by kernel_rfl) (by simp only[jj_eq,reshape_nearest_j3_eq m M1 rec1 h1];rfl)
theorem reshape_nearest_j4_eq m M1 rec1 (h1:H11_1 m M1 rec1) x0 x1 x2 x3 x4 x5 x6:e11 jn m w11_3 [M1] (s11_4 x0 x1 x2 x3 x4 x5 x6)=reshape_nearest_j4 m rec1 x0 x1 x2 x3 x4 x5 x6:=
 tre (g:=fun J=>((idx (Dt.L x5 1) 0).bind fun v4=>
  ((geo_Distance m x6 v4).bind fun r5=>
  (bif (Bool.not x1) then
  (jj J 0 9 0 (s11_5 x0 x1 r5 x2 x3 x4 true x5) (e11 J m w11_2 [M1]))
  else
  (jj J 0 9 0 (s11_5 x0 x1 r5 x2 x3 x4 (decide (r5<x0)) x5) (e11 J m w11_2 [M1])))))) (fun J=>by kernel_rfl) (by simp only[jj_eq,reshape_nearest_j5_eq m M1 rec1 h1];rfl)
theorem reshape_nearest_j2_eq m M1 rec1 (h1:H11_1 m M1 rec1) x0 x1 x2 x3 x4 x5:e11 jn m w11_4 [M1] (s11_3 x0 x1 x2 x3 x4 x5)=reshape_nearest_j2 m rec1 x0 x1 x2 x3 x4 x5:=
 tre (g:=fun J=>((idx x2 x4).bind fun v1=>
  ((geo_Point m v1).bind fun r2=>
  (bif (r2.2 !=0) then
  (jj J 0 10 0 (s11_3 x0 x1 x2 x3 x4 x5) (e11 J m w11_1 [M1]))
  else
  ((geo_Inside m x5 r2.1).bind fun r3=>
  (bif (Bool.not r3) then
  (jj J 0 10 0 (s11_3 x0 x1 x2 x3 x4 x5) (e11 J m w11_1 [M1]))
  else
  (jj J 0 7 0 (s11_4 x0 x1 x2 x3 x4 x5 r2.1) (e11 J m w11_3 [M1])))))))) (fun J=>by kernel_rfl) (by simp only[jj_eq,reshape_nearest_j3_eq m M1 rec1 h1,reshape_nearest_j4_eq m M1 rec1 h1];rfl)
theorem reshape_nearest_j6_eq m x0 x1:e11 jn m [1,1,1] [] (s11_6 x0 x1)=reshape_nearest_j6 m x0 x1:=
 tre (g:=fun J=>some (x0,x1)) (fun J=>by kernel_rfl) (by rfl)
theorem reshape_nearest_l1_eq m:∀M1 x0 x1 x2 x3 x4 x5,l11 jn m w11_0 [] M1 (s11_3 x0 x1 x2 x3 x4 x5)=reshape_nearest_l1 m M1 x0 x1 x2 x3 x4 x5
 |0,_,_,_,_,_,_=>rfl
 | M1+1,x0,x1,x2,x3,x4,x5=>
   trl (g:=fun J=>(bif (decide (x4<x3)) then
  (jj J 0 4 0 (s11_3 x0 x1 x2 x3 x4 x5) (e11 J m w11_4 [M1]))
   else
  (jj J 0 11 0 (s11_6 x0 x1) (e11 J m [1,1,1] [])))) (fun J=>by kernel_rfl) (by simp only[jj_eq,reshape_nearest_j2_eq m M1 (reshape_nearest_l1 m M1) (reshape_nearest_l1_eq m M1),reshape_nearest_j6_eq m];rfl)
theorem reshape_nearest_j0_eq m x0 x1 x2 x3 x4 x5:e11 jn m [1,1,0,1] [] (s11_3 x0 x1 x2 x3 x4 x5)=reshape_nearest_j0 m x0 x1 x2 x3 x4 x5:=
 tre (g:=fun J=>(jj J 1 3 (Nat.succ m) (s11_3 x0 x1 x2 x3 x4 x5) (l11 J m w11_0 [] (Nat.succ m)))) (fun J=>by kernel_rfl) (by simp only[jj_eq,reshape_nearest_l1_eq m];rfl)
theorem reshape_nearest_eq m a0 a1 a2:e11 jn m [] [] ⟨[(.dat 49 a0),(.dat 22 (.lst a1)),(.dat 33 a2)],[],0⟩=reshape_nearest (m+1) a0 a1 a2:=
 tre (g:=fun J=>((path_Leaves m a2 a1).bind fun r0=>
  (jj J 0 3 0 (s11_3 0 false r0 (List.length r0:Int) 0 a0) (e11 J m [1,1,0,1] [])))) (fun J=>by kernel_rfl) (by simp only[jj_eq,reshape_nearest_j0_eq m];rfl)
def w3_8:List Nat:=[1,1,1,0,1]
def w3_0:List Nat:=[1,1,1,0,1,0]
def w3_6:List Nat:=[1,1,1,1,1,1,1]
def w3_7:List Nat:=[1,1,1,1,1,1,0,1]
def w3_2:List Nat:=w3_0++[0,1,1]
def w3_3:List Nat:=w3_7++[0]
def w3_1:List Nat:=w3_2++[1]
def w3_5:List Nat:=w3_3++[0,1,1]
def w3_4:List Nat:=w3_5++[1]
noncomputable def e3 (J:Nat→Nat→Nat→St→Option (List Dt)→Option (List Dt)) (m:Nat) (p ms:List Nat) (σ:St):=evAt Tryz.prog env (ct m) J (m+1) 27 71 Tryz.f27 d47 p ms σ
noncomputable def l3 (J:Nat→Nat→Nat→St→Option (List Dt)→Option (List Dt)) (m:Nat) (p ms:List Nat) (M:Nat) (σ:St):=loopAt Tryz.prog env (ct m) J (m+1) 27 71 Tryz.f27 d47 p ms M σ
noncomputable def s3_5 (x0:List Dt) (x1:ByteArray) (x2:List Dt) (x3 x4:Int) (x5:Dt) (x6:List Dt):St:=⟨tsOf [(1,(.dat 22 (.lst x0))),(2,(.dat 9 (.str x1))),(4,(.ptr 0 [] 0)),(9,(.row 1)),(25,(.dat 23 (.lst x2))),(26,(.dat 3 (.int x3))),(27,(.dat 3 (.int x4)))],[(.box 49 (.dat 49 x5)),(.row 113 x6)],0⟩
noncomputable def s3_10 (x0:ByteArray) (x1:List Dt) (x2 x3:Int) (x4:List Dt):St:=⟨tsOf [(2,(.dat 9 (.str x0))),(14,(.row 0)),(51,(.dat 113 (.lst x1))),(52,(.dat 3 (.int x2))),(53,(.dat 3 (.int x3)))],[(.row 23 x4)],0⟩
noncomputable def s3_11 (x0:List Dt):St:=⟨tsOf [(14,(.row 0))],[(.row 23 x0)],0⟩
noncomputable def s3_6 (x0:ByteArray) (x1:List Dt):St:=⟨tsOf [(2,(.dat 9 (.str x0))),(9,(.row 0))],[(.row 113 x1)],0⟩
noncomputable def s3_1 (x0:List Dt) (x1:ByteArray) (x2:List Dt) (x3:Dt):St:=⟨tsOf [(1,(.dat 22 (.lst x0))),(2,(.dat 9 (.str x1))),(3,(.dat 23 (.lst x2))),(4,(.ptr 0 [] 0))],[(.box 49 (.dat 49 x3))],0⟩
noncomputable def s3_0 (x0:List Dt) (x1:ByteArray) (x2:List Dt) (x3:Bool) (x4:Dt):St:=⟨tsOf [(1,(.dat 22 (.lst x0))),(2,(.dat 9 (.str x1))),(3,(.dat 23 (.lst x2))),(4,(.ptr 0 [] 0)),(24,(.dat 4 (.bool x3)))],[(.box 49 (.dat 49 x4))],0⟩
abbrev H3_3 (m M3:Nat) (rec3:List Dt→ByteArray→List Dt→Int→Int→Dt→List Dt→Option (List Dt)):Prop:=∀x0 x1 x2 x3 x4 x5 x6,l3 jn m w3_0 [] M3 (s3_5 x0 x1 x2 x3 x4 x5 x6)=rec3 x0 x1 x2 x3 x4 x5 x6
theorem reshape_Near_j5_eq m M3 rec3 (h3:H3_3 m M3 rec3) x0 x1 x2 x3 x4 x5 x6:e3 jn m w3_1 [M3] (s3_5 x0 x1 x2 x3 x4 x5 x6)=reshape_Near_j5 m rec3 x0 x1 x2 x3 x4 x5 x6:=
 tre (g:=fun J=>(jj J 1 5 M3 (s3_5 x0 x1 x2 x3 (IntKind.wrap .i64 (x4+1)) x5 x6) (l3 J m w3_0 [] M3))) (fun J=>by kernel_rfl) (by simp only[jj_eq,h3];rfl)
theorem reshape_Near_j4_eq m M3 rec3 (h3:H3_3 m M3 rec3) x0 x1 x2 x3 x4 x5 x6:e3 jn m w3_2 [M3] (s3_5 x0 x1 x2 x3 x4 x5 x6)=reshape_Near_j4 m rec3 x0 x1 x2 x3 x4 x5 x6:=
 tre (g:=fun J=>((idx x2 x4).bind fun v0=>
  ((reshape_nearest m x5 x0 v0).bind fun r1=>
  (bif r1.2 then
  ((app x6 [(Dt.agg [v0,(Dt.int r1.1)])]).bind fun v2=>
  (jj J 0 10 0 (s3_5 x0 x1 x2 x3 x4 x5 v2) (e3 J m w3_1 [M3])))
  else
  (jj J 0 10 0 (s3_5 x0 x1 x2 x3 x4 x5 x6) (e3 J m w3_1 [M3])))))) (fun J=>by kernel_rfl) (by simp only[jj_eq,reshape_Near_j5_eq m M3 rec3 h3];rfl)
abbrev H3_8 (m M8:Nat) (rec8:ByteArray→List Dt→Int→Int→List Dt→Option (List Dt)):Prop:=∀x0 x1 x2 x3 x4,l3 jn m w3_3 [] M8 (s3_10 x0 x1 x2 x3 x4)=rec8 x0 x1 x2 x3 x4
theorem reshape_Near_j10_eq m M8 rec8 (h8:H3_8 m M8 rec8) x0 x1 x2 x3 x4:e3 jn m w3_4 [M8] (s3_10 x0 x1 x2 x3 x4)=reshape_Near_j10 m rec8 x0 x1 x2 x3 x4:=
 tre (g:=fun J=>(jj J 1 14 M8 (s3_10 x0 x1 x2 (IntKind.wrap .i64 (x3+1)) x4) (l3 J m w3_3 [] M8))) (fun J=>by kernel_rfl) (by simp only[jj_eq,h8];rfl)
theorem reshape_Near_j9_eq m M8 rec8 (h8:H3_8 m M8 rec8) x0 x1 x2 x3 x4:e3 jn m w3_5 [M8] (s3_10 x0 x1 x2 x3 x4)=reshape_Near_j9 m rec8 x0 x1 x2 x3 x4:=
 tre (g:=fun J=>((idx x1 x3).bind fun v5=>
  ((reshape_copyValue m (Dt.fld v5 0)).bind fun r6=>
  ((reshape_integer m (Dt.I v5 1)).bind fun r7=>
  ((reshape_named m r6 x0 r7).bind fun r8=>
  ((inL x4 x3).bind fun v9=>
  ((x4[(Int.toNat x3)]?).bind fun v10=>
  (jj J 0 17 0 (s3_10 x0 x1 x2 x3 (List.set x4 (Int.toNat x3) r8)) (e3 J m w3_4 [M8]))))))))) (fun J=>by kernel_rfl) (by simp only[jj_eq,reshape_Near_j10_eq m M8 rec8 h8];rfl)
theorem reshape_Near_j11_eq m x0:e3 jn m w3_6 [] (s3_11 x0)=reshape_Near_j11 m x0:=
 tre (g:=fun J=>some x0) (fun J=>by kernel_rfl) (by rfl)
theorem reshape_Near_l8_eq m:∀M8 x0 x1 x2 x3 x4,l3 jn m w3_3 [] M8 (s3_10 x0 x1 x2 x3 x4)=reshape_Near_l8 m M8 x0 x1 x2 x3 x4
 |0,_,_,_,_,_=>rfl
 | M8+1,x0,x1,x2,x3,x4=>
   trl (g:=fun J=>(bif (decide (x3<x2)) then
  (jj J 0 15 0 (s3_10 x0 x1 x2 x3 x4) (e3 J m w3_5 [M8]))
   else
  (jj J 0 18 0 (s3_11 x4) (e3 J m w3_6 [])))) (fun J=>by kernel_rfl) (by simp only[jj_eq,reshape_Near_j9_eq m M8 (reshape_Near_l8 m M8) (reshape_Near_l8_eq m M8),reshape_Near_j11_eq m];rfl)
theorem reshape_Near_j7_eq m x0 x1 x2 x3 x4:e3 jn m w3_7 [] (s3_10 x0 x1 x2 x3 x4)=reshape_Near_j7 m x0 x1 x2 x3 x4:=
 tre (g:=fun J=>(jj J 1 14 (Nat.succ m) (s3_10 x0 x1 x2 x3 x4) (l3 J m w3_3 [] (Nat.succ m)))) (fun J=>by kernel_rfl) (by simp only[jj_eq,reshape_Near_l8_eq m];rfl)
theorem reshape_Near_j6_eq m x0 x1:e3 jn m [1,1,1,1] [] (s3_6 x0 x1)=reshape_Near_j6 m x0 x1:=
 tre (g:=fun J=>((i12 m x1).bind fun r3=>
  ((mkL (List.length r3:Int) (List.length r3:Int) kza2373).bind fun v4=>
  (jj J 0 14 0 (s3_10 x0 r3 (List.length r3:Int) 0 v4) (e3 J m w3_7 []))))) (fun J=>by kernel_rfl) (by simp only[jj_eq,reshape_Near_j7_eq m];rfl)
theorem reshape_Near_l3_eq m:∀M3 x0 x1 x2 x3 x4 x5 x6,l3 jn m w3_0 [] M3 (s3_5 x0 x1 x2 x3 x4 x5 x6)=reshape_Near_l3 m M3 x0 x1 x2 x3 x4 x5 x6
 |0,_,_,_,_,_,_,_=>rfl
 | M3+1,x0,x1,x2,x3,x4,x5,x6=>
   trl (g:=fun J=>(bif (decide (x4<x3)) then
  (jj J 0 6 0 (s3_5 x0 x1 x2 x3 x4 x5 x6) (e3 J m w3_2 [M3]))
   else
  (jj J 0 11 0 (s3_6 x1 x6) (e3 J m [1,1,1,1] [])))) (fun J=>by kernel_rfl) (by simp only[jj_eq,reshape_Near_j4_eq m M3 (reshape_Near_l3 m M3) (reshape_Near_l3_eq m M3),reshape_Near_j6_eq m];rfl)
theorem reshape_Near_j2_eq m x0 x1 x2 x3 x4 x5 x6:e3 jn m w3_8 [] (s3_5 x0 x1 x2 x3 x4 x5 x6)=reshape_Near_j2 m x0 x1 x2 x3 x4 x5 x6:=
 tre (g:=fun J=>(jj J 1 5 (Nat.succ m) (s3_5 x0 x1 x2 x3 x4 x5 x6) (l3 J m w3_0 [] (Nat.succ m)))) (fun J=>by kernel_rfl) (by simp only[jj_eq,reshape_Near_l3_eq m];rfl)
theorem reshape_Near_j1_eq m x0 x1 x2 x3:e3 jn m [1,1] [] (s3_1 x0 x1 x2 x3)=reshape_Near_j1 m x0 x1 x2 x3:=
 tre (g:=fun J=>(jj J 0 5 0 (s3_5 x0 x1 x2 (List.length x2:Int) 0 x3 []) (e3 J m w3_8 []))) (fun J=>by kernel_rfl) (by simp only[jj_eq,reshape_Near_j2_eq m];rfl)
theorem reshape_Near_j0_eq m x0 x1 x2 x3 x4:e3 jn m [1,0,1] [] (s3_0 x0 x1 x2 x3 x4)=reshape_Near_j0 m x0 x1 x2 x3 x4:=
 tre (g:=fun J=>(bif x3 then
  some []
   else
  (jj J 0 3 0 (s3_1 x0 x1 x2 x4) (e3 J m [1,1] [])))) (fun J=>by kernel_rfl) (by simp only[jj_eq,reshape_Near_j1_eq m];rfl)
theorem reshape_Near_eq m a0 a1 a2 a3:e3 jn m [] [] ⟨[(.dat 49 a0),(.dat 22 (.lst a1)),(.dat 9 (.str a2)),(.dat 23 (.lst a3))],[],0⟩=reshape_Near (m+1) a0 a1 a2 a3:=
 tre (g:=fun J=>(bif ((Dt.I a0 0) !=2) then
  (jj J 0 2 0 (s3_0 a1 a2 a3 true a0) (e3 J m [1,0,1] []))
   else
  ((geo_Valid m a0).bind fun r11=>
  (jj J 0 2 0 (s3_0 a1 a2 a3 (r11 !=0) a0) (e3 J m [1,0,1] []))))) (fun J=>by kernel_rfl) (by simp only[jj_eq,reshape_Near_j0_eq m];rfl)
noncomputable def e69 (J:Nat→Nat→Nat→St→Option Int→Option Int) (m:Nat) (p ms:List Nat) (σ:St):=evAt Tryz.prog env (ct m) J (m+1) 222 30 Tryz.f222 d15 p ms σ
noncomputable def l69 (J:Nat→Nat→Nat→St→Option Int→Option Int) (m:Nat) (p ms:List Nat) (M:Nat) (σ:St):=loopAt Tryz.prog env (ct m) J (m+1) 222 30 Tryz.f222 d15 p ms M σ
theorem ref10_cross_eq m a0 a1 a2:e69 jn m [] [] ⟨[(.dat 90 a0),(.dat 90 a1),(.dat 90 a2)],[],0⟩=ref10_cross (m+1) a0 a1 a2:=
 tre (g:=fun J=>some (IntKind.wrap .i64 ((IntKind.wrap .i64 ((IntKind.wrap .i64 ((Dt.I a1 0)-(Dt.I a0 0)))*(IntKind.wrap .i64 ((Dt.I a2 1)-(Dt.I a0 1)))))-(IntKind.wrap .i64 ((IntKind.wrap .i64 ((Dt.I a1 1)-(Dt.I a0 1)))*(IntKind.wrap .i64 ((Dt.I a2 0)-(Dt.I a0 0)))))))) (fun J=>by kernel_rfl) (by rfl)
def w58_0:List Nat:=[1,1,0,1,0]
def w58_5:List Nat:=[1,1,0,1,0,0,1]
def w58_1:List Nat:=w58_5++[1]
def w58_3:List Nat:=w58_5++[0,0,1,1,1]
def w58_2:List Nat:=w58_3++[1]
def w58_4:List Nat:=w58_5++[0,0,1,1,0,1]
noncomputable def e58 (J:Nat→Nat→Nat→St→Option Bool→Option Bool) (m:Nat) (p ms:List Nat) (σ:St):=evAt Tryz.prog env (ct m) J (m+1) 174 89 Tryz.f174 d5 p ms σ
noncomputable def l58 (J:Nat→Nat→Nat→St→Option Bool→Option Bool) (m:Nat) (p ms:List Nat) (M:Nat) (σ:St):=loopAt Tryz.prog env (ct m) J (m+1) 174 89 Tryz.f174 d5 p ms M σ
noncomputable def s58_6 (x0:List Dt) (x1:Bool) (x2:Int) (x3:Dt):St:=⟨tsOf [(0,(.dat 47 (.lst x0))),(3,(.ptr 0 [] 0)),(5,(.dat 4 (.bool x1))),(6,(.dat 3 (.int x2)))],[(.box 90 (.dat 90 x3))],0⟩
noncomputable def s58_5 (x0:List Dt) (x1:Bool) (x2:Int) (x3:Bool) (x4:Dt):St:=⟨tsOf [(0,(.dat 47 (.lst x0))),(3,(.ptr 0 [] 0)),(5,(.dat 4 (.bool x1))),(6,(.dat 3 (.int x2))),(85,(.dat 4 (.bool x3)))],[(.box 90 (.dat 90 x4))],0⟩
noncomputable def s58_4 (x0:List Dt) (x1:Bool) (x2 x3:Int) (x4 x5 x6:Dt):St:=⟨tsOf [(0,(.dat 47 (.lst x0))),(3,(.ptr 0 [] 0)),(5,(.dat 4 (.bool x1))),(6,(.dat 3 (.int x2))),(7,(.ptr 1 [] 0)),(8,(.ptr 2 [] 0)),(9,(.dat 3 (.int x3)))],[(.box 90 (.dat 90 x4)),(.box 90 (.dat 90 x5)),(.box 90 (.dat 90 x6))],0⟩
noncomputable def s58_3 (x0:List Dt) (x1:Bool) (x2 x3:Int) (x4:Bool) (x5 x6 x7:Dt):St:=⟨tsOf [(0,(.dat 47 (.lst x0))),(3,(.ptr 0 [] 0)),(5,(.dat 4 (.bool x1))),(6,(.dat 3 (.int x2))),(7,(.ptr 1 [] 0)),(8,(.ptr 2 [] 0)),(9,(.dat 3 (.int x3))),(51,(.dat 4 (.bool x4)))],[(.box 90 (.dat 90 x5)),(.box 90 (.dat 90 x6)),(.box 90 (.dat 90 x7))],0⟩
noncomputable def s58_7 (x0:Bool):St:=⟨tsOf [(5,(.dat 4 (.bool x0)))],[],0⟩
abbrev H58_1 (m M1:Nat) (rec1:List Dt→Bool→Int→Dt→Option Bool):Prop:=∀x0 x1 x2 x3,l58 jn m w58_0 [] M1 (s58_6 x0 x1 x2 x3)=rec1 x0 x1 x2 x3
theorem ref10_polygon_j6_eq m M1 rec1 (h1:H58_1 m M1 rec1) x0 x1 x2 x3:e58 jn m w58_1 [M1] (s58_6 x0 x1 x2 x3)=ref10_polygon_j6 m rec1 x0 x1 x2 x3:=
 tre (g:=fun J=>(jj J 1 3 M1 (s58_6 x0 x1 (IntKind.wrap .i64 (x2+1)) x3) (l58 J m w58_0 [] M1))) (fun J=>by kernel_rfl) (by simp only[jj_eq,h1];rfl)
theorem ref10_polygon_j5_eq m M1 rec1 (h1:H58_1 m M1 rec1) x0 x1 x2 x3 x4:e58 jn m w58_2 [M1] (s58_5 x0 x1 x2 x3 x4)=ref10_polygon_j5 m rec1 x0 x1 x2 x3 x4:=
 tre (g:=fun J=>(bif x3 then
  (jj J 0 4 0 (s58_6 x0 (Bool.not x1) x2 x4) (e58 J m w58_1 [M1]))
   else
  (jj J 0 4 0 (s58_6 x0 x1 x2 x4) (e58 J m w58_1 [M1])))) (fun J=>by kernel_rfl) (by simp only[jj_eq,ref10_polygon_j6_eq m M1 rec1 h1];rfl)
theorem ref10_polygon_j4_eq m M1 rec1 (h1:H58_1 m M1 rec1) x0 x1 x2 x3 x4 x5 x6:e58 jn m w58_3 [M1] (s58_4 x0 x1 x2 x3 x4 x5 x6)=ref10_polygon_j4 m rec1 x0 x1 x2 x3 x4 x5 x6:=
 tre (g:=fun J=>(bif (decide ((Dt.I x5 1)≤(Dt.I x4 1))) then
  (bif (decide ((Dt.I x4 1)<(Dt.I x6 1))) then
  (bif (decide (0<x3)) then
  (jj J 0 10 0 (s58_5 x0 x1 x2 true x4) (e58 J m w58_2 [M1]))
  else
  (bif (decide ((Dt.I x6 1)≤(Dt.I x4 1))) then
  (bif (decide ((Dt.I x4 1)<(Dt.I x5 1))) then
  (jj J 0 10 0 (s58_5 x0 x1 x2 (decide (x3<0)) x4) (e58 J m w58_2 [M1]))
  else
  (jj J 0 10 0 (s58_5 x0 x1 x2 false x4) (e58 J m w58_2 [M1])))
  else
  (jj J 0 10 0 (s58_5 x0 x1 x2 false x4) (e58 J m w58_2 [M1]))))
  else
  (bif (decide ((Dt.I x6 1)≤(Dt.I x4 1))) then
  (bif (decide ((Dt.I x4 1)<(Dt.I x5 1))) then
  (jj J 0 10 0 (s58_5 x0 x1 x2 (decide (x3<0)) x4) (e58 J m w58_2 [M1]))
  else
  (jj J 0 10 0 (s58_5 x0 x1 x2 false x4) (e58 J m w58_2 [M1])))
  else
  (jj J 0 10 0 (s58_5 x0 x1 x2 false x4) (e58 J m w58_2 [M1]))))
   else
  (bif (decide ((Dt.I x6 1)≤(Dt.I x4 1))) then
  (bif (decide ((Dt.I x4 1)<(Dt.I x5 1))) then
  (jj J 0 10 0 (s58_5 x0 x1 x2 (decide (x3<0)) x4) (e58 J m w58_2 [M1]))
  else
  (jj J 0 10 0 (s58_5 x0 x1 x2 false x4) (e58 J m w58_2 [M1])))
  else
  (jj J 0 10 0 (s58_5 x0 x1 x2 false x4) (e58 J m w58_2 [M1]))))) (fun J=>by kernel_rfl) (by simp only[jj_eq,ref10_polygon_j5_eq m M1 rec1 h1];rfl)
theorem ref10_polygon_j3_eq m M1 rec1 (h1:H58_1 m M1 rec1) x0 x1 x2 x3 x4 x5 x6 x7:e58 jn m w58_4 [M1] (s58_3 x0 x1 x2 x3 x4 x5 x6 x7)=ref10_polygon_j3 m rec1 x0 x1 x2 x3 x4 x5 x6 x7:=
 tre (g:=fun J=>(bif x4 then
  some true
   else
  (jj J 0 9 0 (s58_4 x0 x1 x2 x3 x5 x6 x7) (e58 J m w58_3 [M1])))) (fun J=>by kernel_rfl) (by simp only[jj_eq,ref10_polygon_j4_eq m M1 rec1 h1];rfl)
theorem ref10_polygon_j2_eq m M1 rec1 (h1:H58_1 m M1 rec1) x0 x1 x2 x3:e58 jn m w58_5 [M1] (s58_6 x0 x1 x2 x3)=ref10_polygon_j2 m rec1 x0 x1 x2 x3:=
 tre (g:=fun J=>((idx x0 x2).bind fun v0=>
  (bif (decide ((List.length x0:Int)=0)) then
  none
  else
  ((idx x0 (Int.tmod (IntKind.wrap .i64 (x2+1)) (List.length x0:Int))).bind fun v1=>
  ((ref10_cross m v0 v1 x3).bind fun r2=>
  (bif (r2==0) then
  ((ref10_between m (Dt.I x3 0) (Dt.I v0 0) (Dt.I v1 0)).bind fun r3=>
  (bif r3 then
  ((ref10_between m (Dt.I x3 1) (Dt.I v0 1) (Dt.I v1 1)).bind fun r4=>
  (jj J 0 8 0 (s58_3 x0 x1 x2 r2 r4 x3 v0 v1) (e58 J m w58_4 [M1])))
  else
  (jj J 0 8 0 (s58_3 x0 x1 x2 r2 false x3 v0 v1) (e58 J m w58_4 [M1]))))
  else
  (jj J 0 8 0 (s58_3 x0 x1 x2 r2 false x3 v0 v1) (e58 J m w58_4 [M1])))))))) (fun J=>by kernel_rfl) (by simp only[jj_eq,ref10_polygon_j3_eq m M1 rec1 h1];rfl)
theorem ref10_polygon_j7_eq m x0:e58 jn m [1,1,1] [] (s58_7 x0)=ref10_polygon_j7 m x0:=
 tre (g:=fun J=>some x0) (fun J=>by kernel_rfl) (by rfl)
theorem ref10_polygon_l1_eq m:∀M1 x0 x1 x2 x3,l58 jn m w58_0 [] M1 (s58_6 x0 x1 x2 x3)=ref10_polygon_l1 m M1 x0 x1 x2 x3
 |0,_,_,_,_=>rfl
 | M1+1,x0,x1,x2,x3=>
   trl (g:=fun J=>(bif (decide (x2<(List.length x0:Int))) then
  (jj J 0 5 0 (s58_6 x0 x1 x2 x3) (e58 J m w58_5 [M1]))
   else
  (jj J 0 11 0 (s58_7 x1) (e58 J m [1,1,1] [])))) (fun J=>by kernel_rfl) (by simp only[jj_eq,ref10_polygon_j2_eq m M1 (ref10_polygon_l1 m M1) (ref10_polygon_l1_eq m M1),ref10_polygon_j7_eq m];rfl)
theorem ref10_polygon_j0_eq m x0 x1 x2 x3:e58 jn m [1,1,0,1] [] (s58_6 x0 x1 x2 x3)=ref10_polygon_j0 m x0 x1 x2 x3:=
 tre (g:=fun J=>(jj J 1 3 (Nat.succ m) (s58_6 x0 x1 x2 x3) (l58 J m w58_0 [] (Nat.succ m)))) (fun J=>by kernel_rfl) (by simp only[jj_eq,ref10_polygon_l1_eq m];rfl)
theorem ref10_polygon_eq m a0 a1:e58 jn m [] [] ⟨[(.dat 47 (.lst a0)),(.dat 90 a1)],[],0⟩=ref10_polygon (m+1) a0 a1:=
 tre (g:=fun J=>(jj J 0 3 0 (s58_6 a0 false 0 a1) (e58 J m [1,1,0,1] []))) (fun J=>by kernel_rfl) (by simp only[jj_eq,ref10_polygon_j0_eq m];rfl)
noncomputable def e39 (J:Nat→Nat→Nat→St→Option Bool→Option Bool) (m:Nat) (p ms:List Nat) (σ:St):=evAt Tryz.prog env (ct m) J (m+1) 128 63 Tryz.f128 d5 p ms σ
noncomputable def l39 (J:Nat→Nat→Nat→St→Option Bool→Option Bool) (m:Nat) (p ms:List Nat) (M:Nat) (σ:St):=loopAt Tryz.prog env (ct m) J (m+1) 128 63 Tryz.f128 d5 p ms M σ
noncomputable def s39_2 (x0 x1:Dt):St:=⟨tsOf [(2,(.ptr 0 [] 0)),(3,(.ptr 1 [] 0))],[(.box 49 (.dat 49 x0)),(.box 90 (.dat 90 x1))],0⟩
noncomputable def s39_0 (x0:Bool) (x1 x2:Dt):St:=⟨tsOf [(2,(.ptr 0 [] 0)),(3,(.ptr 1 [] 0)),(12,(.dat 4 (.bool x0)))],[(.box 49 (.dat 49 x1)),(.box 90 (.dat 90 x2))],0⟩
theorem ref10_Inside_j2_eq m x0 x1:e39 jn m [1,1,1] [] (s39_2 x0 x1)=ref10_Inside_j2 m x0 x1:=
 tre (g:=fun J=>((ref10_polygon m (Dt.L x0 1) x1).bind fun r9=>
  some r9)) (fun J=>by kernel_rfl) (by rfl)
theorem ref10_Inside_j1_eq m x0 x1:e39 jn m [1,1] [] (s39_2 x0 x1)=ref10_Inside_j1 m x0 x1:=
 tre (g:=fun J=>(bif ((Dt.I x0 0)==1) then
  ((idx (Dt.L x0 1) 0).bind fun v1=>
  ((idx (Dt.L x0 1) 1).bind fun v2=>
  ((ref10_between m (Dt.I x1 0) (Dt.I v1 0) (Dt.I v2 0)).bind fun r3=>
  (bif r3 then
  ((idx (Dt.L x0 1) 0).bind fun v4=>
  ((idx (Dt.L x0 1) 1).bind fun v5=>
  ((ref10_between m (Dt.I x1 1) (Dt.I v4 1) (Dt.I v5 1)).bind fun r6=>
  some r6)))
  else
  some false))))
   else
  (bif ((Dt.I x0 0)==2) then
  ((idx (Dt.L x0 1) 0).bind fun v7=>
  ((ref10_Distance m v7 x1).bind fun r8=>
  some (decide (r8≤(IntKind.wrap .i64 ((Dt.I x0 2)*(Dt.I x0 2)))))))
  else
  (jj J 0 8 0 (s39_2 x0 x1) (e39 J m [1,1,1] []))))) (fun J=>by kernel_rfl) (by simp only[jj_eq,ref10_Inside_j2_eq m];rfl)
theorem ref10_Inside_j0_eq m x0 x1 x2:e39 jn m [1,0,1] [] (s39_0 x0 x1 x2)=ref10_Inside_j0 m x0 x1 x2:=
 tre (g:=fun J=>(bif x0 then
  some false
   else
  (jj J 0 3 0 (s39_2 x1 x2) (e39 J m [1,1] [])))) (fun J=>by kernel_rfl) (by simp only[jj_eq,ref10_Inside_j1_eq m];rfl)
theorem ref10_Inside_eq m a0 a1:e39 jn m [] [] ⟨[(.dat 49 a0),(.dat 90 a1)],[],0⟩=ref10_Inside (m+1) a0 a1:=
 tre (g:=fun J=>((ref10_Valid m a0).bind fun r0=>
  (bif (r0 !=0) then
  (jj J 0 2 0 (s39_0 true a0 a1) (e39 J m [1,0,1] []))
  else
  ((ref10_Is m a1).bind fun r10=>
  (jj J 0 2 0 (s39_0 (Bool.not r10) a0 a1) (e39 J m [1,0,1] [])))))) (fun J=>by kernel_rfl) (by simp only[jj_eq,ref10_Inside_j0_eq m];rfl)
end Go.Proofs.YtameompfdamfpaaGreatDoor
