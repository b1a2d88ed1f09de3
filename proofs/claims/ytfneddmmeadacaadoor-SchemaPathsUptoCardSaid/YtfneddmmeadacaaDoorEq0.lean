/- Generated: each function's run in the abstract machine is its shallow function. -/
import Derived.Test.YtfneddmmeadacaaDoorCt
import Derived.Test.YtfneddmmeadacaaDoorAmEnv
import Derived.KernelRfl
set_option linter.unusedVariables false
set_option linter.unusedSimpArgs false
namespace Go.Proofs.YtfneddmmeadacaaDoor
open Go.Am
set_option maxRecDepth 100000
noncomputable def d7 (q:Res):Option Int:=match q with
 |(.dat T0 x0,[])=>bif Nat.beq T0 3 then some x0.toInt else none
 |_=>none
def w7_0:List Nat:=[1,1,0,1,0]
def w7_1:List Nat:=[1,1,0,1,0,0,1,1]
def w7_2:List Nat:=[1,1,0,1,0,0,1]
def w7_3:List Nat:=[1,1,1,0,1,0]
def w7_4:List Nat:=[1,1,1,0,1,0,0,1,1]
def w7_5:List Nat:=[1,1,1,0,1,0,0,1]
def w7_6:List Nat:=[1,1,1,0,1]
theorem d7_sim {b:Res} {r:Int} (h:d7 b=some r):Sim Tryd.prog b ((.dat 3 (.int r)),[]):=by
 unfold d7 at h
 split at h
 ·obtain⟨hc,h2⟩:=bif_some h
  cases h2
  have e0:=beq_eq hc
  subst e0
  exact Sim.of (.of (.dat (.int Tryd.underlying3)) rfl rfl) .nil
 ·cases h
noncomputable def e7 (J:Nat→Nat→Nat→St→Option Int→Option Int) (m:Nat) (p ms:List Nat) (σ:St):=evAt Tryd.prog env (ct m) J (m+1) 7 56 Tryd.f7 d7 p ms σ
noncomputable def l7 (J:Nat→Nat→Nat→St→Option Int→Option Int) (m:Nat) (p ms:List Nat) (M:Nat) (σ:St):=loopAt Tryd.prog env (ct m) J (m+1) 7 56 Tryd.f7 d7 p ms M σ
noncomputable def s7_3 (x0 x1 x2:Int) (x3:Dt):St:=⟨tsOf [(1,(.dat 3 (.int x0))),(2,(.ptr 0 [] 0)),(5,(.dat 3 (.int x1))),(6,(.dat 3 (.int x2)))],[(.box 30 (.dat 30 x3))],0⟩
noncomputable def s7_8 (x0 x1 x2:Int) (x3:Dt):St:=⟨tsOf [(1,(.dat 3 (.int x0))),(2,(.ptr 0 [] 0)),(5,(.dat 3 (.int x1))),(7,(.dat 3 (.int x2)))],[(.box 30 (.dat 30 x3))],0⟩
noncomputable def s7_9 (x0:Int):St:=⟨tsOf [(5,(.dat 3 (.int x0)))],[],0⟩
noncomputable def s7_4 (x0 x1:Int) (x2:Dt):St:=⟨tsOf [(1,(.dat 3 (.int x0))),(2,(.ptr 0 [] 0)),(5,(.dat 3 (.int x1)))],[(.box 30 (.dat 30 x2))],0⟩
theorem ref14_Count_j3_eq (m:Nat) (M1:Nat) (rec1:Int→Int→Int→Dt→Option Int) (h1:∀(x0 x1 x2:Int) (x3:Dt),l7 jn m w7_0 [] M1 (s7_3 x0 x1 x2 x3)=rec1 x0 x1 x2 x3) (x0 x1 x2:Int) (x3:Dt):e7 jn m w7_1 [M1] (s7_3 x0 x1 x2 x3)=ref14_Count_j3 m (ref14_Count m) rec1 x0 x1 x2 x3:=by
 have h:∀J,e7 J m w7_1 [M1] (s7_3 x0 x1 x2 x3)=
  (J 1 3 M1 (s7_3 x0 x1 (IntKind.wrap .i64 (x2+1)) x3) (l7 J m w7_0 [] M1 (s7_3 x0 x1 (IntKind.wrap .i64 (x2+1)) x3))):=fun J=>by kernel_rfl
 exact(h jn).trans (by
  simp only[jn_eq,h1]
  rfl)
theorem ref14_Count_j2_eq (m:Nat) (M1:Nat) (rec1:Int→Int→Int→Dt→Option Int) (h1:∀(x0 x1 x2:Int) (x3:Dt),l7 jn m w7_0 [] M1 (s7_3 x0 x1 x2 x3)=rec1 x0 x1 x2 x3) (x0 x1 x2:Int) (x3:Dt):e7 jn m w7_2 [M1] (s7_3 x0 x1 x2 x3)=ref14_Count_j2 m (ref14_Count m) rec1 x0 x1 x2 x3:=by
 have h:∀J,e7 J m w7_2 [M1] (s7_3 x0 x1 x2 x3)=
   ((idx (Dt.L x3 9) x2).bind fun v0=>
  ((ref14_Count m (Dt.fld v0 1) (IntKind.wrap .i64 (x0-x1))).bind fun r1=>
  (J 0 4 0 (s7_3 x0 (IntKind.wrap .i64 (x1+r1)) x2 x3) (e7 J m w7_1 [M1] (s7_3 x0 (IntKind.wrap .i64 (x1+r1)) x2 x3))))):=fun J=>by kernel_rfl
 exact(h jn).trans (by
   simp only[jn_eq,ref14_Count_j3_eq m M1 rec1 h1]
   rfl)
theorem ref14_Count_j8_eq (m:Nat) (M6:Nat) (rec6:Int→Int→Int→Dt→Option Int) (h6:∀(x0 x1 x2:Int) (x3:Dt),l7 jn m w7_3 [] M6 (s7_8 x0 x1 x2 x3)=rec6 x0 x1 x2 x3) (x0 x1 x2:Int) (x3:Dt):e7 jn m w7_4 [M6] (s7_8 x0 x1 x2 x3)=ref14_Count_j8 m (ref14_Count m) rec6 x0 x1 x2 x3:=by
 have h:∀J,e7 J m w7_4 [M6] (s7_8 x0 x1 x2 x3)=
  (J 1 7 M6 (s7_8 x0 x1 (IntKind.wrap .i64 (x2+1)) x3) (l7 J m w7_3 [] M6 (s7_8 x0 x1 (IntKind.wrap .i64 (x2+1)) x3))):=fun J=>by kernel_rfl
 exact(h jn).trans (by
  simp only[jn_eq,h6]
  rfl)
theorem ref14_Count_j7_eq (m:Nat) (M6:Nat) (rec6:Int→Int→Int→Dt→Option Int) (h6:∀(x0 x1 x2:Int) (x3:Dt),l7 jn m w7_3 [] M6 (s7_8 x0 x1 x2 x3)=rec6 x0 x1 x2 x3) (x0 x1 x2:Int) (x3:Dt):e7 jn m w7_5 [M6] (s7_8 x0 x1 x2 x3)=ref14_Count_j7 m (ref14_Count m) rec6 x0 x1 x2 x3:=by
 have h:∀J,e7 J m w7_5 [M6] (s7_8 x0 x1 x2 x3)=
   ((idx (Dt.L x3 11) x2).bind fun v2=>
  ((ref14_Count m v2 (IntKind.wrap .i64 (x0-x1))).bind fun r3=>
  (J 0 8 0 (s7_8 x0 (IntKind.wrap .i64 (x1+r3)) x2 x3) (e7 J m w7_4 [M6] (s7_8 x0 (IntKind.wrap .i64 (x1+r3)) x2 x3))))):=fun J=>by kernel_rfl
 exact(h jn).trans (by
   simp only[jn_eq,ref14_Count_j8_eq m M6 rec6 h6]
   rfl)
theorem ref14_Count_j9_eq (m:Nat) (x0:Int):e7 jn m [1,1,1,1] [] (s7_9 x0)=ref14_Count_j9 m (ref14_Count m) x0:=by
 have h:∀J,e7 J m [1,1,1,1] [] (s7_9 x0)=
  some x0:=fun J=>by kernel_rfl
 exact(h jn).trans (rfl)
theorem ref14_Count_l6_eq (m:Nat):∀(M6:Nat) (x0 x1 x2:Int) (x3:Dt),l7 jn m w7_3 [] M6 (s7_8 x0 x1 x2 x3)=ref14_Count_l6 m (ref14_Count m) M6 x0 x1 x2 x3
 |0,_,_,_,_=>rfl
 | M6+1,x0,x1,x2,x3=>by
   have h:∀J,l7 J m w7_3 [] (M6+1) (s7_8 x0 x1 x2 x3)=
   (bif (decide (x2<(List.length (Dt.L x3 11):Int))) then
  (bif (decide (x1<x0)) then
  (J 0 9 0 (s7_8 x0 x1 x2 x3) (e7 J m w7_5 [M6] (s7_8 x0 x1 x2 x3)))
  else
  (J 0 10 0 (s7_9 x1) (e7 J m [1,1,1,1] [] (s7_9 x1))))
   else
  (J 0 10 0 (s7_9 x1) (e7 J m [1,1,1,1] [] (s7_9 x1)))):=fun J=>by kernel_rfl
   refine(h jn).trans ?_
   simp only[jn_eq,ref14_Count_j7_eq m M6 (ref14_Count_l6 m (ref14_Count m) M6) (fun x0 x1 x2 x3=>ref14_Count_l6_eq m M6 x0 x1 x2 x3),ref14_Count_j9_eq m]
   rfl
theorem ref14_Count_j5_eq (m:Nat) (x0 x1 x2:Int) (x3:Dt):e7 jn m w7_6 [] (s7_8 x0 x1 x2 x3)=ref14_Count_j5 m (ref14_Count m) x0 x1 x2 x3:=by
 have h:∀J,e7 J m w7_6 [] (s7_8 x0 x1 x2 x3)=
  (J 1 7 (Nat.succ m) (s7_8 x0 x1 x2 x3) (l7 J m w7_3 [] (Nat.succ m) (s7_8 x0 x1 x2 x3))):=fun J=>by kernel_rfl
 exact(h jn).trans (by
  simp only[jn_eq,ref14_Count_l6_eq m]
  rfl)
theorem ref14_Count_j4_eq (m:Nat) (x0 x1:Int) (x2:Dt):e7 jn m [1,1,1] [] (s7_4 x0 x1 x2)=ref14_Count_j4 m (ref14_Count m) x0 x1 x2:=by
 have h:∀J,e7 J m [1,1,1] [] (s7_4 x0 x1 x2)=
  (J 0 7 0 (s7_8 x0 x1 0 x2) (e7 J m w7_6 [] (s7_8 x0 x1 0 x2))):=fun J=>by kernel_rfl
 exact(h jn).trans (by
  simp only[jn_eq,ref14_Count_j5_eq m]
  rfl)
theorem ref14_Count_l1_eq (m:Nat):∀(M1:Nat) (x0 x1 x2:Int) (x3:Dt),l7 jn m w7_0 [] M1 (s7_3 x0 x1 x2 x3)=ref14_Count_l1 m (ref14_Count m) M1 x0 x1 x2 x3
 |0,_,_,_,_=>rfl
 | M1+1,x0,x1,x2,x3=>by
   have h:∀J,l7 J m w7_0 [] (M1+1) (s7_3 x0 x1 x2 x3)=
   (bif (decide (x2<(List.length (Dt.L x3 9):Int))) then
  (bif (decide (x1<x0)) then
  (J 0 5 0 (s7_3 x0 x1 x2 x3) (e7 J m w7_2 [M1] (s7_3 x0 x1 x2 x3)))
  else
  (J 0 6 0 (s7_4 x0 x1 x3) (e7 J m [1,1,1] [] (s7_4 x0 x1 x3))))
   else
  (J 0 6 0 (s7_4 x0 x1 x3) (e7 J m [1,1,1] [] (s7_4 x0 x1 x3)))):=fun J=>by kernel_rfl
   refine(h jn).trans ?_
   simp only[jn_eq,ref14_Count_j2_eq m M1 (ref14_Count_l1 m (ref14_Count m) M1) (fun x0 x1 x2 x3=>ref14_Count_l1_eq m M1 x0 x1 x2 x3),ref14_Count_j4_eq m]
   rfl
theorem ref14_Count_j0_eq (m:Nat) (x0 x1 x2:Int) (x3:Dt):e7 jn m [1,1,0,1] [] (s7_3 x0 x1 x2 x3)=ref14_Count_j0 m (ref14_Count m) x0 x1 x2 x3:=by
 have h:∀J,e7 J m [1,1,0,1] [] (s7_3 x0 x1 x2 x3)=
  (J 1 3 (Nat.succ m) (s7_3 x0 x1 x2 x3) (l7 J m w7_0 [] (Nat.succ m) (s7_3 x0 x1 x2 x3))):=fun J=>by kernel_rfl
 exact(h jn).trans (by
  simp only[jn_eq,ref14_Count_l1_eq m]
  rfl)
theorem ref14_Count_eq (m:Nat) (a0:Dt) (a1:Int):e7 jn m [] [] ⟨[(.dat 30 a0),(.dat 3 (.int a1))],[],0⟩=ref14_Count (m+1) a0 a1:=by
 have h:∀J,e7 J m [] [] ⟨[(.dat 30 a0),(.dat 3 (.int a1))],[],0⟩=
  (J 0 3 0 (s7_3 a1 1 0 a0) (e7 J m [1,1,0,1] [] (s7_3 a1 1 0 a0))):=fun J=>by kernel_rfl
 refine(h jn).trans ?_
 simp only[jn_eq,ref14_Count_j0_eq m]
 rfl
noncomputable def d10 (q:Res):Option Bool:=match q with
 |(.dat T0 x0,[])=>bif Nat.beq T0 4 then some x0.toBool else none
 |_=>none
theorem d10_sim {b:Res} {r:Bool} (h:d10 b=some r):Sim Tryd.prog b ((.dat 4 (.bool r)),[]):=by
 unfold d10 at h
 split at h
 ·obtain⟨hc,h2⟩:=bif_some h
  cases h2
  have e0:=beq_eq hc
  subst e0
  exact Sim.of (.of (.dat (.bool Tryd.underlying4)) rfl rfl) .nil
 ·cases h
noncomputable def e10 (J:Nat→Nat→Nat→St→Option Bool→Option Bool) (m:Nat) (p ms:List Nat) (σ:St):=evAt Tryd.prog env (ct m) J (m+1) 41 22 Tryd.f41 d10 p ms σ
noncomputable def l10 (J:Nat→Nat→Nat→St→Option Bool→Option Bool) (m:Nat) (p ms:List Nat) (M:Nat) (σ:St):=loopAt Tryd.prog env (ct m) J (m+1) 41 22 Tryd.f41 d10 p ms M σ
theorem schema_hasKind_eq (m:Nat) (a0 a1:Int):e10 jn m [] [] ⟨[(.dat 3 (.int a0)),(.dat 3 (.int a1))],[],0⟩=schema_hasKind (m+1) a0 a1:=by
 have h:∀J,e10 J m [] [] ⟨[(.dat 3 (.int a0)),(.dat 3 (.int a1))],[],0⟩=
   (bif (a0==0) then
  some true
   else
  (bif (decide (0≤a1)) then
  (bif (decide (a1≤11)) then
  (bif (decide (0≤a1)) then
  some ((andI IntKind.i64 (shrI IntKind.i64 a0 a1) 1)==1)
  else
  none)
  else
  some false)
  else
  some false)):=fun J=>by kernel_rfl
 refine(h jn).trans ?_
 rfl
noncomputable def d12 (q:Res):Option (List Dt):=match q with
 |(.dat T0 x0,[])=>bif Nat.beq T0 26 then some x0.toLst else none
 |_=>none
def w12_0:List Nat:=[1,1,0,1,0]
def w12_1:List Nat:=[1,1,0,1,0,0,1,1,1]
def w12_2:List Nat:=[1,1,0,1,0,0,1,1]
def w12_3:List Nat:=[1,1,1,1,0,1,0]
def w12_4:List Nat:=[1,1,1,1,0,1,0,0,1,1,1]
def w12_5:List Nat:=[1,1,1,1,0,1,0,0,1,1]
def w12_6:List Nat:=[1,1,1,1,1]
def w12_7:List Nat:=[1,1,1,1,0,1]
theorem d12_sim {b:Res} {r:List Dt} (h:d12 b=some r):Sim Tryd.prog b ((.dat 26 (.lst r)),[]):=by
 unfold d12 at h
 split at h
 ·obtain⟨hc,h2⟩:=bif_some h
  cases h2
  have e0:=beq_eq hc
  subst e0
  exact Sim.of (.of (.dat (.lst Tryd.underlying26)) rfl rfl) .nil
 ·cases h
noncomputable def e12 (J:Nat→Nat→Nat→St→Option (List Dt)→Option (List Dt)) (m:Nat) (p ms:List Nat) (σ:St):=evAt Tryd.prog env (ct m) J (m+1) 38 36 Tryd.f38 d12 p ms σ
noncomputable def l12 (J:Nat→Nat→Nat→St→Option (List Dt)→Option (List Dt)) (m:Nat) (p ms:List Nat) (M:Nat) (σ:St):=loopAt Tryd.prog env (ct m) J (m+1) 38 36 Tryd.f38 d12 p ms M σ
noncomputable def s12_3 (x0:List Dt) (x1:Int) (x2:List Dt) (x3 x4:Int):St:=⟨tsOf [(0,(.dat 94 (.lst x0))),(3,(.dat 3 (.int x1))),(9,(.dat 94 (.lst x2))),(10,(.dat 3 (.int x3))),(11,(.dat 3 (.int x4)))],[],0⟩
noncomputable def s12_8 (x0:List Dt) (x1 x2:Int) (x3:List Dt):St:=⟨tsOf [(6,(.row 0)),(25,(.dat 94 (.lst x0))),(26,(.dat 3 (.int x1))),(27,(.dat 3 (.int x2)))],[(.row 26 x3)],0⟩
noncomputable def s12_9 (x0:List Dt):St:=⟨tsOf [(6,(.row 0))],[(.row 26 x0)],0⟩
noncomputable def s12_4 (x0:List Dt) (x1:Int):St:=⟨tsOf [(0,(.dat 94 (.lst x0))),(3,(.dat 3 (.int x1)))],[],0⟩
theorem slices_Concat_j3_eq (m:Nat) (M1:Nat) (rec1:List Dt→Int→List Dt→Int→Int→Option (List Dt)) (h1:∀(x0:List Dt) (x1:Int) (x2:List Dt) (x3 x4:Int),l12 jn m w12_0 [] M1 (s12_3 x0 x1 x2 x3 x4)=rec1 x0 x1 x2 x3 x4) (x0:List Dt) (x1:Int) (x2:List Dt) (x3 x4:Int):e12 jn m w12_1 [M1] (s12_3 x0 x1 x2 x3 x4)=slices_Concat_j3 m rec1 x0 x1 x2 x3 x4:=by
 have h:∀J,e12 J m w12_1 [M1] (s12_3 x0 x1 x2 x3 x4)=
  (J 1 3 M1 (s12_3 x0 x1 x2 x3 (IntKind.wrap .i64 (x4+1))) (l12 J m w12_0 [] M1 (s12_3 x0 x1 x2 x3 (IntKind.wrap .i64 (x4+1))))):=fun J=>by kernel_rfl
 exact(h jn).trans (by
  simp only[jn_eq,h1]
  rfl)
theorem slices_Concat_j2_eq (m:Nat) (M1:Nat) (rec1:List Dt→Int→List Dt→Int→Int→Option (List Dt)) (h1:∀(x0:List Dt) (x1:Int) (x2:List Dt) (x3 x4:Int),l12 jn m w12_0 [] M1 (s12_3 x0 x1 x2 x3 x4)=rec1 x0 x1 x2 x3 x4) (x0:List Dt) (x1:Int) (x2:List Dt) (x3 x4:Int):e12 jn m w12_2 [M1] (s12_3 x0 x1 x2 x3 x4)=slices_Concat_j2 m rec1 x0 x1 x2 x3 x4:=by
 have h:∀J,e12 J m w12_2 [M1] (s12_3 x0 x1 x2 x3 x4)=
   ((idx x2 x4).bind fun v0=>
  (bif (decide ((IntKind.wrap .i64 (x1+(List.length (Dt.toLst v0):Int)))<0)) then
  none
  else
  (J 0 8 0 (s12_3 x0 (IntKind.wrap .i64 (x1+(List.length (Dt.toLst v0):Int))) x2 x3 x4) (e12 J m w12_1 [M1] (s12_3 x0 (IntKind.wrap .i64 (x1+(List.length (Dt.toLst v0):Int))) x2 x3 x4))))):=fun J=>by kernel_rfl
 exact(h jn).trans (by
   simp only[jn_eq,slices_Concat_j3_eq m M1 rec1 h1]
   rfl)
theorem slices_Concat_j8_eq (m:Nat) (M6:Nat) (rec6:List Dt→Int→Int→List Dt→Option (List Dt)) (h6:∀(x0:List Dt) (x1 x2:Int) (x3:List Dt),l12 jn m w12_3 [] M6 (s12_8 x0 x1 x2 x3)=rec6 x0 x1 x2 x3) (x0:List Dt) (x1 x2:Int) (x3:List Dt):e12 jn m w12_4 [M6] (s12_8 x0 x1 x2 x3)=slices_Concat_j8 m rec6 x0 x1 x2 x3:=by
 have h:∀J,e12 J m w12_4 [M6] (s12_8 x0 x1 x2 x3)=
  (J 1 11 M6 (s12_8 x0 x1 (IntKind.wrap .i64 (x2+1)) x3) (l12 J m w12_3 [] M6 (s12_8 x0 x1 (IntKind.wrap .i64 (x2+1)) x3))):=fun J=>by kernel_rfl
 exact(h jn).trans (by
  simp only[jn_eq,h6]
  rfl)
theorem slices_Concat_j7_eq (m:Nat) (M6:Nat) (rec6:List Dt→Int→Int→List Dt→Option (List Dt)) (h6:∀(x0:List Dt) (x1 x2:Int) (x3:List Dt),l12 jn m w12_3 [] M6 (s12_8 x0 x1 x2 x3)=rec6 x0 x1 x2 x3) (x0:List Dt) (x1 x2:Int) (x3:List Dt):e12 jn m w12_5 [M6] (s12_8 x0 x1 x2 x3)=slices_Concat_j7 m rec6 x0 x1 x2 x3:=by
 have h:∀J,e12 J m w12_5 [M6] (s12_8 x0 x1 x2 x3)=
   ((idx x0 x2).bind fun v2=>
  ((app x3 (Dt.toLst v2)).bind fun v3=>
  (J 0 14 0 (s12_8 x0 x1 x2 v3) (e12 J m w12_4 [M6] (s12_8 x0 x1 x2 v3))))):=fun J=>by kernel_rfl
 exact(h jn).trans (by
   simp only[jn_eq,slices_Concat_j8_eq m M6 rec6 h6]
   rfl)
theorem slices_Concat_j9_eq (m:Nat) (x0:List Dt):e12 jn m w12_6 [] (s12_9 x0)=slices_Concat_j9 m x0:=by
 have h:∀J,e12 J m w12_6 [] (s12_9 x0)=
  some x0:=fun J=>by kernel_rfl
 exact(h jn).trans (rfl)
theorem slices_Concat_l6_eq (m:Nat):∀(M6:Nat) (x0:List Dt) (x1 x2:Int) (x3:List Dt),l12 jn m w12_3 [] M6 (s12_8 x0 x1 x2 x3)=slices_Concat_l6 m M6 x0 x1 x2 x3
 |0,_,_,_,_=>rfl
 | M6+1,x0,x1,x2,x3=>by
   have h:∀J,l12 J m w12_3 [] (M6+1) (s12_8 x0 x1 x2 x3)=
   (bif (decide (x2<x1)) then
  (J 0 12 0 (s12_8 x0 x1 x2 x3) (e12 J m w12_5 [M6] (s12_8 x0 x1 x2 x3)))
   else
  (J 0 15 0 (s12_9 x3) (e12 J m w12_6 [] (s12_9 x3)))):=fun J=>by kernel_rfl
   refine(h jn).trans ?_
   simp only[jn_eq,slices_Concat_j7_eq m M6 (slices_Concat_l6 m M6) (fun x0 x1 x2 x3=>slices_Concat_l6_eq m M6 x0 x1 x2 x3),slices_Concat_j9_eq m]
   rfl
theorem slices_Concat_j5_eq (m:Nat) (x0:List Dt) (x1 x2:Int) (x3:List Dt):e12 jn m w12_7 [] (s12_8 x0 x1 x2 x3)=slices_Concat_j5 m x0 x1 x2 x3:=by
 have h:∀J,e12 J m w12_7 [] (s12_8 x0 x1 x2 x3)=
  (J 1 11 (Nat.succ m) (s12_8 x0 x1 x2 x3) (l12 J m w12_3 [] (Nat.succ m) (s12_8 x0 x1 x2 x3))):=fun J=>by kernel_rfl
 exact(h jn).trans (by
  simp only[jn_eq,slices_Concat_l6_eq m]
  rfl)
theorem slices_Concat_j4_eq (m:Nat) (x0:List Dt) (x1:Int):e12 jn m [1,1,1] [] (s12_4 x0 x1)=slices_Concat_j4 m x0 x1:=by
 have h:∀J,e12 J m [1,1,1] [] (s12_4 x0 x1)=
   ((slices_Grow x1).bind fun r1=>
  (J 0 11 0 (s12_8 x0 (List.length x0:Int) 0 r1) (e12 J m w12_7 [] (s12_8 x0 (List.length x0:Int) 0 r1)))):=fun J=>by kernel_rfl
 exact(h jn).trans (by
   simp only[jn_eq,slices_Concat_j5_eq m]
   rfl)
theorem slices_Concat_l1_eq (m:Nat):∀(M1:Nat) (x0:List Dt) (x1:Int) (x2:List Dt) (x3 x4:Int),l12 jn m w12_0 [] M1 (s12_3 x0 x1 x2 x3 x4)=slices_Concat_l1 m M1 x0 x1 x2 x3 x4
 |0,_,_,_,_,_=>rfl
 | M1+1,x0,x1,x2,x3,x4=>by
   have h:∀J,l12 J m w12_0 [] (M1+1) (s12_3 x0 x1 x2 x3 x4)=
   (bif (decide (x4<x3)) then
  (J 0 4 0 (s12_3 x0 x1 x2 x3 x4) (e12 J m w12_2 [M1] (s12_3 x0 x1 x2 x3 x4)))
   else
  (J 0 9 0 (s12_4 x0 x1) (e12 J m [1,1,1] [] (s12_4 x0 x1)))):=fun J=>by kernel_rfl
   refine(h jn).trans ?_
   simp only[jn_eq,slices_Concat_j2_eq m M1 (slices_Concat_l1 m M1) (fun x0 x1 x2 x3 x4=>slices_Concat_l1_eq m M1 x0 x1 x2 x3 x4),slices_Concat_j4_eq m]
   rfl
theorem slices_Concat_j0_eq (m:Nat) (x0:List Dt) (x1:Int) (x2:List Dt) (x3 x4:Int):e12 jn m [1,1,0,1] [] (s12_3 x0 x1 x2 x3 x4)=slices_Concat_j0 m x0 x1 x2 x3 x4:=by
 have h:∀J,e12 J m [1,1,0,1] [] (s12_3 x0 x1 x2 x3 x4)=
  (J 1 3 (Nat.succ m) (s12_3 x0 x1 x2 x3 x4) (l12 J m w12_0 [] (Nat.succ m) (s12_3 x0 x1 x2 x3 x4))):=fun J=>by kernel_rfl
 exact(h jn).trans (by
  simp only[jn_eq,slices_Concat_l1_eq m]
  rfl)
theorem slices_Concat_eq (m:Nat) (a0:List Dt):e12 jn m [] [] ⟨[(.dat 94 (.lst a0))],[],0⟩=slices_Concat (m+1) a0:=by
 have h:∀J,e12 J m [] [] ⟨[(.dat 94 (.lst a0))],[],0⟩=
  (J 0 3 0 (s12_3 a0 0 a0 (List.length a0:Int) 0) (e12 J m [1,1,0,1] [] (s12_3 a0 0 a0 (List.length a0:Int) 0))):=fun J=>by kernel_rfl
 refine(h jn).trans ?_
 simp only[jn_eq,slices_Concat_j0_eq m]
 rfl
noncomputable def d11 (q:Res):Option (List Dt×List Dt×List Dt):=match q with
 |(.tup [],[.box T0 (.row n1),.gone,.box T2 (.dat T3 x3),.frz T4 x4,.row T5 x5])=>bif (Nat.beq T0 38&&(Nat.beq n1 4&&(Nat.beq T2 26&&(Nat.beq T3 26&&(Nat.beq T4 26&&Nat.beq T5 38))))) then some (x3.toLst,x4,x5) else none
 |_=>none
theorem d11_sim {b:Res} {r:List Dt×List Dt×List Dt} (h:d11 b=some r):Sim Tryd.prog b ((.tup []),[(.box 38 (.row 4)),.gone,(.box 26 (.dat 26 (.lst r.1))),(.frz 26 r.2.1),(.row 38 r.2.2)]):=by
 unfold d11 at h
 split at h
 ·obtain⟨hc,h2⟩:=bif_some h
  cases h2
  have e0:=beq_eq (and_l hc)
  have e1:=beq_eq (and_l (and_r hc))
  have e2:=beq_eq (and_l (and_r (and_r hc)))
  have e3:=beq_eq (and_l (and_r (and_r (and_r hc))))
  have e4:=beq_eq (and_l (and_r (and_r (and_r (and_r hc)))))
  have e5:=beq_eq (and_r (and_r (and_r (and_r (and_r hc)))))
  subst e0 e1 e2 e3 e4 e5
  exact Sim.of (.tup .nil) (.cons (.box .same) (.cons .same (.cons (.box (.dat (.lst Tryd.underlying26))) (.cons .same (.cons .same .nil)))))
 ·cases h
noncomputable def e11 (J:Nat→Nat→Nat→St→Option (List Dt×List Dt×List Dt)→Option (List Dt×List Dt×List Dt)) (m:Nat) (p ms:List Nat) (σ:St):=evAt Tryd.prog env (ct m) J (m+1) 37 18 Tryd.f37 d11 p ms σ
noncomputable def l11 (J:Nat→Nat→Nat→St→Option (List Dt×List Dt×List Dt)→Option (List Dt×List Dt×List Dt)) (m:Nat) (p ms:List Nat) (M:Nat) (σ:St):=loopAt Tryd.prog env (ct m) J (m+1) 37 18 Tryd.f37 d11 p ms M σ
theorem i11_eq (m:Nat) (a0:Bool) (a1:Int) (a2 a3 a4:List Dt):e11 jn m [] [] ⟨[(.dat 4 (.bool a0)),(.dat 3 (.int a1)),(.dat 26 (.lst a2)),(.ptr 0 [] 0),(.ptr 2 [] 0)],[(.box 38 (.row 1)),(.row 38 a3),(.box 26 (.row 3)),(.row 26 a4)],4⟩=i11 (m+1) a0 a1 a2 a3 a4:=by
 have h:∀J,e11 J m [] [] ⟨[(.dat 4 (.bool a0)),(.dat 3 (.int a1)),(.dat 26 (.lst a2)),(.ptr 0 [] 0),(.ptr 2 [] 0)],[(.box 38 (.row 1)),(.row 38 a3),(.box 26 (.row 3)),(.row 26 a4)],4⟩=
   (bif a0 then
  ((slices_Concat m [(Dt.lst a4),(Dt.lst a2)]).bind fun r0=>
  ((app a3 [(Dt.agg [(Dt.lst r0),(Dt.int a1)])]).bind fun v1=>
  some (a4,a4,v1)))
   else
  some (a4,a4,a3)):=fun J=>by kernel_rfl
 refine(h jn).trans ?_
 rfl
noncomputable def d17 (q:Res):Option (List Dt×List Dt):=match q with
 |(.tup [],[.box T0 (.row n1),.gone,.box T2 (.dat T3 x3),.row T4 x4])=>bif (Nat.beq T0 38&&(Nat.beq n1 3&&(Nat.beq T2 26&&(Nat.beq T3 26&&Nat.beq T4 38)))) then some (x3.toLst,x4) else none
 |_=>none
theorem d17_sim {b:Res} {r:List Dt×List Dt} (h:d17 b=some r):Sim Tryd.prog b ((.tup []),[(.box 38 (.row 3)),.gone,(.box 26 (.dat 26 (.lst r.1))),(.row 38 r.2)]):=by
 unfold d17 at h
 split at h
 ·obtain⟨hc,h2⟩:=bif_some h
  cases h2
  have e0:=beq_eq (and_l hc)
  have e1:=beq_eq (and_l (and_r hc))
  have e2:=beq_eq (and_l (and_r (and_r hc)))
  have e3:=beq_eq (and_l (and_r (and_r (and_r hc))))
  have e4:=beq_eq (and_r (and_r (and_r (and_r hc))))
  subst e0 e1 e2 e3 e4
  exact Sim.of (.tup .nil) (.cons (.box .same) (.cons .same (.cons (.box (.dat (.lst Tryd.underlying26))) (.cons .same .nil))))
 ·cases h
noncomputable def e17 (J:Nat→Nat→Nat→St→Option (List Dt×List Dt)→Option (List Dt×List Dt)) (m:Nat) (p ms:List Nat) (σ:St):=evAt Tryd.prog env (ct m) J (m+1) 37 18 Tryd.f37 d17 p ms σ
noncomputable def l17 (J:Nat→Nat→Nat→St→Option (List Dt×List Dt)→Option (List Dt×List Dt)) (m:Nat) (p ms:List Nat) (M:Nat) (σ:St):=loopAt Tryd.prog env (ct m) J (m+1) 37 18 Tryd.f37 d17 p ms M σ
theorem i17_eq (m:Nat) (a0:Bool) (a1:Int) (a2 a3 a4:List Dt):e17 jn m [] [] ⟨[(.dat 4 (.bool a0)),(.dat 3 (.int a1)),(.dat 26 (.lst a2)),(.ptr 0 [] 0),(.ptr 2 [] 0)],[(.box 38 (.row 1)),(.row 38 a3),(.box 26 (.dat 26 (.lst a4)))],3⟩=i17 (m+1) a0 a1 a2 a3 a4:=by
 have h:∀J,e17 J m [] [] ⟨[(.dat 4 (.bool a0)),(.dat 3 (.int a1)),(.dat 26 (.lst a2)),(.ptr 0 [] 0),(.ptr 2 [] 0)],[(.box 38 (.row 1)),(.row 38 a3),(.box 26 (.dat 26 (.lst a4)))],3⟩=
   (bif a0 then
  ((slices_Concat m [(Dt.lst a4),(Dt.lst a2)]).bind fun r0=>
  ((app a3 [(Dt.agg [(Dt.lst r0),(Dt.int a1)])]).bind fun v1=>
  some (a4,v1)))
   else
  some (a4,a3)):=fun J=>by kernel_rfl
 refine(h jn).trans ?_
 rfl
noncomputable def d19 (q:Res):Option (Int×Bool):=match q with
 |(.tup [.dat T0 x0,.dat T1 x1],[])=>bif (Nat.beq T0 3&&Nat.beq T1 4) then some (x0.toInt,x1.toBool) else none
 |_=>none
def w19_0:List Nat:=[1,0,1,0,1]
theorem d19_sim {b:Res} {r:Int×Bool} (h:d19 b=some r):Sim Tryd.prog b ((.tup [(.dat 3 (.int r.1)),(.dat 4 (.bool r.2))]),[]):=by
 unfold d19 at h
 split at h
 ·obtain⟨hc,h2⟩:=bif_some h
  cases h2
  have e0:=beq_eq (and_l hc)
  have e1:=beq_eq (and_r hc)
  subst e0 e1
  exact Sim.of (.tup (.cons (.dat (.int Tryd.underlying3)) (.cons (.dat (.bool Tryd.underlying4)) .nil))) .nil
 ·cases h
noncomputable def e19 (J:Nat→Nat→Nat→St→Option (Int×Bool)→Option (Int×Bool)) (m:Nat) (p ms:List Nat) (σ:St):=evAt Tryd.prog env (ct m) J (m+1) 44 17 Tryd.f44 d19 p ms σ
noncomputable def l19 (J:Nat→Nat→Nat→St→Option (Int×Bool)→Option (Int×Bool)) (m:Nat) (p ms:List Nat) (M:Nat) (σ:St):=loopAt Tryd.prog env (ct m) J (m+1) 44 17 Tryd.f44 d19 p ms M σ
noncomputable def s19_1:St:=⟨tsOf [],[],0⟩
noncomputable def s19_0 (x0:Int) (x1:Bool) (x2:Dt):St:=⟨tsOf [(1,(.ptr 0 [] 0)),(5,(.dat 3 (.int x0))),(6,(.dat 4 (.bool x1)))],[(.box 25 (.dat 25 x2))],0⟩
theorem schema_length_j1_eq (m:Nat):e19 jn m [1,1] [] s19_1=schema_length_j1 m:=by
 have h:∀J,e19 J m [1,1] [] s19_1=
  some (0,false):=fun J=>by kernel_rfl
 exact(h jn).trans (rfl)
theorem schema_length_j0_eq (m:Nat) (x0:Int) (x1:Bool) (x2:Dt):e19 jn m w19_0 [] (s19_0 x0 x1 x2)=schema_length_j0 m x0 x1 x2:=by
 have h:∀J,e19 J m w19_0 [] (s19_0 x0 x1 x2)=
   (bif x1 then
  some ((ByteArray.size (Dt.S x2 2):Int),true)
   else
  (bif (x0==6) then
  some ((List.length (Dt.L x2 3):Int),true)
  else
  (J 0 7 0 s19_1 (e19 J m [1,1] [] s19_1)))):=fun J=>by kernel_rfl
 exact(h jn).trans (by
   simp only[jn_eq,schema_length_j1_eq m]
   rfl)
theorem schema_length_eq (m:Nat) (a0:Dt):e19 jn m [] [] ⟨[(.dat 25 a0)],[],0⟩=schema_length (m+1) a0:=by
 have h:∀J,e19 J m [] [] ⟨[(.dat 25 a0)],[],0⟩=
   (bif ((Dt.I a0 0)==4) then
  (J 0 4 0 (s19_0 (Dt.I a0 0) ((Dt.I a0 0)==4) a0) (e19 J m w19_0 [] (s19_0 (Dt.I a0 0) ((Dt.I a0 0)==4) a0)))
   else
  (J 0 4 0 (s19_0 (Dt.I a0 0) ((Dt.I a0 0)==7) a0) (e19 J m w19_0 [] (s19_0 (Dt.I a0 0) ((Dt.I a0 0)==7) a0)))):=fun J=>by kernel_rfl
 refine(h jn).trans ?_
 simp only[jn_eq,schema_length_j0_eq m]
 rfl
noncomputable def d20 (q:Res):Option (Dt×Bool):=match q with
 |(.tup [.dat T0 x0,.dat T1 x1],[])=>bif (Nat.beq T0 25&&Nat.beq T1 4) then some (x0,x1.toBool) else none
 |_=>none
def w20_0:List Nat:=[1,0,1,0,0,1,1,1]
def w20_1:List Nat:=[1,0,1,0,0,1,1]
theorem d20_sim {b:Res} {r:Dt×Bool} (h:d20 b=some r):Sim Tryd.prog b ((.tup [(.dat 25 r.1),(.dat 4 (.bool r.2))]),[]):=by
 unfold d20 at h
 split at h
 ·obtain⟨hc,h2⟩:=bif_some h
  cases h2
  have e0:=beq_eq (and_l hc)
  have e1:=beq_eq (and_r hc)
  subst e0 e1
  exact Sim.of (.tup (.cons .same (.cons (.dat (.bool Tryd.underlying4)) .nil))) .nil
 ·cases h
noncomputable def e20 (J:Nat→Nat→Nat→St→Option (Dt×Bool)→Option (Dt×Bool)) (m:Nat) (p ms:List Nat) (σ:St):=evAt Tryd.prog env (ct m) J (m+1) 45 23 Tryd.f45 d20 p ms σ
noncomputable def l20 (J:Nat→Nat→Nat→St→Option (Dt×Bool)→Option (Dt×Bool)) (m:Nat) (p ms:List Nat) (M:Nat) (σ:St):=loopAt Tryd.prog env (ct m) J (m+1) 45 23 Tryd.f45 d20 p ms M σ
noncomputable def s20_3 (x0:ByteArray) (x1:List Dt) (x2 x3:Int) (x4:Dt):St:=⟨tsOf [(1,(.dat 9 (.str x0))),(4,(.ptr 0 [] 0)),(9,(.dat 23 (.lst x1))),(10,(.dat 3 (.int x2))),(11,(.dat 3 (.int x3)))],[(.box 25 (.dat 25 x4))],0⟩
noncomputable def s20_4 (x0:Dt):St:=⟨tsOf [(4,(.ptr 0 [] 0))],[(.box 25 (.dat 25 x0))],0⟩
theorem schema_field_j3_eq (m:Nat) (M1:Nat) (rec1:ByteArray→List Dt→Int→Int→Dt→Option (Dt×Bool)) (h1:∀(x0:ByteArray) (x1:List Dt) (x2 x3:Int) (x4:Dt),l20 jn m [1,0,1,0] [] M1 (s20_3 x0 x1 x2 x3 x4)=rec1 x0 x1 x2 x3 x4) (x0:ByteArray) (x1:List Dt) (x2 x3:Int) (x4:Dt):e20 jn m w20_0 [M1] (s20_3 x0 x1 x2 x3 x4)=schema_field_j3 m rec1 x0 x1 x2 x3 x4:=by
 have h:∀J,e20 J m w20_0 [M1] (s20_3 x0 x1 x2 x3 x4)=
  (J 1 2 M1 (s20_3 x0 x1 x2 (IntKind.wrap .i64 (x3+1)) x4) (l20 J m [1,0,1,0] [] M1 (s20_3 x0 x1 x2 (IntKind.wrap .i64 (x3+1)) x4))):=fun J=>by kernel_rfl
 exact(h jn).trans (by
  simp only[jn_eq,h1]
  rfl)
theorem schema_field_j2_eq (m:Nat) (M1:Nat) (rec1:ByteArray→List Dt→Int→Int→Dt→Option (Dt×Bool)) (h1:∀(x0:ByteArray) (x1:List Dt) (x2 x3:Int) (x4:Dt),l20 jn m [1,0,1,0] [] M1 (s20_3 x0 x1 x2 x3 x4)=rec1 x0 x1 x2 x3 x4) (x0:ByteArray) (x1:List Dt) (x2 x3:Int) (x4:Dt):e20 jn m w20_1 [M1] (s20_3 x0 x1 x2 x3 x4)=schema_field_j2 m rec1 x0 x1 x2 x3 x4:=by
 have h:∀J,e20 J m w20_1 [M1] (s20_3 x0 x1 x2 x3 x4)=
   ((idx x1 x3).bind fun v0=>
  (bif ((ByteArray.toList (Dt.S v0 0))==(ByteArray.toList x0)) then
  some ((Dt.fld v0 1),true)
  else
  (J 0 6 0 (s20_3 x0 x1 x2 x3 x4) (e20 J m w20_0 [M1] (s20_3 x0 x1 x2 x3 x4))))):=fun J=>by kernel_rfl
 exact(h jn).trans (by
   simp only[jn_eq,schema_field_j3_eq m M1 rec1 h1]
   rfl)
theorem schema_field_j4_eq (m:Nat) (x0:Dt):e20 jn m [1,1] [] (s20_4 x0)=schema_field_j4 m x0:=by
 have h:∀J,e20 J m [1,1] [] (s20_4 x0)=
  some (kza2373,false):=fun J=>by kernel_rfl
 exact(h jn).trans (rfl)
theorem schema_field_l1_eq (m:Nat):∀(M1:Nat) (x0:ByteArray) (x1:List Dt) (x2 x3:Int) (x4:Dt),l20 jn m [1,0,1,0] [] M1 (s20_3 x0 x1 x2 x3 x4)=schema_field_l1 m M1 x0 x1 x2 x3 x4
 |0,_,_,_,_,_=>rfl
 | M1+1,x0,x1,x2,x3,x4=>by
   have h:∀J,l20 J m [1,0,1,0] [] (M1+1) (s20_3 x0 x1 x2 x3 x4)=
   (bif (decide (x3<x2)) then
  (J 0 3 0 (s20_3 x0 x1 x2 x3 x4) (e20 J m w20_1 [M1] (s20_3 x0 x1 x2 x3 x4)))
   else
  (J 0 7 0 (s20_4 x4) (e20 J m [1,1] [] (s20_4 x4)))):=fun J=>by kernel_rfl
   refine(h jn).trans ?_
   simp only[jn_eq,schema_field_j2_eq m M1 (schema_field_l1 m M1) (fun x0 x1 x2 x3 x4=>schema_field_l1_eq m M1 x0 x1 x2 x3 x4),schema_field_j4_eq m]
   rfl
theorem schema_field_j0_eq (m:Nat) (x0:ByteArray) (x1:List Dt) (x2 x3:Int) (x4:Dt):e20 jn m [1,0,1] [] (s20_3 x0 x1 x2 x3 x4)=schema_field_j0 m x0 x1 x2 x3 x4:=by
 have h:∀J,e20 J m [1,0,1] [] (s20_3 x0 x1 x2 x3 x4)=
  (J 1 2 (Nat.succ m) (s20_3 x0 x1 x2 x3 x4) (l20 J m [1,0,1,0] [] (Nat.succ m) (s20_3 x0 x1 x2 x3 x4))):=fun J=>by kernel_rfl
 exact(h jn).trans (by
  simp only[jn_eq,schema_field_l1_eq m]
  rfl)
theorem schema_field_eq (m:Nat) (a0:Dt) (a1:ByteArray):e20 jn m [] [] ⟨[(.dat 25 a0),(.dat 9 (.str a1))],[],0⟩=schema_field (m+1) a0 a1:=by
 have h:∀J,e20 J m [] [] ⟨[(.dat 25 a0),(.dat 9 (.str a1))],[],0⟩=
  (J 0 2 0 (s20_3 a1 (Dt.L a0 4) (List.length (Dt.L a0 4):Int) 0 kza2373) (e20 J m [1,0,1] [] (s20_3 a1 (Dt.L a0 4) (List.length (Dt.L a0 4):Int) 0 kza2373))):=fun J=>by kernel_rfl
 refine(h jn).trans ?_
 simp only[jn_eq,schema_field_j0_eq m]
 rfl
noncomputable def d23 (q:Res):Option Bool:=match q with
 |(.dat T0 x0,[])=>bif Nat.beq T0 4 then some x0.toBool else none
 |_=>none
theorem d23_sim {b:Res} {r:Bool} (h:d23 b=some r):Sim Tryd.prog b ((.dat 4 (.bool r)),[]):=by
 unfold d23 at h
 split at h
 ·obtain⟨hc,h2⟩:=bif_some h
  cases h2
  have e0:=beq_eq hc
  subst e0
  exact Sim.of (.of (.dat (.bool Tryd.underlying4)) rfl rfl) .nil
 ·cases h
noncomputable def e23 (J:Nat→Nat→Nat→St→Option Bool→Option Bool) (m:Nat) (p ms:List Nat) (σ:St):=evAt Tryd.prog env (ct m) J (m+1) 46 9 Tryd.f46 d23 p ms σ
noncomputable def l23 (J:Nat→Nat→Nat→St→Option Bool→Option Bool) (m:Nat) (p ms:List Nat) (M:Nat) (σ:St):=loopAt Tryd.prog env (ct m) J (m+1) 46 9 Tryd.f46 d23 p ms M σ
theorem i23_eq (m:Nat) (a0 a1:Dt):e23 jn m [] [] ⟨[(.dat 51 a0),(.rptr 56 a1)],[],0⟩=i23 (m+1) a0 a1:=by
 have h:∀J,e23 J m [] [] ⟨[(.dat 51 a0),(.rptr 56 a1)],[],0⟩=
  some ((ByteArray.toList (Dt.S a0 0))==(ByteArray.toList (Dt.S a1 0))):=fun J=>by kernel_rfl
 refine(h jn).trans ?_
 rfl
noncomputable def d22 (q:Res):Option Int:=match q with
 |(.dat T0 x0,[])=>bif Nat.beq T0 3 then some x0.toInt else none
 |_=>none
def w22_0:List Nat:=[1,0,1,0,0,1,1,1]
def w22_1:List Nat:=[1,0,1,0,0,1,1]
theorem d22_sim {b:Res} {r:Int} (h:d22 b=some r):Sim Tryd.prog b ((.dat 3 (.int r)),[]):=by
 unfold d22 at h
 split at h
 ·obtain⟨hc,h2⟩:=bif_some h
  cases h2
  have e0:=beq_eq hc
  subst e0
  exact Sim.of (.of (.dat (.int Tryd.underlying3)) rfl rfl) .nil
 ·cases h
noncomputable def e22 (J:Nat→Nat→Nat→St→Option Int→Option Int) (m:Nat) (p ms:List Nat) (σ:St):=evAt Tryd.prog env (ct m) J (m+1) 68 19 Tryd.f68 d22 p ms σ
noncomputable def l22 (J:Nat→Nat→Nat→St→Option Int→Option Int) (m:Nat) (p ms:List Nat) (M:Nat) (σ:St):=loopAt Tryd.prog env (ct m) J (m+1) 68 19 Tryd.f68 d22 p ms M σ
noncomputable def s22_3 (x0:List Dt) (x1:Dt) (x2 x3:Int):St:=⟨tsOf [(0,(.dat 27 (.lst x0))),(1,(.fn 46 [(.rptr 56 x1)])),(7,(.dat 3 (.int x2))),(8,(.dat 3 (.int x3)))],[],0⟩
noncomputable def s22_4:St:=⟨tsOf [],[],0⟩
theorem i22_j3_eq (m:Nat) (M1:Nat) (rec1:List Dt→Dt→Int→Int→Option Int) (h1:∀(x0:List Dt) (x1:Dt) (x2 x3:Int),l22 jn m [1,0,1,0] [] M1 (s22_3 x0 x1 x2 x3)=rec1 x0 x1 x2 x3) (x0:List Dt) (x1:Dt) (x2 x3:Int):e22 jn m w22_0 [M1] (s22_3 x0 x1 x2 x3)=i22_j3 m rec1 x0 x1 x2 x3:=by
 have h:∀J,e22 J m w22_0 [M1] (s22_3 x0 x1 x2 x3)=
  (J 1 2 M1 (s22_3 x0 x1 x2 (IntKind.wrap .i64 (x3+1))) (l22 J m [1,0,1,0] [] M1 (s22_3 x0 x1 x2 (IntKind.wrap .i64 (x3+1))))):=fun J=>by kernel_rfl
 exact(h jn).trans (by
  simp only[jn_eq,h1]
  rfl)
theorem i22_j2_eq (m:Nat) (M1:Nat) (rec1:List Dt→Dt→Int→Int→Option Int) (h1:∀(x0:List Dt) (x1:Dt) (x2 x3:Int),l22 jn m [1,0,1,0] [] M1 (s22_3 x0 x1 x2 x3)=rec1 x0 x1 x2 x3) (x0:List Dt) (x1:Dt) (x2 x3:Int):e22 jn m w22_1 [M1] (s22_3 x0 x1 x2 x3)=i22_j2 m rec1 x0 x1 x2 x3:=by
 have h:∀J,e22 J m w22_1 [M1] (s22_3 x0 x1 x2 x3)=
   ((idx x0 x3).bind fun v0=>
  ((i23 m v0 x1).bind fun r1=>
  (bif r1 then
  some x3
  else
  (J 0 6 0 (s22_3 x0 x1 x2 x3) (e22 J m w22_0 [M1] (s22_3 x0 x1 x2 x3)))))):=fun J=>by kernel_rfl
 exact(h jn).trans (by
   simp only[jn_eq,i22_j3_eq m M1 rec1 h1]
   rfl)
theorem i22_j4_eq (m:Nat):e22 jn m [1,1] [] s22_4=i22_j4 m:=by
 have h:∀J,e22 J m [1,1] [] s22_4=
  some (-1):=fun J=>by kernel_rfl
 exact(h jn).trans (rfl)
theorem i22_l1_eq (m:Nat):∀(M1:Nat) (x0:List Dt) (x1:Dt) (x2 x3:Int),l22 jn m [1,0,1,0] [] M1 (s22_3 x0 x1 x2 x3)=i22_l1 m M1 x0 x1 x2 x3
 |0,_,_,_,_=>rfl
 | M1+1,x0,x1,x2,x3=>by
   have h:∀J,l22 J m [1,0,1,0] [] (M1+1) (s22_3 x0 x1 x2 x3)=
   (bif (decide (x3<x2)) then
  (J 0 3 0 (s22_3 x0 x1 x2 x3) (e22 J m w22_1 [M1] (s22_3 x0 x1 x2 x3)))
   else
  (J 0 7 0 s22_4 (e22 J m [1,1] [] s22_4))):=fun J=>by kernel_rfl
   refine(h jn).trans ?_
   simp only[jn_eq,i22_j2_eq m M1 (i22_l1 m M1) (fun x0 x1 x2 x3=>i22_l1_eq m M1 x0 x1 x2 x3),i22_j4_eq m]
   rfl
theorem i22_j0_eq (m:Nat) (x0:List Dt) (x1:Dt) (x2 x3:Int):e22 jn m [1,0,1] [] (s22_3 x0 x1 x2 x3)=i22_j0 m x0 x1 x2 x3:=by
 have h:∀J,e22 J m [1,0,1] [] (s22_3 x0 x1 x2 x3)=
  (J 1 2 (Nat.succ m) (s22_3 x0 x1 x2 x3) (l22 J m [1,0,1,0] [] (Nat.succ m) (s22_3 x0 x1 x2 x3))):=fun J=>by kernel_rfl
 exact(h jn).trans (by
  simp only[jn_eq,i22_l1_eq m]
  rfl)
theorem i22_eq (m:Nat) (a0:List Dt) (a1:Dt):e22 jn m [] [] ⟨[(.dat 27 (.lst a0)),(.fn 46 [(.rptr 56 a1)])],[],0⟩=i22 (m+1) a0 a1:=by
 have h:∀J,e22 J m [] [] ⟨[(.dat 27 (.lst a0)),(.fn 46 [(.rptr 56 a1)])],[],0⟩=
  (J 0 2 0 (s22_3 a0 a1 (List.length a0:Int) 0) (e22 J m [1,0,1] [] (s22_3 a0 a1 (List.length a0:Int) 0))):=fun J=>by kernel_rfl
 refine(h jn).trans ?_
 simp only[jn_eq,i22_j0_eq m]
 rfl
noncomputable def d21 (q:Res):Option Bool:=match q with
 |(.dat T0 x0,[])=>bif Nat.beq T0 4 then some x0.toBool else none
 |_=>none
theorem d21_sim {b:Res} {r:Bool} (h:d21 b=some r):Sim Tryd.prog b ((.dat 4 (.bool r)),[]):=by
 unfold d21 at h
 split at h
 ·obtain⟨hc,h2⟩:=bif_some h
  cases h2
  have e0:=beq_eq hc
  subst e0
  exact Sim.of (.of (.dat (.bool Tryd.underlying4)) rfl rfl) .nil
 ·cases h
noncomputable def e21 (J:Nat→Nat→Nat→St→Option Bool→Option Bool) (m:Nat) (p ms:List Nat) (σ:St):=evAt Tryd.prog env (ct m) J (m+1) 47 9 Tryd.f47 d21 p ms σ
noncomputable def l21 (J:Nat→Nat→Nat→St→Option Bool→Option Bool) (m:Nat) (p ms:List Nat) (M:Nat) (σ:St):=loopAt Tryd.prog env (ct m) J (m+1) 47 9 Tryd.f47 d21 p ms M σ
theorem i21_eq (m:Nat) (a0:List Dt) (a1:Dt):e21 jn m [] [] ⟨[(.dat 27 (.lst a0)),(.fn 46 [(.rptr 56 a1)])],[],0⟩=i21 (m+1) a0 a1:=by
 have h:∀J,e21 J m [] [] ⟨[(.dat 27 (.lst a0)),(.fn 46 [(.rptr 56 a1)])],[],0⟩=
   ((i22 m a0 a1).bind fun r0=>
  some (decide (0≤r0))):=fun J=>by kernel_rfl
 refine(h jn).trans ?_
 rfl
noncomputable def d27 (q:Res):Option Int:=match q with
 |(.dat T0 x0,[])=>bif Nat.beq T0 3 then some x0.toInt else none
 |_=>none
def w27_0:List Nat:=[1,1,1,0,1,0]
def w27_1:List Nat:=[1,1,1,0,1,0,0,1,1]
def w27_2:List Nat:=[1,1,1,0,1,0,0,1,0,0,1]
def w27_3:List Nat:=[1,1,1,0,1,0,0,1,0,0,0,1]
def w27_4:List Nat:=[1,1,1,0,1,0,0,1]
def w27_5:List Nat:=[1,1,1,1,1]
def w27_6:List Nat:=[1,1,1,0,1]
theorem d27_sim {b:Res} {r:Int} (h:d27 b=some r):Sim Tryd.prog b ((.dat 3 (.int r)),[]):=by
 unfold d27 at h
 split at h
 ·obtain⟨hc,h2⟩:=bif_some h
  cases h2
  have e0:=beq_eq hc
  subst e0
  exact Sim.of (.of (.dat (.int Tryd.underlying3)) rfl rfl) .nil
 ·cases h
noncomputable def e27 (J:Nat→Nat→Nat→St→Option Int→Option Int) (m:Nat) (p ms:List Nat) (σ:St):=evAt Tryd.prog env (ct m) J (m+1) 26 53 Tryd.f26 d27 p ms σ
noncomputable def l27 (J:Nat→Nat→Nat→St→Option Int→Option Int) (m:Nat) (p ms:List Nat) (M:Nat) (σ:St):=loopAt Tryd.prog env (ct m) J (m+1) 26 53 Tryd.f26 d27 p ms M σ
noncomputable def s27_7 (x0:ByteArray) (x1 x2 x3:Int):St:=⟨tsOf [(0,(.dat 9 (.str x0))),(1,(.dat 3 (.int x1))),(5,(.dat 3 (.int x2))),(6,(.dat 3 (.int x3)))],[],0⟩
noncomputable def s27_5 (x0:ByteArray) (x1 x2 x3:Int) (x4:Bool):St:=⟨tsOf [(0,(.dat 9 (.str x0))),(1,(.dat 3 (.int x1))),(5,(.dat 3 (.int x2))),(6,(.dat 3 (.int x3))),(40,(.dat 4 (.bool x4)))],[],0⟩
noncomputable def s27_9 (x0:Int):St:=⟨tsOf [(5,(.dat 3 (.int x0)))],[],0⟩
noncomputable def s27_8 (x0 x1:Int):St:=⟨tsOf [(1,(.dat 3 (.int x0))),(5,(.dat 3 (.int x1)))],[],0⟩
noncomputable def s27_1 (x0:ByteArray) (x1 x2:Int):St:=⟨tsOf [(0,(.dat 9 (.str x0))),(1,(.dat 3 (.int x1))),(5,(.dat 3 (.int x2)))],[],0⟩
noncomputable def s27_0 (x0:ByteArray) (x1 x2:Int) (x3:Bool):St:=⟨tsOf [(0,(.dat 9 (.str x0))),(1,(.dat 3 (.int x1))),(5,(.dat 3 (.int x2))),(24,(.dat 4 (.bool x3)))],[],0⟩
theorem law14_index_j7_eq (m:Nat) (M3:Nat) (rec3:ByteArray→Int→Int→Int→Option Int) (h3:∀(x0:ByteArray) (x1 x2 x3:Int),l27 jn m w27_0 [] M3 (s27_7 x0 x1 x2 x3)=rec3 x0 x1 x2 x3) (x0:ByteArray) (x1 x2 x3:Int):e27 jn m w27_1 [M3] (s27_7 x0 x1 x2 x3)=law14_index_j7 m rec3 x0 x1 x2 x3:=by
 have h:∀J,e27 J m w27_1 [M3] (s27_7 x0 x1 x2 x3)=
  (J 1 5 M3 (s27_7 x0 x1 x2 (IntKind.wrap .i64 (x3+1))) (l27 J m w27_0 [] M3 (s27_7 x0 x1 x2 (IntKind.wrap .i64 (x3+1))))):=fun J=>by kernel_rfl
 exact(h jn).trans (by
  simp only[jn_eq,h3]
  rfl)
theorem law14_index_j6_eq (m:Nat) (M3:Nat) (rec3:ByteArray→Int→Int→Int→Option Int) (h3:∀(x0:ByteArray) (x1 x2 x3:Int),l27 jn m w27_0 [] M3 (s27_7 x0 x1 x2 x3)=rec3 x0 x1 x2 x3) (x0:ByteArray) (x1 x2 x3:Int):e27 jn m w27_2 [M3] (s27_7 x0 x1 x2 x3)=law14_index_j6 m rec3 x0 x1 x2 x3:=by
 have h:∀J,e27 J m w27_2 [M3] (s27_7 x0 x1 x2 x3)=
   ((idxS x0 x3).bind fun v1=>
  (J 0 6 0 (s27_7 x0 x1 (IntKind.wrap .i64 ((IntKind.wrap .i64 (10*x2))+(IntKind.wrap .i64 (IntKind.wrap IntKind.u8 (v1-48))))) x3) (e27 J m w27_1 [M3] (s27_7 x0 x1 (IntKind.wrap .i64 ((IntKind.wrap .i64 (10*x2))+(IntKind.wrap .i64 (IntKind.wrap IntKind.u8 (v1-48))))) x3)))):=fun J=>by kernel_rfl
 exact(h jn).trans (by
   simp only[jn_eq,law14_index_j7_eq m M3 rec3 h3]
   rfl)
theorem law14_index_j5_eq (m:Nat) (M3:Nat) (rec3:ByteArray→Int→Int→Int→Option Int) (h3:∀(x0:ByteArray) (x1 x2 x3:Int),l27 jn m w27_0 [] M3 (s27_7 x0 x1 x2 x3)=rec3 x0 x1 x2 x3) (x0:ByteArray) (x1 x2 x3:Int) (x4:Bool):e27 jn m w27_3 [M3] (s27_5 x0 x1 x2 x3 x4)=law14_index_j5 m rec3 x0 x1 x2 x3 x4:=by
 have h:∀J,e27 J m w27_3 [M3] (s27_5 x0 x1 x2 x3 x4)=
   (bif x4 then
  some (-1)
   else
  (J 0 9 0 (s27_7 x0 x1 x2 x3) (e27 J m w27_2 [M3] (s27_7 x0 x1 x2 x3)))):=fun J=>by kernel_rfl
 exact(h jn).trans (by
   simp only[jn_eq,law14_index_j6_eq m M3 rec3 h3]
   rfl)
theorem law14_index_j4_eq (m:Nat) (M3:Nat) (rec3:ByteArray→Int→Int→Int→Option Int) (h3:∀(x0:ByteArray) (x1 x2 x3:Int),l27 jn m w27_0 [] M3 (s27_7 x0 x1 x2 x3)=rec3 x0 x1 x2 x3) (x0:ByteArray) (x1 x2 x3:Int):e27 jn m w27_4 [M3] (s27_7 x0 x1 x2 x3)=law14_index_j4 m rec3 x0 x1 x2 x3:=by
 have h:∀J,e27 J m w27_4 [M3] (s27_7 x0 x1 x2 x3)=
   ((idxS x0 x3).bind fun v0=>
  (bif (decide (v0<48)) then
  (J 0 8 0 (s27_5 x0 x1 x2 x3 true) (e27 J m w27_3 [M3] (s27_5 x0 x1 x2 x3 true)))
  else
  ((idxS x0 x3).bind fun v2=>
  (J 0 8 0 (s27_5 x0 x1 x2 x3 (decide (57<v2))) (e27 J m w27_3 [M3] (s27_5 x0 x1 x2 x3 (decide (57<v2)))))))):=fun J=>by kernel_rfl
 exact(h jn).trans (by
   simp only[jn_eq,law14_index_j5_eq m M3 rec3 h3]
   rfl)
theorem law14_index_j9_eq (m:Nat) (x0:Int):e27 jn m w27_5 [] (s27_9 x0)=law14_index_j9 m x0:=by
 have h:∀J,e27 J m w27_5 [] (s27_9 x0)=
  some x0:=fun J=>by kernel_rfl
 exact(h jn).trans (rfl)
theorem law14_index_j8_eq (m:Nat) (x0 x1:Int):e27 jn m [1,1,1,1] [] (s27_8 x0 x1)=law14_index_j8 m x0 x1:=by
 have h:∀J,e27 J m [1,1,1,1] [] (s27_8 x0 x1)=
   (bif (decide (x0≤x1)) then
  some (-1)
   else
  (J 0 12 0 (s27_9 x1) (e27 J m w27_5 [] (s27_9 x1)))):=fun J=>by kernel_rfl
 exact(h jn).trans (by
   simp only[jn_eq,law14_index_j9_eq m]
   rfl)
theorem law14_index_l3_eq (m:Nat):∀(M3:Nat) (x0:ByteArray) (x1 x2 x3:Int),l27 jn m w27_0 [] M3 (s27_7 x0 x1 x2 x3)=law14_index_l3 m M3 x0 x1 x2 x3
 |0,_,_,_,_=>rfl
 | M3+1,x0,x1,x2,x3=>by
   have h:∀J,l27 J m w27_0 [] (M3+1) (s27_7 x0 x1 x2 x3)=
   (bif (decide (x3<(ByteArray.size x0:Int))) then
  (J 0 7 0 (s27_7 x0 x1 x2 x3) (e27 J m w27_4 [M3] (s27_7 x0 x1 x2 x3)))
   else
  (J 0 10 0 (s27_8 x1 x2) (e27 J m [1,1,1,1] [] (s27_8 x1 x2)))):=fun J=>by kernel_rfl
   refine(h jn).trans ?_
   simp only[jn_eq,law14_index_j4_eq m M3 (law14_index_l3 m M3) (fun x0 x1 x2 x3=>law14_index_l3_eq m M3 x0 x1 x2 x3),law14_index_j8_eq m]
   rfl
theorem law14_index_j2_eq (m:Nat) (x0:ByteArray) (x1 x2 x3:Int):e27 jn m w27_6 [] (s27_7 x0 x1 x2 x3)=law14_index_j2 m x0 x1 x2 x3:=by
 have h:∀J,e27 J m w27_6 [] (s27_7 x0 x1 x2 x3)=
  (J 1 5 (Nat.succ m) (s27_7 x0 x1 x2 x3) (l27 J m w27_0 [] (Nat.succ m) (s27_7 x0 x1 x2 x3))):=fun J=>by kernel_rfl
 exact(h jn).trans (by
  simp only[jn_eq,law14_index_l3_eq m]
  rfl)
theorem law14_index_j1_eq (m:Nat) (x0:ByteArray) (x1 x2:Int):e27 jn m [1,1,1] [] (s27_1 x0 x1 x2)=law14_index_j1 m x0 x1 x2:=by
 have h:∀J,e27 J m [1,1,1] [] (s27_1 x0 x1 x2)=
  (J 0 5 0 (s27_7 x0 x1 x2 0) (e27 J m w27_6 [] (s27_7 x0 x1 x2 0))):=fun J=>by kernel_rfl
 exact(h jn).trans (by
  simp only[jn_eq,law14_index_j2_eq m]
  rfl)
theorem law14_index_j0_eq (m:Nat) (x0:ByteArray) (x1 x2:Int) (x3:Bool):e27 jn m [1,1,0,1] [] (s27_0 x0 x1 x2 x3)=law14_index_j0 m x0 x1 x2 x3:=by
 have h:∀J,e27 J m [1,1,0,1] [] (s27_0 x0 x1 x2 x3)=
   (bif x3 then
  some (-1)
   else
  (J 0 4 0 (s27_1 x0 x1 x2) (e27 J m [1,1,1] [] (s27_1 x0 x1 x2)))):=fun J=>by kernel_rfl
 exact(h jn).trans (by
   simp only[jn_eq,law14_index_j1_eq m]
   rfl)
theorem law14_index_eq (m:Nat) (a0:ByteArray) (a1:Int):e27 jn m [] [] ⟨[(.dat 9 (.str a0)),(.dat 3 (.int a1))],[],0⟩=law14_index (m+1) a0 a1:=by
 have h:∀J,e27 J m [] [] ⟨[(.dat 9 (.str a0)),(.dat 3 (.int a1))],[],0⟩=
   (bif ((ByteArray.size a0:Int)==0) then
  (J 0 3 0 (s27_0 a0 a1 0 true) (e27 J m [1,1,0,1] [] (s27_0 a0 a1 0 true)))
   else
  (bif (decide (4<(ByteArray.size a0:Int))) then
  (J 0 3 0 (s27_0 a0 a1 0 true) (e27 J m [1,1,0,1] [] (s27_0 a0 a1 0 true)))
  else
  (bif (decide (1<(ByteArray.size a0:Int))) then
  ((idxS a0 0).bind fun v3=>
  (J 0 3 0 (s27_0 a0 a1 0 (v3==48)) (e27 J m [1,1,0,1] [] (s27_0 a0 a1 0 (v3==48)))))
  else
  (J 0 3 0 (s27_0 a0 a1 0 false) (e27 J m [1,1,0,1] [] (s27_0 a0 a1 0 false)))))):=fun J=>by kernel_rfl
 refine(h jn).trans ?_
 simp only[jn_eq,law14_index_j0_eq m]
 rfl
noncomputable def d34 (q:Res):Option Int:=match q with
 |(.dat T0 x0,[])=>bif Nat.beq T0 3 then some x0.toInt else none
 |_=>none
def w34_0:List Nat:=[1,1,1,0,1,0]
def w34_1:List Nat:=[1,1,1,0,1,0,0,1,1]
def w34_2:List Nat:=[1,1,1,0,1,0,0,1]
def w34_3:List Nat:=[1,1,1,1,0,1,0]
def w34_4:List Nat:=[1,1,1,1,0,1,0,0,1,1]
def w34_5:List Nat:=[1,1,1,1,0,1,0,0,1,0,0,1]
def w34_6:List Nat:=[1,1,1,1,0,1,0,0,1]
def w34_7:List Nat:=[1,1,1,1,1]
def w34_8:List Nat:=[1,1,1,1,0,1]
def w34_9:List Nat:=[1,1,1,0,1]
theorem d34_sim {b:Res} {r:Int} (h:d34 b=some r):Sim Tryd.prog b ((.dat 3 (.int r)),[]):=by
 unfold d34 at h
 split at h
 ·obtain⟨hc,h2⟩:=bif_some h
  cases h2
  have e0:=beq_eq hc
  subst e0
  exact Sim.of (.of (.dat (.int Tryd.underlying3)) rfl rfl) .nil
 ·cases h
noncomputable def e34 (J:Nat→Nat→Nat→St→Option Int→Option Int) (m:Nat) (p ms:List Nat) (σ:St):=evAt Tryd.prog env (ct m) J (m+1) 28 69 Tryd.f28 d34 p ms σ
noncomputable def l34 (J:Nat→Nat→Nat→St→Option Int→Option Int) (m:Nat) (p ms:List Nat) (M:Nat) (σ:St):=loopAt Tryd.prog env (ct m) J (m+1) 28 69 Tryd.f28 d34 p ms M σ
noncomputable def s34_5 (x0 x1 x2:Int) (x3:Dt):St:=⟨tsOf [(1,(.dat 3 (.int x0))),(2,(.dat 3 (.int x1))),(3,(.ptr 0 [] 0)),(7,(.dat 3 (.int x2)))],[(.box 25 (.dat 25 x3))],0⟩
noncomputable def s34_11 (x0 x1 x2:Int) (x3:Dt):St:=⟨tsOf [(1,(.dat 3 (.int x0))),(2,(.dat 3 (.int x1))),(3,(.ptr 0 [] 0)),(8,(.dat 3 (.int x2)))],[(.box 25 (.dat 25 x3))],0⟩
noncomputable def s34_12 (x0:Int):St:=⟨tsOf [(2,(.dat 3 (.int x0)))],[],0⟩
noncomputable def s34_6 (x0 x1:Int) (x2:Dt):St:=⟨tsOf [(1,(.dat 3 (.int x0))),(2,(.dat 3 (.int x1))),(3,(.ptr 0 [] 0))],[(.box 25 (.dat 25 x2))],0⟩
noncomputable def s34_0 (x0 x1:Int) (x2:Bool) (x3:Dt):St:=⟨tsOf [(1,(.dat 3 (.int x0))),(2,(.dat 3 (.int x1))),(3,(.ptr 0 [] 0)),(18,(.dat 4 (.bool x2)))],[(.box 25 (.dat 25 x3))],0⟩
theorem ref02_count_j5_eq (m:Nat) (M3:Nat) (rec3:Int→Int→Int→Dt→Option Int) (h3:∀(x0 x1 x2:Int) (x3:Dt),l34 jn m w34_0 [] M3 (s34_5 x0 x1 x2 x3)=rec3 x0 x1 x2 x3) (x0 x1 x2:Int) (x3:Dt):e34 jn m w34_1 [M3] (s34_5 x0 x1 x2 x3)=ref02_count_j5 m (ref02_count m) rec3 x0 x1 x2 x3:=by
 have h:∀J,e34 J m w34_1 [M3] (s34_5 x0 x1 x2 x3)=
  (J 1 5 M3 (s34_5 x0 x1 (IntKind.wrap .i64 (x2+1)) x3) (l34 J m w34_0 [] M3 (s34_5 x0 x1 (IntKind.wrap .i64 (x2+1)) x3))):=fun J=>by kernel_rfl
 exact(h jn).trans (by
  simp only[jn_eq,h3]
  rfl)
theorem ref02_count_j4_eq (m:Nat) (M3:Nat) (rec3:Int→Int→Int→Dt→Option Int) (h3:∀(x0 x1 x2:Int) (x3:Dt),l34 jn m w34_0 [] M3 (s34_5 x0 x1 x2 x3)=rec3 x0 x1 x2 x3) (x0 x1 x2:Int) (x3:Dt):e34 jn m w34_2 [M3] (s34_5 x0 x1 x2 x3)=ref02_count_j4 m (ref02_count m) rec3 x0 x1 x2 x3:=by
 have h:∀J,e34 J m w34_2 [M3] (s34_5 x0 x1 x2 x3)=
   ((idx (Dt.L x3 3) x2).bind fun v0=>
  ((ref02_count m v0 (IntKind.wrap .i64 (x0+1)) x1).bind fun r1=>
  (J 0 6 0 (s34_5 x0 r1 x2 x3) (e34 J m w34_1 [M3] (s34_5 x0 r1 x2 x3))))):=fun J=>by kernel_rfl
 exact(h jn).trans (by
   simp only[jn_eq,ref02_count_j5_eq m M3 rec3 h3]
   rfl)
theorem ref02_count_j11_eq (m:Nat) (M8:Nat) (rec8:Int→Int→Int→Dt→Option Int) (h8:∀(x0 x1 x2:Int) (x3:Dt),l34 jn m w34_3 [] M8 (s34_11 x0 x1 x2 x3)=rec8 x0 x1 x2 x3) (x0 x1 x2:Int) (x3:Dt):e34 jn m w34_4 [M8] (s34_11 x0 x1 x2 x3)=ref02_count_j11 m (ref02_count m) rec8 x0 x1 x2 x3:=by
 have h:∀J,e34 J m w34_4 [M8] (s34_11 x0 x1 x2 x3)=
  (J 1 9 M8 (s34_11 x0 x1 (IntKind.wrap .i64 (x2+1)) x3) (l34 J m w34_3 [] M8 (s34_11 x0 x1 (IntKind.wrap .i64 (x2+1)) x3))):=fun J=>by kernel_rfl
 exact(h jn).trans (by
  simp only[jn_eq,h8]
  rfl)
theorem ref02_count_j10_eq (m:Nat) (M8:Nat) (rec8:Int→Int→Int→Dt→Option Int) (h8:∀(x0 x1 x2:Int) (x3:Dt),l34 jn m w34_3 [] M8 (s34_11 x0 x1 x2 x3)=rec8 x0 x1 x2 x3) (x0 x1 x2:Int) (x3:Dt):e34 jn m w34_5 [M8] (s34_11 x0 x1 x2 x3)=ref02_count_j10 m (ref02_count m) rec8 x0 x1 x2 x3:=by
 have h:∀J,e34 J m w34_5 [M8] (s34_11 x0 x1 x2 x3)=
   ((idx (Dt.L x3 4) x2).bind fun v3=>
  ((ref02_count m (Dt.fld v3 1) (IntKind.wrap .i64 (x0+1)) x1).bind fun r4=>
  (J 0 10 0 (s34_11 x0 r4 x2 x3) (e34 J m w34_4 [M8] (s34_11 x0 r4 x2 x3))))):=fun J=>by kernel_rfl
 exact(h jn).trans (by
   simp only[jn_eq,ref02_count_j11_eq m M8 rec8 h8]
   rfl)
theorem ref02_count_j9_eq (m:Nat) (M8:Nat) (rec8:Int→Int→Int→Dt→Option Int) (h8:∀(x0 x1 x2:Int) (x3:Dt),l34 jn m w34_3 [] M8 (s34_11 x0 x1 x2 x3)=rec8 x0 x1 x2 x3) (x0 x1 x2:Int) (x3:Dt):e34 jn m w34_6 [M8] (s34_11 x0 x1 x2 x3)=ref02_count_j9 m (ref02_count m) rec8 x0 x1 x2 x3:=by
 have h:∀J,e34 J m w34_6 [M8] (s34_11 x0 x1 x2 x3)=
   ((idx (Dt.L x3 4) x2).bind fun v2=>
  (bif (decide (200<(ByteArray.size (Dt.S v2 0):Int))) then
  some (-1)
  else
  (J 0 13 0 (s34_11 x0 x1 x2 x3) (e34 J m w34_5 [M8] (s34_11 x0 x1 x2 x3))))):=fun J=>by kernel_rfl
 exact(h jn).trans (by
   simp only[jn_eq,ref02_count_j10_eq m M8 rec8 h8]
   rfl)
theorem ref02_count_j12_eq (m:Nat) (x0:Int):e34 jn m w34_7 [] (s34_12 x0)=ref02_count_j12 m (ref02_count m) x0:=by
 have h:∀J,e34 J m w34_7 [] (s34_12 x0)=
  some x0:=fun J=>by kernel_rfl
 exact(h jn).trans (rfl)
theorem ref02_count_l8_eq (m:Nat):∀(M8:Nat) (x0 x1 x2:Int) (x3:Dt),l34 jn m w34_3 [] M8 (s34_11 x0 x1 x2 x3)=ref02_count_l8 m (ref02_count m) M8 x0 x1 x2 x3
 |0,_,_,_,_=>rfl
 | M8+1,x0,x1,x2,x3=>by
   have h:∀J,l34 J m w34_3 [] (M8+1) (s34_11 x0 x1 x2 x3)=
   (bif (decide (x2<(List.length (Dt.L x3 4):Int))) then
  (bif (decide (0≤x1)) then
  (J 0 11 0 (s34_11 x0 x1 x2 x3) (e34 J m w34_6 [M8] (s34_11 x0 x1 x2 x3)))
  else
  (J 0 14 0 (s34_12 x1) (e34 J m w34_7 [] (s34_12 x1))))
   else
  (J 0 14 0 (s34_12 x1) (e34 J m w34_7 [] (s34_12 x1)))):=fun J=>by kernel_rfl
   refine(h jn).trans ?_
   simp only[jn_eq,ref02_count_j9_eq m M8 (ref02_count_l8 m (ref02_count m) M8) (fun x0 x1 x2 x3=>ref02_count_l8_eq m M8 x0 x1 x2 x3),ref02_count_j12_eq m]
   rfl
theorem ref02_count_j7_eq (m:Nat) (x0 x1 x2:Int) (x3:Dt):e34 jn m w34_8 [] (s34_11 x0 x1 x2 x3)=ref02_count_j7 m (ref02_count m) x0 x1 x2 x3:=by
 have h:∀J,e34 J m w34_8 [] (s34_11 x0 x1 x2 x3)=
  (J 1 9 (Nat.succ m) (s34_11 x0 x1 x2 x3) (l34 J m w34_3 [] (Nat.succ m) (s34_11 x0 x1 x2 x3))):=fun J=>by kernel_rfl
 exact(h jn).trans (by
  simp only[jn_eq,ref02_count_l8_eq m]
  rfl)
theorem ref02_count_j6_eq (m:Nat) (x0 x1:Int) (x2:Dt):e34 jn m [1,1,1,1] [] (s34_6 x0 x1 x2)=ref02_count_j6 m (ref02_count m) x0 x1 x2:=by
 have h:∀J,e34 J m [1,1,1,1] [] (s34_6 x0 x1 x2)=
  (J 0 9 0 (s34_11 x0 x1 0 x2) (e34 J m w34_8 [] (s34_11 x0 x1 0 x2))):=fun J=>by kernel_rfl
 exact(h jn).trans (by
  simp only[jn_eq,ref02_count_j7_eq m]
  rfl)
theorem ref02_count_l3_eq (m:Nat):∀(M3:Nat) (x0 x1 x2:Int) (x3:Dt),l34 jn m w34_0 [] M3 (s34_5 x0 x1 x2 x3)=ref02_count_l3 m (ref02_count m) M3 x0 x1 x2 x3
 |0,_,_,_,_=>rfl
 | M3+1,x0,x1,x2,x3=>by
   have h:∀J,l34 J m w34_0 [] (M3+1) (s34_5 x0 x1 x2 x3)=
   (bif (decide (x2<(List.length (Dt.L x3 3):Int))) then
  (bif (decide (0≤x1)) then
  (J 0 7 0 (s34_5 x0 x1 x2 x3) (e34 J m w34_2 [M3] (s34_5 x0 x1 x2 x3)))
  else
  (J 0 8 0 (s34_6 x0 x1 x3) (e34 J m [1,1,1,1] [] (s34_6 x0 x1 x3))))
   else
  (J 0 8 0 (s34_6 x0 x1 x3) (e34 J m [1,1,1,1] [] (s34_6 x0 x1 x3)))):=fun J=>by kernel_rfl
   refine(h jn).trans ?_
   simp only[jn_eq,ref02_count_j4_eq m M3 (ref02_count_l3 m (ref02_count m) M3) (fun x0 x1 x2 x3=>ref02_count_l3_eq m M3 x0 x1 x2 x3),ref02_count_j6_eq m]
   rfl
theorem ref02_count_j2_eq (m:Nat) (x0 x1 x2:Int) (x3:Dt):e34 jn m w34_9 [] (s34_5 x0 x1 x2 x3)=ref02_count_j2 m (ref02_count m) x0 x1 x2 x3:=by
 have h:∀J,e34 J m w34_9 [] (s34_5 x0 x1 x2 x3)=
  (J 1 5 (Nat.succ m) (s34_5 x0 x1 x2 x3) (l34 J m w34_0 [] (Nat.succ m) (s34_5 x0 x1 x2 x3))):=fun J=>by kernel_rfl
 exact(h jn).trans (by
  simp only[jn_eq,ref02_count_l3_eq m]
  rfl)
theorem ref02_count_j1_eq (m:Nat) (x0 x1:Int) (x2:Dt):e34 jn m [1,1,1] [] (s34_6 x0 x1 x2)=ref02_count_j1 m (ref02_count m) x0 x1 x2:=by
 have h:∀J,e34 J m [1,1,1] [] (s34_6 x0 x1 x2)=
  (J 0 5 0 (s34_5 x0 x1 0 x2) (e34 J m w34_9 [] (s34_5 x0 x1 0 x2))):=fun J=>by kernel_rfl
 exact(h jn).trans (by
  simp only[jn_eq,ref02_count_j2_eq m]
  rfl)
theorem ref02_count_j0_eq (m:Nat) (x0 x1:Int) (x2:Bool) (x3:Dt):e34 jn m [1,1,0,1] [] (s34_0 x0 x1 x2 x3)=ref02_count_j0 m (ref02_count m) x0 x1 x2 x3:=by
 have h:∀J,e34 J m [1,1,0,1] [] (s34_0 x0 x1 x2 x3)=
   (bif x2 then
  some (-1)
   else
  (J 0 4 0 (s34_6 x0 x1 x3) (e34 J m [1,1,1] [] (s34_6 x0 x1 x3)))):=fun J=>by kernel_rfl
 exact(h jn).trans (by
   simp only[jn_eq,ref02_count_j1_eq m]
   rfl)
theorem ref02_count_eq (m:Nat) (a0:Dt) (a1 a2:Int):e34 jn m [] [] ⟨[(.dat 25 a0),(.dat 3 (.int a1)),(.dat 3 (.int a2))],[],0⟩=ref02_count (m+1) a0 a1 a2:=by
 have h:∀J,e34 J m [] [] ⟨[(.dat 25 a0),(.dat 3 (.int a1)),(.dat 3 (.int a2))],[],0⟩=
   (bif (decide (40<a1)) then
  (J 0 3 0 (s34_0 a1 (IntKind.wrap .i64 (a2-1)) true a0) (e34 J m [1,1,0,1] [] (s34_0 a1 (IntKind.wrap .i64 (a2-1)) true a0)))
   else
  (J 0 3 0 (s34_0 a1 (IntKind.wrap .i64 (a2-1)) (decide (5000<(ByteArray.size (Dt.S a0 2):Int))) a0) (e34 J m [1,1,0,1] [] (s34_0 a1 (IntKind.wrap .i64 (a2-1)) (decide (5000<(ByteArray.size (Dt.S a0 2):Int))) a0)))):=fun J=>by kernel_rfl
 refine(h jn).trans ?_
 simp only[jn_eq,ref02_count_j0_eq m]
 rfl
noncomputable def d8 (q:Res):Option Bool:=match q with
 |(.dat T0 x0,[])=>bif Nat.beq T0 4 then some x0.toBool else none
 |_=>none
theorem d8_sim {b:Res} {r:Bool} (h:d8 b=some r):Sim Tryd.prog b ((.dat 4 (.bool r)),[]):=by
 unfold d8 at h
 split at h
 ·obtain⟨hc,h2⟩:=bif_some h
  cases h2
  have e0:=beq_eq hc
  subst e0
  exact Sim.of (.of (.dat (.bool Tryd.underlying4)) rfl rfl) .nil
 ·cases h
noncomputable def e8 (J:Nat→Nat→Nat→St→Option Bool→Option Bool) (m:Nat) (p ms:List Nat) (σ:St):=evAt Tryd.prog env (ct m) J (m+1) 15 9 Tryd.f15 d8 p ms σ
noncomputable def l8 (J:Nat→Nat→Nat→St→Option Bool→Option Bool) (m:Nat) (p ms:List Nat) (M:Nat) (σ:St):=loopAt Tryd.prog env (ct m) J (m+1) 15 9 Tryd.f15 d8 p ms M σ
theorem ref02_Few_eq (m:Nat) (a0:Dt) (a1:Int):e8 jn m [] [] ⟨[(.dat 25 a0),(.dat 3 (.int a1))],[],0⟩=ref02_Few (m+1) a0 a1:=by
 have h:∀J,e8 J m [] [] ⟨[(.dat 25 a0),(.dat 3 (.int a1))],[],0⟩=
   ((ref02_count m a0 1 a1).bind fun r0=>
  some (decide (0≤r0))):=fun J=>by kernel_rfl
 refine(h jn).trans ?_
 rfl
noncomputable def d1 (q:Res):Option Bool:=match q with
 |(.dat T0 x0,[])=>bif Nat.beq T0 4 then some x0.toBool else none
 |_=>none
theorem d1_sim {b:Res} {r:Bool} (h:d1 b=some r):Sim Tryd.prog b ((.dat 4 (.bool r)),[]):=by
 unfold d1 at h
 split at h
 ·obtain⟨hc,h2⟩:=bif_some h
  cases h2
  have e0:=beq_eq hc
  subst e0
  exact Sim.of (.of (.dat (.bool Tryd.underlying4)) rfl rfl) .nil
 ·cases h
noncomputable def e1 (J:Nat→Nat→Nat→St→Option Bool→Option Bool) (m:Nat) (p ms:List Nat) (σ:St):=evAt Tryd.prog env (ct m) J (m+1) 11 12 Tryd.f11 d1 p ms σ
noncomputable def l1 (J:Nat→Nat→Nat→St→Option Bool→Option Bool) (m:Nat) (p ms:List Nat) (M:Nat) (σ:St):=loopAt Tryd.prog env (ct m) J (m+1) 11 12 Tryd.f11 d1 p ms M σ
theorem law14_few_eq (m:Nat) (a0 a1:Dt):e1 jn m [] [] ⟨[(.dat 30 a0),(.dat 25 a1)],[],0⟩=law14_few (m+1) a0 a1:=by
 have h:∀J,e1 J m [] [] ⟨[(.dat 30 a0),(.dat 25 a1)],[],0⟩=
   ((ref14_Count m a0 81).bind fun r0=>
  (bif (decide (r0≤80)) then
  ((ref02_Few m a1 300).bind fun r1=>
  some r1)
  else
  some false)):=fun J=>by kernel_rfl
 refine(h jn).trans ?_
 rfl
noncomputable def d44 (q:Res):Option (List Dt):=match q with
 |(.tup [],[.row T0 x0])=>bif Nat.beq T0 22 then some x0 else none
 |_=>none
def w44_0:List Nat:=[1,0,0,1,1]
theorem d44_sim {b:Res} {r:List Dt} (h:d44 b=some r):Sim Tryd.prog b ((.tup []),[(.row 22 r)]):=by
 unfold d44 at h
 split at h
 ·obtain⟨hc,h2⟩:=bif_some h
  cases h2
  have e0:=beq_eq hc
  subst e0
  exact Sim.of (.tup .nil) (.cons .same .nil)
 ·cases h
noncomputable def e44 (J:Nat→Nat→Nat→St→Option (List Dt)→Option (List Dt)) (m:Nat) (p ms:List Nat) (σ:St):=evAt Tryd.prog env (ct m) J (m+1) 106 38 Tryd.f106 d44 p ms σ
noncomputable def l44 (J:Nat→Nat→Nat→St→Option (List Dt)→Option (List Dt)) (m:Nat) (p ms:List Nat) (M:Nat) (σ:St):=loopAt Tryd.prog env (ct m) J (m+1) 106 38 Tryd.f106 d44 p ms M σ
noncomputable def s44_3 (x0 x1 x2 x3:Int) (x4:List Dt):St:=⟨tsOf [(0,(.row 0)),(1,(.dat 3 (.int x0))),(2,(.dat 3 (.int x1))),(3,(.dat 3 (.int x2))),(10,(.dat 3 (.int x3)))],[(.row 22 x4)],1⟩
theorem i44_j3_eq (m:Nat) (M1:Nat) (rec1:Int→Int→Int→Int→List Dt→Option (List Dt)) (h1:∀(x0 x1 x2 x3:Int) (x4:List Dt),l44 jn m [1,0] [] M1 (s44_3 x0 x1 x2 x3 x4)=rec1 x0 x1 x2 x3 x4) (x0 x1 x2 x3:Int) (x4:List Dt):e44 jn m w44_0 [M1] (s44_3 x0 x1 x2 x3 x4)=i44_j3 m rec1 x0 x1 x2 x3 x4:=by
 have h:∀J,e44 J m w44_0 [M1] (s44_3 x0 x1 x2 x3 x4)=
  (J 1 1 M1 (s44_3 x0 x1 x2 (IntKind.wrap .i64 (x3+1)) x4) (l44 J m [1,0] [] M1 (s44_3 x0 x1 x2 (IntKind.wrap .i64 (x3+1)) x4))):=fun J=>by kernel_rfl
 exact(h jn).trans (by
  simp only[jn_eq,h1]
  rfl)
theorem i44_j2_eq (m:Nat) (M1:Nat) (rec1:Int→Int→Int→Int→List Dt→Option (List Dt)) (h1:∀(x0 x1 x2 x3:Int) (x4:List Dt),l44 jn m [1,0] [] M1 (s44_3 x0 x1 x2 x3 x4)=rec1 x0 x1 x2 x3 x4) (x0 x1 x2 x3:Int) (x4:List Dt):e44 jn m [1,0,0,1] [M1] (s44_3 x0 x1 x2 x3 x4)=i44_j2 m rec1 x0 x1 x2 x3 x4:=by
 have h:∀J,e44 J m [1,0,0,1] [M1] (s44_3 x0 x1 x2 x3 x4)=
   ((inL x4 (IntKind.wrap .i64 (x1+x3))).bind fun v0=>
  ((x4[(Int.toNat (IntKind.wrap .i64 (x1+x3)))]?).bind fun v1=>
  ((inL x4 (IntKind.wrap .i64 (x0+x3))).bind fun v2=>
  ((x4[(Int.toNat (IntKind.wrap .i64 (x0+x3)))]?).bind fun v3=>
  ((inL x4 (IntKind.wrap .i64 (x0+x3))).bind fun v4=>
  ((x4[(Int.toNat (IntKind.wrap .i64 (x0+x3)))]?).bind fun v5=>
  ((inL (List.set x4 (Int.toNat (IntKind.wrap .i64 (x0+x3))) v1) (IntKind.wrap .i64 (x1+x3))).bind fun v6=>
  (((List.set x4 (Int.toNat (IntKind.wrap .i64 (x0+x3))) v1)[(Int.toNat (IntKind.wrap .i64 (x1+x3)))]?).bind fun v7=>
  (J 0 2 0 (s44_3 x0 x1 x2 x3 (List.set (List.set x4 (Int.toNat (IntKind.wrap .i64 (x0+x3))) v1) (Int.toNat (IntKind.wrap .i64 (x1+x3))) v3)) (e44 J m w44_0 [M1] (s44_3 x0 x1 x2 x3 (List.set (List.set x4 (Int.toNat (IntKind.wrap .i64 (x0+x3))) v1) (Int.toNat (IntKind.wrap .i64 (x1+x3))) v3)))))))))))):=fun J=>by kernel_rfl
 exact(h jn).trans (by
   simp only[jn_eq,i44_j3_eq m M1 rec1 h1]
   rfl)
theorem i44_l1_eq (m:Nat):∀(M1:Nat) (x0 x1 x2 x3:Int) (x4:List Dt),l44 jn m [1,0] [] M1 (s44_3 x0 x1 x2 x3 x4)=i44_l1 m M1 x0 x1 x2 x3 x4
 |0,_,_,_,_,_=>rfl
 | M1+1,x0,x1,x2,x3,x4=>by
   have h:∀J,l44 J m [1,0] [] (M1+1) (s44_3 x0 x1 x2 x3 x4)=
   (bif (decide (x3<x2)) then
  (J 0 3 0 (s44_3 x0 x1 x2 x3 x4) (e44 J m [1,0,0,1] [M1] (s44_3 x0 x1 x2 x3 x4)))
   else
  some x4):=fun J=>by kernel_rfl
   refine(h jn).trans ?_
   simp only[jn_eq,i44_j2_eq m M1 (i44_l1 m M1) (fun x0 x1 x2 x3 x4=>i44_l1_eq m M1 x0 x1 x2 x3 x4)]
   rfl
theorem i44_j0_eq (m:Nat) (x0 x1 x2 x3:Int) (x4:List Dt):e44 jn m [1] [] (s44_3 x0 x1 x2 x3 x4)=i44_j0 m x0 x1 x2 x3 x4:=by
 have h:∀J,e44 J m [1] [] (s44_3 x0 x1 x2 x3 x4)=
  (J 1 1 (Nat.succ m) (s44_3 x0 x1 x2 x3 x4) (l44 J m [1,0] [] (Nat.succ m) (s44_3 x0 x1 x2 x3 x4))):=fun J=>by kernel_rfl
 exact(h jn).trans (by
  simp only[jn_eq,i44_l1_eq m]
  rfl)
theorem i44_eq (m:Nat) (a0 a1 a2:Int) (a3:List Dt):e44 jn m [] [] ⟨[(.row 0),(.dat 3 (.int a0)),(.dat 3 (.int a1)),(.dat 3 (.int a2)),(.fn 43 [])],[(.row 22 a3)],1⟩=i44 (m+1) a0 a1 a2 a3:=by
 have h:∀J,e44 J m [] [] ⟨[(.row 0),(.dat 3 (.int a0)),(.dat 3 (.int a1)),(.dat 3 (.int a2)),(.fn 43 [])],[(.row 22 a3)],1⟩=
  (J 0 1 0 (s44_3 a0 a1 a2 0 a3) (e44 J m [1] [] (s44_3 a0 a1 a2 0 a3))):=fun J=>by kernel_rfl
 refine(h jn).trans ?_
 simp only[jn_eq,i44_j0_eq m]
 rfl
noncomputable def d43 (q:Res):Option (List Dt):=match q with
 |(.tup [],[.row T0 x0])=>bif Nat.beq T0 22 then some x0 else none
 |_=>none
def w43_0:List Nat:=[1,1,0,0,0,1]
theorem d43_sim {b:Res} {r:List Dt} (h:d43 b=some r):Sim Tryd.prog b ((.tup []),[(.row 22 r)]):=by
 unfold d43 at h
 split at h
 ·obtain⟨hc,h2⟩:=bif_some h
  cases h2
  have e0:=beq_eq hc
  subst e0
  exact Sim.of (.tup .nil) (.cons .same .nil)
 ·cases h
noncomputable def e43 (J:Nat→Nat→Nat→St→Option (List Dt)→Option (List Dt)) (m:Nat) (p ms:List Nat) (σ:St):=evAt Tryd.prog env (ct m) J (m+1) 100 58 Tryd.f100 d43 p ms σ
noncomputable def l43 (J:Nat→Nat→Nat→St→Option (List Dt)→Option (List Dt)) (m:Nat) (p ms:List Nat) (M:Nat) (σ:St):=loopAt Tryd.prog env (ct m) J (m+1) 100 58 Tryd.f100 d43 p ms M σ
noncomputable def s43_2 (x0 x1 x2:Int) (x3:List Dt):St:=⟨tsOf [(0,(.row 0)),(2,(.dat 3 (.int x0))),(4,(.fn 43 [])),(10,(.dat 3 (.int x1))),(11,(.dat 3 (.int x2)))],[(.row 22 x3)],1⟩
noncomputable def s43_3 (x0 x1:Int) (x2:List Dt):St:=⟨tsOf [(0,(.row 0)),(2,(.dat 3 (.int x0))),(4,(.fn 43 [])),(10,(.dat 3 (.int x1)))],[(.row 22 x2)],1⟩
theorem i43_j2_eq (m:Nat) (M1:Nat) (rec1:Int→Int→Int→List Dt→Option (List Dt)) (h1:∀(x0 x1 x2:Int) (x3:List Dt),l43 jn m [1,1,0,0] [] M1 (s43_2 x0 x1 x2 x3)=rec1 x0 x1 x2 x3) (x0 x1 x2:Int) (x3:List Dt):e43 jn m w43_0 [M1] (s43_2 x0 x1 x2 x3)=i43_j2 m rec1 x0 x1 x2 x3:=by
 have h:∀J,e43 J m w43_0 [M1] (s43_2 x0 x1 x2 x3)=
   (bif (decide (x2<x1)) then
  ((i44 m (IntKind.wrap .i64 (x0-x1)) x0 x2 x3).bind fun r0=>
  (J 1 2 M1 (s43_2 x0 (IntKind.wrap .i64 (x1-x2)) x2 r0) (l43 J m [1,1,0,0] [] M1 (s43_2 x0 (IntKind.wrap .i64 (x1-x2)) x2 r0))))
   else
  ((i44 m (IntKind.wrap .i64 (x0-x1)) (IntKind.wrap .i64 ((IntKind.wrap .i64 (x0+x2))-x1)) x1 x3).bind fun r1=>
  (J 1 2 M1 (s43_2 x0 x1 (IntKind.wrap .i64 (x2-x1)) r1) (l43 J m [1,1,0,0] [] M1 (s43_2 x0 x1 (IntKind.wrap .i64 (x2-x1)) r1))))):=fun J=>by kernel_rfl
 exact(h jn).trans (by
   simp only[jn_eq,h1]
   rfl)
theorem i43_j3_eq (m:Nat) (x0 x1:Int) (x2:List Dt):e43 jn m [1,1,1] [] (s43_3 x0 x1 x2)=i43_j3 m x0 x1 x2:=by
 have h:∀J,e43 J m [1,1,1] [] (s43_3 x0 x1 x2)=
   ((i44 m (IntKind.wrap .i64 (x0-x1)) x0 x1 x2).bind fun r2=>
  some r2):=fun J=>by kernel_rfl
 exact(h jn).trans (rfl)
theorem i43_l1_eq (m:Nat):∀(M1:Nat) (x0 x1 x2:Int) (x3:List Dt),l43 jn m [1,1,0,0] [] M1 (s43_2 x0 x1 x2 x3)=i43_l1 m M1 x0 x1 x2 x3
 |0,_,_,_,_=>rfl
 | M1+1,x0,x1,x2,x3=>by
   have h:∀J,l43 J m [1,1,0,0] [] (M1+1) (s43_2 x0 x1 x2 x3)=
   (bif (x1 !=x2) then
  (J 0 3 0 (s43_2 x0 x1 x2 x3) (e43 J m w43_0 [M1] (s43_2 x0 x1 x2 x3)))
   else
  (J 0 8 0 (s43_3 x0 x1 x3) (e43 J m [1,1,1] [] (s43_3 x0 x1 x3)))):=fun J=>by kernel_rfl
   refine(h jn).trans ?_
   simp only[jn_eq,i43_j2_eq m M1 (i43_l1 m M1) (fun x0 x1 x2 x3=>i43_l1_eq m M1 x0 x1 x2 x3),i43_j3_eq m]
   rfl
theorem i43_j0_eq (m:Nat) (x0 x1 x2:Int) (x3:List Dt):e43 jn m [1,1] [] (s43_2 x0 x1 x2 x3)=i43_j0 m x0 x1 x2 x3:=by
 have h:∀J,e43 J m [1,1] [] (s43_2 x0 x1 x2 x3)=
  (J 1 2 (Nat.succ m) (s43_2 x0 x1 x2 x3) (l43 J m [1,1,0,0] [] (Nat.succ m) (s43_2 x0 x1 x2 x3))):=fun J=>by kernel_rfl
 exact(h jn).trans (by
  simp only[jn_eq,i43_l1_eq m]
  rfl)
theorem i43_eq (m:Nat) (a0 a1 a2:Int) (a3:List Dt):e43 jn m [] [] ⟨[(.row 0),(.dat 3 (.int a0)),(.dat 3 (.int a1)),(.dat 3 (.int a2)),(.fn 43 [])],[(.row 22 a3)],1⟩=i43 (m+1) a0 a1 a2 a3:=by
 have h:∀J,e43 J m [] [] ⟨[(.row 0),(.dat 3 (.int a0)),(.dat 3 (.int a1)),(.dat 3 (.int a2)),(.fn 43 [])],[(.row 22 a3)],1⟩=
  (J 0 2 0 (s43_2 a1 (IntKind.wrap .i64 (a1-a0)) (IntKind.wrap .i64 (a2-a1)) a3) (e43 J m [1,1] [] (s43_2 a1 (IntKind.wrap .i64 (a1-a0)) (IntKind.wrap .i64 (a2-a1)) a3))):=fun J=>by kernel_rfl
 refine(h jn).trans ?_
 simp only[jn_eq,i43_j0_eq m]
 rfl
noncomputable def d45 (q:Res):Option Int:=match q with
 |(.dat T0 x0,[])=>bif Nat.beq T0 3 then some x0.toInt else none
 |_=>none
def w45_0:List Nat:=[1,1,0,1,0]
def w45_1:List Nat:=[1,1,0,1,0,0,1,1]
def w45_2:List Nat:=[1,1,0,1,0,0,1]
theorem d45_sim {b:Res} {r:Int} (h:d45 b=some r):Sim Tryd.prog b ((.dat 3 (.int r)),[]):=by
 unfold d45 at h
 split at h
 ·obtain⟨hc,h2⟩:=bif_some h
  cases h2
  have e0:=beq_eq hc
  subst e0
  exact Sim.of (.of (.dat (.int Tryd.underlying3)) rfl rfl) .nil
 ·cases h
noncomputable def e45 (J:Nat→Nat→Nat→St→Option Int→Option Int) (m:Nat) (p ms:List Nat) (σ:St):=evAt Tryd.prog env (ct m) J (m+1) 50 25 Tryd.f50 d45 p ms σ
noncomputable def l45 (J:Nat→Nat→Nat→St→Option Int→Option Int) (m:Nat) (p ms:List Nat) (M:Nat) (σ:St):=loopAt Tryd.prog env (ct m) J (m+1) 50 25 Tryd.f50 d45 p ms M σ
noncomputable def s45_4 (x0:ByteArray) (x1:Int) (x2:Dt):St:=⟨tsOf [(1,(.dat 9 (.str x0))),(2,(.ptr 0 [] 0)),(5,(.dat 3 (.int x1)))],[(.box 25 (.dat 25 x2))],0⟩
noncomputable def s45_5:St:=⟨tsOf [],[],0⟩
noncomputable def s45_0 (x0:ByteArray) (x1:Dt):St:=⟨tsOf [(1,(.dat 9 (.str x0))),(2,(.ptr 0 [] 0))],[(.box 25 (.dat 25 x1))],0⟩
theorem ref01_at_j4_eq (m:Nat) (M2:Nat) (rec2:ByteArray→Int→Dt→Option Int) (h2:∀(x0:ByteArray) (x1:Int) (x2:Dt),l45 jn m w45_0 [] M2 (s45_4 x0 x1 x2)=rec2 x0 x1 x2) (x0:ByteArray) (x1:Int) (x2:Dt):e45 jn m w45_1 [M2] (s45_4 x0 x1 x2)=ref01_at_j4 m rec2 x0 x1 x2:=by
 have h:∀J,e45 J m w45_1 [M2] (s45_4 x0 x1 x2)=
  (J 1 4 M2 (s45_4 x0 (IntKind.wrap .i64 (x1+1)) x2) (l45 J m w45_0 [] M2 (s45_4 x0 (IntKind.wrap .i64 (x1+1)) x2))):=fun J=>by kernel_rfl
 exact(h jn).trans (by
  simp only[jn_eq,h2]
  rfl)
theorem ref01_at_j3_eq (m:Nat) (M2:Nat) (rec2:ByteArray→Int→Dt→Option Int) (h2:∀(x0:ByteArray) (x1:Int) (x2:Dt),l45 jn m w45_0 [] M2 (s45_4 x0 x1 x2)=rec2 x0 x1 x2) (x0:ByteArray) (x1:Int) (x2:Dt):e45 jn m w45_2 [M2] (s45_4 x0 x1 x2)=ref01_at_j3 m rec2 x0 x1 x2:=by
 have h:∀J,e45 J m w45_2 [M2] (s45_4 x0 x1 x2)=
   ((idx (Dt.L x2 4) x1).bind fun v0=>
  (bif ((ByteArray.toList (Dt.S v0 0))==(ByteArray.toList x0)) then
  some x1
  else
  (J 0 5 0 (s45_4 x0 x1 x2) (e45 J m w45_1 [M2] (s45_4 x0 x1 x2))))):=fun J=>by kernel_rfl
 exact(h jn).trans (by
   simp only[jn_eq,ref01_at_j4_eq m M2 rec2 h2]
   rfl)
theorem ref01_at_j5_eq (m:Nat):e45 jn m [1,1,1] [] s45_5=ref01_at_j5 m:=by
 have h:∀J,e45 J m [1,1,1] [] s45_5=
  some (-1):=fun J=>by kernel_rfl
 exact(h jn).trans (rfl)
theorem ref01_at_l2_eq (m:Nat):∀(M2:Nat) (x0:ByteArray) (x1:Int) (x2:Dt),l45 jn m w45_0 [] M2 (s45_4 x0 x1 x2)=ref01_at_l2 m M2 x0 x1 x2
 |0,_,_,_=>rfl
 | M2+1,x0,x1,x2=>by
   have h:∀J,l45 J m w45_0 [] (M2+1) (s45_4 x0 x1 x2)=
   (bif (decide (x1<(List.length (Dt.L x2 4):Int))) then
  (J 0 6 0 (s45_4 x0 x1 x2) (e45 J m w45_2 [M2] (s45_4 x0 x1 x2)))
   else
  (J 0 8 0 s45_5 (e45 J m [1,1,1] [] s45_5))):=fun J=>by kernel_rfl
   refine(h jn).trans ?_
   simp only[jn_eq,ref01_at_j3_eq m M2 (ref01_at_l2 m M2) (fun x0 x1 x2=>ref01_at_l2_eq m M2 x0 x1 x2),ref01_at_j5_eq m]
   rfl
theorem ref01_at_j1_eq (m:Nat) (x0:ByteArray) (x1:Int) (x2:Dt):e45 jn m [1,1,0,1] [] (s45_4 x0 x1 x2)=ref01_at_j1 m x0 x1 x2:=by
 have h:∀J,e45 J m [1,1,0,1] [] (s45_4 x0 x1 x2)=
  (J 1 4 (Nat.succ m) (s45_4 x0 x1 x2) (l45 J m w45_0 [] (Nat.succ m) (s45_4 x0 x1 x2))):=fun J=>by kernel_rfl
 exact(h jn).trans (by
  simp only[jn_eq,ref01_at_l2_eq m]
  rfl)
theorem ref01_at_j0_eq (m:Nat) (x0:ByteArray) (x1:Dt):e45 jn m [1,1] [] (s45_0 x0 x1)=ref01_at_j0 m x0 x1:=by
 have h:∀J,e45 J m [1,1] [] (s45_0 x0 x1)=
  (J 0 4 0 (s45_4 x0 0 x1) (e45 J m [1,1,0,1] [] (s45_4 x0 0 x1))):=fun J=>by kernel_rfl
 exact(h jn).trans (by
  simp only[jn_eq,ref01_at_j1_eq m]
  rfl)
theorem ref01_at_eq (m:Nat) (a0:Dt) (a1:ByteArray):e45 jn m [] [] ⟨[(.dat 25 a0),(.dat 9 (.str a1))],[],0⟩=ref01_at (m+1) a0 a1:=by
 have h:∀J,e45 J m [] [] ⟨[(.dat 25 a0),(.dat 9 (.str a1))],[],0⟩=
   (bif ((Dt.I a0 0) !=5) then
  some (-1)
   else
  (J 0 3 0 (s45_0 a1 a0) (e45 J m [1,1] [] (s45_0 a1 a0)))):=fun J=>by kernel_rfl
 refine(h jn).trans ?_
 simp only[jn_eq,ref01_at_j0_eq m]
 rfl
noncomputable def d28 (q:Res):Option (Dt×Bool):=match q with
 |(.tup [.dat T0 x0,.dat T1 x1],[])=>bif (Nat.beq T0 25&&Nat.beq T1 4) then some (x0,x1.toBool) else none
 |_=>none
theorem d28_sim {b:Res} {r:Dt×Bool} (h:d28 b=some r):Sim Tryd.prog b ((.tup [(.dat 25 r.1),(.dat 4 (.bool r.2))]),[]):=by
 unfold d28 at h
 split at h
 ·obtain⟨hc,h2⟩:=bif_some h
  cases h2
  have e0:=beq_eq (and_l hc)
  have e1:=beq_eq (and_r hc)
  subst e0 e1
  exact Sim.of (.tup (.cons .same (.cons (.dat (.bool Tryd.underlying4)) .nil))) .nil
 ·cases h
noncomputable def e28 (J:Nat→Nat→Nat→St→Option (Dt×Bool)→Option (Dt×Bool)) (m:Nat) (p ms:List Nat) (σ:St):=evAt Tryd.prog env (ct m) J (m+1) 27 19 Tryd.f27 d28 p ms σ
noncomputable def l28 (J:Nat→Nat→Nat→St→Option (Dt×Bool)→Option (Dt×Bool)) (m:Nat) (p ms:List Nat) (M:Nat) (σ:St):=loopAt Tryd.prog env (ct m) J (m+1) 27 19 Tryd.f27 d28 p ms M σ
noncomputable def s28_0 (x0:Int) (x1 x2:Dt):St:=⟨tsOf [(2,(.ptr 0 [] 0)),(4,(.ptr 1 [] 0)),(6,(.dat 3 (.int x0)))],[(.box 25 (.dat 25 x1)),(.box 25 (.dat 25 x2))],0⟩
theorem ref01_Get_j0_eq (m:Nat) (x0:Int) (x1 x2:Dt):e28 jn m [1,1,1] [] (s28_0 x0 x1 x2)=ref01_Get_j0 m x0 x1 x2:=by
 have h:∀J,e28 J m [1,1,1] [] (s28_0 x0 x1 x2)=
   ((idx (Dt.L x1 4) x0).bind fun v1=>
  some ((Dt.fld v1 1),true)):=fun J=>by kernel_rfl
 exact(h jn).trans (rfl)
theorem ref01_Get_eq (m:Nat) (a0:Dt) (a1:ByteArray):e28 jn m [] [] ⟨[(.dat 25 a0),(.dat 9 (.str a1))],[],0⟩=ref01_Get (m+1) a0 a1:=by
 have h:∀J,e28 J m [] [] ⟨[(.dat 25 a0),(.dat 9 (.str a1))],[],0⟩=
   ((ref01_at m a0 a1).bind fun r0=>
  (bif (decide (r0<0)) then
  some (kza2373,false)
  else
  (J 0 4 0 (s28_0 r0 a0 kza2373) (e28 J m [1,1,1] [] (s28_0 r0 a0 kza2373))))):=fun J=>by kernel_rfl
 refine(h jn).trans ?_
 simp only[jn_eq,ref01_Get_j0_eq m]
 rfl
noncomputable def d4 (q:Res):Option Bool:=match q with
 |(.dat T0 x0,[])=>bif Nat.beq T0 4 then some x0.toBool else none
 |_=>none
def w4_0:List Nat:=[1,0,1,0,0,1,1]
def w4_1:List Nat:=[1,0,1,0,0,1,0,0,0,1,0,1,1]
def w4_2:List Nat:=[1,0,1,0,0,1,0,0,1,1,1]
def w4_3:List Nat:=[1,0,1,0,0,1,0,0,1]
def w4_4:List Nat:=[1,0,1,0,0,1]
theorem d4_sim {b:Res} {r:Bool} (h:d4 b=some r):Sim Tryd.prog b ((.dat 4 (.bool r)),[]):=by
 unfold d4 at h
 split at h
 ·obtain⟨hc,h2⟩:=bif_some h
  cases h2
  have e0:=beq_eq hc
  subst e0
  exact Sim.of (.of (.dat (.bool Tryd.underlying4)) rfl rfl) .nil
 ·cases h
noncomputable def e4 (J:Nat→Nat→Nat→St→Option Bool→Option Bool) (m:Nat) (p ms:List Nat) (σ:St):=evAt Tryd.prog env (ct m) J (m+1) 14 45 Tryd.f14 d4 p ms σ
noncomputable def l4 (J:Nat→Nat→Nat→St→Option Bool→Option Bool) (m:Nat) (p ms:List Nat) (M:Nat) (σ:St):=loopAt Tryd.prog env (ct m) J (m+1) 14 45 Tryd.f14 d4 p ms M σ
noncomputable def s4_4 (x0:List Dt) (x1:Int) (x2:Dt):St:=⟨tsOf [(1,(.dat 26 (.lst x0))),(2,(.ptr 0 [] 0)),(5,(.dat 3 (.int x1)))],[(.box 25 (.dat 25 x2))],0⟩
noncomputable def s4_3 (x0:List Dt) (x1 x2:Int) (x3:Dt):St:=⟨tsOf [(1,(.dat 26 (.lst x0))),(2,(.ptr 0 [] 0)),(5,(.dat 3 (.int x1))),(6,(.dat 3 (.int x2)))],[(.box 25 (.dat 25 x3))],0⟩
noncomputable def s4_6 (x0:List Dt) (x1:Int) (x2 x3:Dt):St:=⟨tsOf [(1,(.dat 26 (.lst x0))),(2,(.ptr 0 [] 0)),(5,(.dat 3 (.int x1))),(7,(.ptr 1 [] 0))],[(.box 25 (.dat 25 x2)),(.box 25 (.dat 25 x3))],0⟩
noncomputable def s4_7:St:=⟨tsOf [],[],0⟩
theorem law14_walk_j4_eq (m:Nat) (M1:Nat) (rec1:List Dt→Int→Dt→Option Bool) (h1:∀(x0:List Dt) (x1:Int) (x2:Dt),l4 jn m [1,0,1,0] [] M1 (s4_4 x0 x1 x2)=rec1 x0 x1 x2) (x0:List Dt) (x1:Int) (x2:Dt):e4 jn m w4_0 [M1] (s4_4 x0 x1 x2)=law14_walk_j4 m rec1 x0 x1 x2:=by
 have h:∀J,e4 J m w4_0 [M1] (s4_4 x0 x1 x2)=
  (J 1 2 M1 (s4_4 x0 (IntKind.wrap .i64 (x1+1)) x2) (l4 J m [1,0,1,0] [] M1 (s4_4 x0 (IntKind.wrap .i64 (x1+1)) x2))):=fun J=>by kernel_rfl
 exact(h jn).trans (by
  simp only[jn_eq,h1]
  rfl)
theorem law14_walk_j3_eq (m:Nat) (M1:Nat) (rec1:List Dt→Int→Dt→Option Bool) (h1:∀(x0:List Dt) (x1:Int) (x2:Dt),l4 jn m [1,0,1,0] [] M1 (s4_4 x0 x1 x2)=rec1 x0 x1 x2) (x0:List Dt) (x1 x2:Int) (x3:Dt):e4 jn m w4_1 [M1] (s4_3 x0 x1 x2 x3)=law14_walk_j3 m rec1 x0 x1 x2 x3:=by
 have h:∀J,e4 J m w4_1 [M1] (s4_3 x0 x1 x2 x3)=
   ((idx (Dt.L x3 3) x2).bind fun v2=>
  (J 0 3 0 (s4_4 x0 x1 v2) (e4 J m w4_0 [M1] (s4_4 x0 x1 v2)))):=fun J=>by kernel_rfl
 exact(h jn).trans (by
   simp only[jn_eq,law14_walk_j4_eq m M1 rec1 h1]
   rfl)
theorem law14_walk_j6_eq (m:Nat) (M1:Nat) (rec1:List Dt→Int→Dt→Option Bool) (h1:∀(x0:List Dt) (x1:Int) (x2:Dt),l4 jn m [1,0,1,0] [] M1 (s4_4 x0 x1 x2)=rec1 x0 x1 x2) (x0:List Dt) (x1:Int) (x2 x3:Dt):e4 jn m w4_2 [M1] (s4_6 x0 x1 x2 x3)=law14_walk_j6 m rec1 x0 x1 x2 x3:=by
 have h:∀J,e4 J m w4_2 [M1] (s4_6 x0 x1 x2 x3)=
  (J 0 3 0 (s4_4 x0 x1 x3) (e4 J m w4_0 [M1] (s4_4 x0 x1 x3))):=fun J=>by kernel_rfl
 exact(h jn).trans (by
  simp only[jn_eq,law14_walk_j4_eq m M1 rec1 h1]
  rfl)
theorem law14_walk_j5_eq (m:Nat) (M1:Nat) (rec1:List Dt→Int→Dt→Option Bool) (h1:∀(x0:List Dt) (x1:Int) (x2:Dt),l4 jn m [1,0,1,0] [] M1 (s4_4 x0 x1 x2)=rec1 x0 x1 x2) (x0:List Dt) (x1:Int) (x2:Dt):e4 jn m w4_3 [M1] (s4_4 x0 x1 x2)=law14_walk_j5 m rec1 x0 x1 x2:=by
 have h:∀J,e4 J m w4_3 [M1] (s4_4 x0 x1 x2)=
   ((idx x0 x1).bind fun v3=>
  ((ref01_Get m x2 (Dt.toStr v3)).bind fun r4=>
  (bif (Bool.not r4.2) then
  some false
  else
  (J 0 12 0 (s4_6 x0 x1 x2 r4.1) (e4 J m w4_2 [M1] (s4_6 x0 x1 x2 r4.1)))))):=fun J=>by kernel_rfl
 exact(h jn).trans (by
   simp only[jn_eq,law14_walk_j6_eq m M1 rec1 h1]
   rfl)
theorem law14_walk_j2_eq (m:Nat) (M1:Nat) (rec1:List Dt→Int→Dt→Option Bool) (h1:∀(x0:List Dt) (x1:Int) (x2:Dt),l4 jn m [1,0,1,0] [] M1 (s4_4 x0 x1 x2)=rec1 x0 x1 x2) (x0:List Dt) (x1:Int) (x2:Dt):e4 jn m w4_4 [M1] (s4_4 x0 x1 x2)=law14_walk_j2 m rec1 x0 x1 x2:=by
 have h:∀J,e4 J m w4_4 [M1] (s4_4 x0 x1 x2)=
   (bif ((Dt.I x2 0)==6) then
  ((idx x0 x1).bind fun v0=>
  ((law14_index m (Dt.toStr v0) (List.length (Dt.L x2 3):Int)).bind fun r1=>
  (bif (decide (r1<0)) then
  some false
  else
  (J 0 8 0 (s4_3 x0 x1 r1 x2) (e4 J m w4_1 [M1] (s4_3 x0 x1 r1 x2))))))
   else
  (J 0 9 0 (s4_4 x0 x1 x2) (e4 J m w4_3 [M1] (s4_4 x0 x1 x2)))):=fun J=>by kernel_rfl
 exact(h jn).trans (by
   simp only[jn_eq,law14_walk_j3_eq m M1 rec1 h1,law14_walk_j5_eq m M1 rec1 h1]
   rfl)
theorem law14_walk_j7_eq (m:Nat):e4 jn m [1,1] [] s4_7=law14_walk_j7 m:=by
 have h:∀J,e4 J m [1,1] [] s4_7=
  some true:=fun J=>by kernel_rfl
 exact(h jn).trans (rfl)
theorem law14_walk_l1_eq (m:Nat):∀(M1:Nat) (x0:List Dt) (x1:Int) (x2:Dt),l4 jn m [1,0,1,0] [] M1 (s4_4 x0 x1 x2)=law14_walk_l1 m M1 x0 x1 x2
 |0,_,_,_=>rfl
 | M1+1,x0,x1,x2=>by
   have h:∀J,l4 J m [1,0,1,0] [] (M1+1) (s4_4 x0 x1 x2)=
   (bif (decide (x1<(List.length x0:Int))) then
  (J 0 4 0 (s4_4 x0 x1 x2) (e4 J m w4_4 [M1] (s4_4 x0 x1 x2)))
   else
  (J 0 13 0 s4_7 (e4 J m [1,1] [] s4_7))):=fun J=>by kernel_rfl
   refine(h jn).trans ?_
   simp only[jn_eq,law14_walk_j2_eq m M1 (law14_walk_l1 m M1) (fun x0 x1 x2=>law14_walk_l1_eq m M1 x0 x1 x2),law14_walk_j7_eq m]
   rfl
theorem law14_walk_j0_eq (m:Nat) (x0:List Dt) (x1:Int) (x2:Dt):e4 jn m [1,0,1] [] (s4_4 x0 x1 x2)=law14_walk_j0 m x0 x1 x2:=by
 have h:∀J,e4 J m [1,0,1] [] (s4_4 x0 x1 x2)=
  (J 1 2 (Nat.succ m) (s4_4 x0 x1 x2) (l4 J m [1,0,1,0] [] (Nat.succ m) (s4_4 x0 x1 x2))):=fun J=>by kernel_rfl
 exact(h jn).trans (by
  simp only[jn_eq,law14_walk_l1_eq m]
  rfl)
theorem law14_walk_eq (m:Nat) (a0:Dt) (a1:List Dt):e4 jn m [] [] ⟨[(.dat 25 a0),(.dat 26 (.lst a1))],[],0⟩=law14_walk (m+1) a0 a1:=by
 have h:∀J,e4 J m [] [] ⟨[(.dat 25 a0),(.dat 26 (.lst a1))],[],0⟩=
  (J 0 2 0 (s4_4 a1 0 a0) (e4 J m [1,0,1] [] (s4_4 a1 0 a0))):=fun J=>by kernel_rfl
 refine(h jn).trans ?_
 simp only[jn_eq,law14_walk_j0_eq m]
 rfl
noncomputable def d46 (q:Res):Option Bool:=match q with
 |(.dat T0 x0,[])=>bif Nat.beq T0 4 then some x0.toBool else none
 |_=>none
def w46_0:List Nat:=[1,1,0,1,0]
def w46_1:List Nat:=[1,1,0,1,0,0,1,1,1]
def w46_2:List Nat:=[1,1,0,1,0,0,1,1,0,0,1,1]
def w46_3:List Nat:=[1,1,0,1,0,0,1,1]
theorem d46_sim {b:Res} {r:Bool} (h:d46 b=some r):Sim Tryd.prog b ((.dat 4 (.bool r)),[]):=by
 unfold d46 at h
 split at h
 ·obtain⟨hc,h2⟩:=bif_some h
  cases h2
  have e0:=beq_eq hc
  subst e0
  exact Sim.of (.of (.dat (.bool Tryd.underlying4)) rfl rfl) .nil
 ·cases h
noncomputable def e46 (J:Nat→Nat→Nat→St→Option Bool→Option Bool) (m:Nat) (p ms:List Nat) (σ:St):=evAt Tryd.prog env (ct m) J (m+1) 56 39 Tryd.f56 d46 p ms σ
noncomputable def l46 (J:Nat→Nat→Nat→St→Option Bool→Option Bool) (m:Nat) (p ms:List Nat) (M:Nat) (σ:St):=loopAt Tryd.prog env (ct m) J (m+1) 56 39 Tryd.f56 d46 p ms M σ
noncomputable def s46_6 (x0:ByteArray) (x1 x2:Int):St:=⟨tsOf [(0,(.dat 9 (.str x0))),(18,(.dat 3 (.int x1))),(19,(.dat 3 (.int x2)))],[],0⟩
noncomputable def s46_5 (x0:ByteArray) (x1 x2:Int) (x3:Bool):St:=⟨tsOf [(0,(.dat 9 (.str x0))),(18,(.dat 3 (.int x1))),(19,(.dat 3 (.int x2))),(37,(.dat 4 (.bool x3)))],[],0⟩
noncomputable def s46_7:St:=⟨tsOf [],[],0⟩
noncomputable def s46_1 (x0:ByteArray):St:=⟨tsOf [(0,(.dat 9 (.str x0)))],[],0⟩
noncomputable def s46_0 (x0:ByteArray) (x1:Bool):St:=⟨tsOf [(0,(.dat 9 (.str x0))),(16,(.dat 4 (.bool x1)))],[],0⟩
theorem schema_isName_j6_eq (m:Nat) (M3:Nat) (rec3:ByteArray→Int→Int→Option Bool) (h3:∀(x0:ByteArray) (x1 x2:Int),l46 jn m w46_0 [] M3 (s46_6 x0 x1 x2)=rec3 x0 x1 x2) (x0:ByteArray) (x1 x2:Int):e46 jn m w46_1 [M3] (s46_6 x0 x1 x2)=schema_isName_j6 m rec3 x0 x1 x2:=by
 have h:∀J,e46 J m w46_1 [M3] (s46_6 x0 x1 x2)=
  (J 1 4 M3 (s46_6 x0 x1 (IntKind.wrap .i64 (x2+1))) (l46 J m w46_0 [] M3 (s46_6 x0 x1 (IntKind.wrap .i64 (x2+1))))):=fun J=>by kernel_rfl
 exact(h jn).trans (by
  simp only[jn_eq,h3]
  rfl)
theorem schema_isName_j5_eq (m:Nat) (M3:Nat) (rec3:ByteArray→Int→Int→Option Bool) (h3:∀(x0:ByteArray) (x1 x2:Int),l46 jn m w46_0 [] M3 (s46_6 x0 x1 x2)=rec3 x0 x1 x2) (x0:ByteArray) (x1 x2:Int) (x3:Bool):e46 jn m w46_2 [M3] (s46_5 x0 x1 x2 x3)=schema_isName_j5 m rec3 x0 x1 x2 x3:=by
 have h:∀J,e46 J m w46_2 [M3] (s46_5 x0 x1 x2 x3)=
   (bif x3 then
  some false
   else
  (J 0 8 0 (s46_6 x0 x1 x2) (e46 J m w46_1 [M3] (s46_6 x0 x1 x2)))):=fun J=>by kernel_rfl
 exact(h jn).trans (by
   simp only[jn_eq,schema_isName_j6_eq m M3 rec3 h3]
   rfl)
theorem schema_isName_j4_eq (m:Nat) (M3:Nat) (rec3:ByteArray→Int→Int→Option Bool) (h3:∀(x0:ByteArray) (x1 x2:Int),l46 jn m w46_0 [] M3 (s46_6 x0 x1 x2)=rec3 x0 x1 x2) (x0:ByteArray) (x1 x2:Int):e46 jn m w46_3 [M3] (s46_6 x0 x1 x2)=schema_isName_j4 m rec3 x0 x1 x2:=by
 have h:∀J,e46 J m w46_3 [M3] (s46_6 x0 x1 x2)=
   ((idxS x0 x2).bind fun v0=>
  (bif (decide (v0<33)) then
  (J 0 7 0 (s46_5 x0 x1 x2 true) (e46 J m w46_2 [M3] (s46_5 x0 x1 x2 true)))
  else
  ((idxS x0 x2).bind fun v1=>
  (bif (decide (126<v1)) then
  (J 0 7 0 (s46_5 x0 x1 x2 true) (e46 J m w46_2 [M3] (s46_5 x0 x1 x2 true)))
  else
  ((idxS x0 x2).bind fun v2=>
  (J 0 7 0 (s46_5 x0 x1 x2 (v2==46)) (e46 J m w46_2 [M3] (s46_5 x0 x1 x2 (v2==46))))))))):=fun J=>by kernel_rfl
 exact(h jn).trans (by
   simp only[jn_eq,schema_isName_j5_eq m M3 rec3 h3]
   rfl)
theorem schema_isName_j7_eq (m:Nat):e46 jn m [1,1,1] [] s46_7=schema_isName_j7 m:=by
 have h:∀J,e46 J m [1,1,1] [] s46_7=
  some true:=fun J=>by kernel_rfl
 exact(h jn).trans (rfl)
theorem schema_isName_l3_eq (m:Nat):∀(M3:Nat) (x0:ByteArray) (x1 x2:Int),l46 jn m w46_0 [] M3 (s46_6 x0 x1 x2)=schema_isName_l3 m M3 x0 x1 x2
 |0,_,_,_=>rfl
 | M3+1,x0,x1,x2=>by
   have h:∀J,l46 J m w46_0 [] (M3+1) (s46_6 x0 x1 x2)=
   (bif (decide (x2<x1)) then
  (J 0 5 0 (s46_6 x0 x1 x2) (e46 J m w46_3 [M3] (s46_6 x0 x1 x2)))
   else
  (J 0 9 0 s46_7 (e46 J m [1,1,1] [] s46_7))):=fun J=>by kernel_rfl
   refine(h jn).trans ?_
   simp only[jn_eq,schema_isName_j4_eq m M3 (schema_isName_l3 m M3) (fun x0 x1 x2=>schema_isName_l3_eq m M3 x0 x1 x2),schema_isName_j7_eq m]
   rfl
theorem schema_isName_j2_eq (m:Nat) (x0:ByteArray) (x1 x2:Int):e46 jn m [1,1,0,1] [] (s46_6 x0 x1 x2)=schema_isName_j2 m x0 x1 x2:=by
 have h:∀J,e46 J m [1,1,0,1] [] (s46_6 x0 x1 x2)=
  (J 1 4 (Nat.succ m) (s46_6 x0 x1 x2) (l46 J m w46_0 [] (Nat.succ m) (s46_6 x0 x1 x2))):=fun J=>by kernel_rfl
 exact(h jn).trans (by
  simp only[jn_eq,schema_isName_l3_eq m]
  rfl)
theorem schema_isName_j1_eq (m:Nat) (x0:ByteArray):e46 jn m [1,1] [] (s46_1 x0)=schema_isName_j1 m x0:=by
 have h:∀J,e46 J m [1,1] [] (s46_1 x0)=
  (J 0 4 0 (s46_6 x0 (ByteArray.size x0:Int) 0) (e46 J m [1,1,0,1] [] (s46_6 x0 (ByteArray.size x0:Int) 0))):=fun J=>by kernel_rfl
 exact(h jn).trans (by
  simp only[jn_eq,schema_isName_j2_eq m]
  rfl)
theorem schema_isName_j0_eq (m:Nat) (x0:ByteArray) (x1:Bool):e46 jn m [1,0,1] [] (s46_0 x0 x1)=schema_isName_j0 m x0 x1:=by
 have h:∀J,e46 J m [1,0,1] [] (s46_0 x0 x1)=
   (bif x1 then
  some false
   else
  (J 0 3 0 (s46_1 x0) (e46 J m [1,1] [] (s46_1 x0)))):=fun J=>by kernel_rfl
 exact(h jn).trans (by
   simp only[jn_eq,schema_isName_j1_eq m]
   rfl)
theorem schema_isName_eq (m:Nat) (a0:ByteArray):e46 jn m [] [] ⟨[(.dat 9 (.str a0))],[],0⟩=schema_isName (m+1) a0:=by
 have h:∀J,e46 J m [] [] ⟨[(.dat 9 (.str a0))],[],0⟩=
   (bif (decide ((ByteArray.size a0:Int)<1)) then
  (J 0 2 0 (s46_0 a0 true) (e46 J m [1,0,1] [] (s46_0 a0 true)))
   else
  (bif (decide (32<(ByteArray.size a0:Int))) then
  (J 0 2 0 (s46_0 a0 true) (e46 J m [1,0,1] [] (s46_0 a0 true)))
  else
  ((idxS a0 0).bind fun v3=>
  (J 0 2 0 (s46_0 a0 (v3==36)) (e46 J m [1,0,1] [] (s46_0 a0 (v3==36))))))):=fun J=>by kernel_rfl
 refine(h jn).trans ?_
 simp only[jn_eq,schema_isName_j0_eq m]
 rfl
noncomputable def d53 (q:Res):Option Bool:=match q with
 |(.dat T0 x0,[])=>bif Nat.beq T0 4 then some x0.toBool else none
 |_=>none
theorem d53_sim {b:Res} {r:Bool} (h:d53 b=some r):Sim Tryd.prog b ((.dat 4 (.bool r)),[]):=by
 unfold d53 at h
 split at h
 ·obtain⟨hc,h2⟩:=bif_some h
  cases h2
  have e0:=beq_eq hc
  subst e0
  exact Sim.of (.of (.dat (.bool Tryd.underlying4)) rfl rfl) .nil
 ·cases h
noncomputable def e53 (J:Nat→Nat→Nat→St→Option Bool→Option Bool) (m:Nat) (p ms:List Nat) (σ:St):=evAt Tryd.prog env (ct m) J (m+1) 81 6 Tryd.f81 d53 p ms σ
noncomputable def l53 (J:Nat→Nat→Nat→St→Option Bool→Option Bool) (m:Nat) (p ms:List Nat) (M:Nat) (σ:St):=loopAt Tryd.prog env (ct m) J (m+1) 81 6 Tryd.f81 d53 p ms M σ
theorem cmp_isNaN_eq (m:Nat) (a0:Int):e53 jn m [] [] ⟨[(.dat 3 (.int a0))],[],0⟩=cmp_isNaN (m+1) a0:=by
 have h:∀J,e53 J m [] [] ⟨[(.dat 3 (.int a0))],[],0⟩=
  some (a0 !=a0):=fun J=>by kernel_rfl
 refine(h jn).trans ?_
 rfl
noncomputable def d36 (q:Res):Option Int:=match q with
 |(.dat T0 x0,[])=>bif Nat.beq T0 3 then some x0.toInt else none
 |_=>none
def w36_0:List Nat:=[1,1,1,0,1,0,1]
def w36_1:List Nat:=[1,1,1,1,1,1,1]
def w36_2:List Nat:=[1,1,1,1,1,1]
def w36_3:List Nat:=[1,1,1,1,1]
theorem d36_sim {b:Res} {r:Int} (h:d36 b=some r):Sim Tryd.prog b ((.dat 3 (.int r)),[]):=by
 unfold d36 at h
 split at h
 ·obtain⟨hc,h2⟩:=bif_some h
  cases h2
  have e0:=beq_eq hc
  subst e0
  exact Sim.of (.of (.dat (.int Tryd.underlying3)) rfl rfl) .nil
 ·cases h
noncomputable def e36 (J:Nat→Nat→Nat→St→Option Int→Option Int) (m:Nat) (p ms:List Nat) (σ:St):=evAt Tryd.prog env (ct m) J (m+1) 66 20 Tryd.f66 d36 p ms σ
noncomputable def l36 (J:Nat→Nat→Nat→St→Option Int→Option Int) (m:Nat) (p ms:List Nat) (M:Nat) (σ:St):=loopAt Tryd.prog env (ct m) J (m+1) 66 20 Tryd.f66 d36 p ms M σ
noncomputable def s36_0:St:=⟨tsOf [],[],0⟩
noncomputable def s36_3 (x0 x1:Int):St:=⟨tsOf [(0,(.dat 3 (.int x0))),(1,(.dat 3 (.int x1)))],[],0⟩
noncomputable def s36_1 (x0 x1:Int) (x2:Bool):St:=⟨tsOf [(0,(.dat 3 (.int x0))),(1,(.dat 3 (.int x1))),(6,(.dat 4 (.bool x2)))],[],0⟩
theorem cmp_Compare_j0_eq (m:Nat):e36 jn m w36_0 [] s36_0=cmp_Compare_j0 m:=by
 have h:∀J,e36 J m w36_0 [] s36_0=
  some (-1):=fun J=>by kernel_rfl
 exact(h jn).trans (rfl)
theorem cmp_Compare_j4_eq (m:Nat):e36 jn m w36_1 [] s36_0=cmp_Compare_j4 m:=by
 have h:∀J,e36 J m w36_1 [] s36_0=
  some 0:=fun J=>by kernel_rfl
 exact(h jn).trans (rfl)
theorem cmp_Compare_j3_eq (m:Nat) (x0 x1:Int):e36 jn m w36_2 [] (s36_3 x0 x1)=cmp_Compare_j3 m x0 x1:=by
 have h:∀J,e36 J m w36_2 [] (s36_3 x0 x1)=
   (bif (decide (x1<x0)) then
  some 1
   else
  (J 0 13 0 s36_0 (e36 J m w36_1 [] s36_0))):=fun J=>by kernel_rfl
 exact(h jn).trans (by
   simp only[jn_eq,cmp_Compare_j4_eq m]
   rfl)
theorem cmp_Compare_j2_eq (m:Nat) (x0 x1:Int):e36 jn m w36_3 [] (s36_3 x0 x1)=cmp_Compare_j2 m x0 x1:=by
 have h:∀J,e36 J m w36_3 [] (s36_3 x0 x1)=
   (bif (decide (x0<x1)) then
  some (-1)
   else
  (J 0 11 0 (s36_3 x0 x1) (e36 J m w36_2 [] (s36_3 x0 x1)))):=fun J=>by kernel_rfl
 exact(h jn).trans (by
   simp only[jn_eq,cmp_Compare_j3_eq m]
   rfl)
theorem cmp_Compare_j1_eq (m:Nat) (x0 x1:Int) (x2:Bool):e36 jn m [1,1,1,1] [] (s36_1 x0 x1 x2)=cmp_Compare_j1 m x0 x1 x2:=by
 have h:∀J,e36 J m [1,1,1,1] [] (s36_1 x0 x1 x2)=
   (bif x2 then
  some 1
   else
  (J 0 9 0 (s36_3 x0 x1) (e36 J m w36_3 [] (s36_3 x0 x1)))):=fun J=>by kernel_rfl
 exact(h jn).trans (by
   simp only[jn_eq,cmp_Compare_j2_eq m]
   rfl)
theorem cmp_Compare_eq (m:Nat) (a0 a1:Int):e36 jn m [] [] ⟨[(.dat 3 (.int a0)),(.dat 3 (.int a1))],[],0⟩=cmp_Compare (m+1) a0 a1:=by
 have h:∀J,e36 J m [] [] ⟨[(.dat 3 (.int a0)),(.dat 3 (.int a1))],[],0⟩=
   ((cmp_isNaN m a0).bind fun r0=>
  ((cmp_isNaN m a1).bind fun r1=>
  (bif r0 then
  (bif r1 then
  some 0
  else
  (J 0 6 0 s36_0 (e36 J m w36_0 [] s36_0)))
  else
  (J 0 7 0 (s36_1 a0 a1 r1) (e36 J m [1,1,1,1] [] (s36_1 a0 a1 r1)))))):=fun J=>by kernel_rfl
 refine(h jn).trans ?_
 simp only[jn_eq,cmp_Compare_j0_eq m,cmp_Compare_j1_eq m]
 rfl
noncomputable def d18 (q:Res):Option Int:=match q with
 |(.dat T0 x0,[])=>bif Nat.beq T0 3 then some x0.toInt else none
 |_=>none
def w18_0:List Nat:=[1,1,0,1,0,1,1,1,1,1,0,0,1,0]
def w18_1:List Nat:=[1,1,0,1,0,1,1,1,1,1,0,0,1,0,0,1,1,1]
def w18_2:List Nat:=[1,1,0,1,0,1,1,1,1,1,0,0,1,0,0,1,1]
def w18_3:List Nat:=[1,1,0,1,0,1,1,1,1,1,0,1]
def w18_4:List Nat:=[1,1,0,1,0,1,1,1,1,1,0,0,1]
def w18_5:List Nat:=[1,1,0,1,0,1,1,1,1,1,1,1,0,0,1,0]
def w18_6:List Nat:=[1,1,0,1,0,1,1,1,1,1,1,1,0,0,1,0,0,1,1,1]
def w18_7:List Nat:=[1,1,0,1,0,1,1,1,1,1,1,1,0,0,1,0,0,1,1,0,0,1,1]
def w18_8:List Nat:=[1,1,0,1,0,1,1,1,1,1,1,1,0,0,1,0,0,1,1]
def w18_9:List Nat:=[1,1,0,1,0,1,1,1,1,1,1,1,0,1]
def w18_10:List Nat:=[1,1,0,1,0,1,1,1,1,1,1,1,0,0,1]
def w18_11:List Nat:=[1,1,0,1,0,1,1,1]
def w18_12:List Nat:=[1,1,0,1,0,1]
theorem d18_sim {b:Res} {r:Int} (h:d18 b=some r):Sim Tryd.prog b ((.dat 3 (.int r)),[]):=by
 unfold d18 at h
 split at h
 ·obtain⟨hc,h2⟩:=bif_some h
  cases h2
  have e0:=beq_eq hc
  subst e0
  exact Sim.of (.of (.dat (.int Tryd.underlying3)) rfl rfl) .nil
 ·cases h
noncomputable def e18 (J:Nat→Nat→Nat→St→Option Int→Option Int) (m:Nat) (p ms:List Nat) (σ:St):=evAt Tryd.prog env (ct m) J (m+1) 43 126 Tryd.f43 d18 p ms σ
noncomputable def l18 (J:Nat→Nat→Nat→St→Option Int→Option Int) (m:Nat) (p ms:List Nat) (M:Nat) (σ:St):=loopAt Tryd.prog env (ct m) J (m+1) 43 126 Tryd.f43 d18 p ms M σ
noncomputable def s18_6 (x0 x1:Int) (x2 x3:Dt):St:=⟨tsOf [(2,(.ptr 0 [] 0)),(3,(.ptr 1 [] 0)),(48,(.dat 3 (.int x0))),(49,(.dat 3 (.int x1)))],[(.box 25 (.dat 25 x2)),(.box 25 (.dat 25 x3))],0⟩
noncomputable def s18_7 (x0 x1:Dt):St:=⟨tsOf [(2,(.ptr 0 [] 0)),(3,(.ptr 1 [] 0))],[(.box 25 (.dat 25 x0)),(.box 25 (.dat 25 x1))],0⟩
noncomputable def s18_12 (x0 x1:Int) (x2 x3:Dt):St:=⟨tsOf [(2,(.ptr 0 [] 0)),(3,(.ptr 1 [] 0)),(82,(.dat 3 (.int x0))),(83,(.dat 3 (.int x1)))],[(.box 25 (.dat 25 x2)),(.box 25 (.dat 25 x3))],0⟩
noncomputable def s18_11 (x0 x1 x2:Int) (x3 x4:Dt):St:=⟨tsOf [(2,(.ptr 0 [] 0)),(3,(.ptr 1 [] 0)),(7,(.dat 3 (.int x0))),(82,(.dat 3 (.int x1))),(83,(.dat 3 (.int x2)))],[(.box 25 (.dat 25 x3)),(.box 25 (.dat 25 x4))],0⟩
noncomputable def s18_14:St:=⟨tsOf [],[],0⟩
noncomputable def s18_2 (x0:Int) (x1:Bool) (x2 x3:Dt):St:=⟨tsOf [(2,(.ptr 0 [] 0)),(3,(.ptr 1 [] 0)),(21,(.dat 3 (.int x0))),(31,(.dat 4 (.bool x1)))],[(.box 25 (.dat 25 x2)),(.box 25 (.dat 25 x3))],0⟩
noncomputable def s18_1 (x0:Int) (x1:Bool) (x2 x3:Dt):St:=⟨tsOf [(2,(.ptr 0 [] 0)),(3,(.ptr 1 [] 0)),(21,(.dat 3 (.int x0))),(22,(.dat 4 (.bool x1)))],[(.box 25 (.dat 25 x2)),(.box 25 (.dat 25 x3))],0⟩
theorem value_Compare_j6_eq (m:Nat) (M4:Nat) (rec4:Int→Int→Dt→Dt→Option Int) (h4:∀(x0 x1:Int) (x2 x3:Dt),l18 jn m w18_0 [] M4 (s18_6 x0 x1 x2 x3)=rec4 x0 x1 x2 x3) (x0 x1:Int) (x2 x3:Dt):e18 jn m w18_1 [M4] (s18_6 x0 x1 x2 x3)=value_Compare_j6 m (value_Compare m) rec4 x0 x1 x2 x3:=by
 have h:∀J,e18 J m w18_1 [M4] (s18_6 x0 x1 x2 x3)=
  (J 1 14 M4 (s18_6 x0 (IntKind.wrap .i64 (x1+1)) x2 x3) (l18 J m w18_0 [] M4 (s18_6 x0 (IntKind.wrap .i64 (x1+1)) x2 x3))):=fun J=>by kernel_rfl
 exact(h jn).trans (by
  simp only[jn_eq,h4]
  rfl)
theorem value_Compare_j5_eq (m:Nat) (M4:Nat) (rec4:Int→Int→Dt→Dt→Option Int) (h4:∀(x0 x1:Int) (x2 x3:Dt),l18 jn m w18_0 [] M4 (s18_6 x0 x1 x2 x3)=rec4 x0 x1 x2 x3) (x0 x1:Int) (x2 x3:Dt):e18 jn m w18_2 [M4] (s18_6 x0 x1 x2 x3)=value_Compare_j5 m (value_Compare m) rec4 x0 x1 x2 x3:=by
 have h:∀J,e18 J m w18_2 [M4] (s18_6 x0 x1 x2 x3)=
   ((idx (Dt.L x2 3) x1).bind fun v3=>
  ((idx (Dt.L x3 3) x1).bind fun v4=>
  ((value_Compare m v3 v4).bind fun r5=>
  (bif (r5 !=0) then
  some r5
  else
  (J 0 19 0 (s18_6 x0 x1 x2 x3) (e18 J m w18_1 [M4] (s18_6 x0 x1 x2 x3))))))):=fun J=>by kernel_rfl
 exact(h jn).trans (by
   simp only[jn_eq,value_Compare_j6_eq m M4 rec4 h4]
   rfl)
theorem value_Compare_j7_eq (m:Nat) (x0 x1:Dt):e18 jn m w18_3 [] (s18_7 x0 x1)=value_Compare_j7 m (value_Compare m) x0 x1:=by
 have h:∀J,e18 J m w18_3 [] (s18_7 x0 x1)=
   ((cmp_Compare m (List.length (Dt.L x0 3):Int) (List.length (Dt.L x1 3):Int)).bind fun r6=>
  some r6):=fun J=>by kernel_rfl
 exact(h jn).trans (rfl)
theorem value_Compare_l4_eq (m:Nat):∀(M4:Nat) (x0 x1:Int) (x2 x3:Dt),l18 jn m w18_0 [] M4 (s18_6 x0 x1 x2 x3)=value_Compare_l4 m (value_Compare m) M4 x0 x1 x2 x3
 |0,_,_,_,_=>rfl
 | M4+1,x0,x1,x2,x3=>by
   have h:∀J,l18 J m w18_0 [] (M4+1) (s18_6 x0 x1 x2 x3)=
   (bif (decide (x1<x0)) then
  (J 0 15 0 (s18_6 x0 x1 x2 x3) (e18 J m w18_2 [M4] (s18_6 x0 x1 x2 x3)))
   else
  (J 0 20 0 (s18_7 x2 x3) (e18 J m w18_3 [] (s18_7 x2 x3)))):=fun J=>by kernel_rfl
   refine(h jn).trans ?_
   simp only[jn_eq,value_Compare_j5_eq m M4 (value_Compare_l4 m (value_Compare m) M4) (fun x0 x1 x2 x3=>value_Compare_l4_eq m M4 x0 x1 x2 x3),value_Compare_j7_eq m]
   rfl
theorem value_Compare_j3_eq (m:Nat) (x0 x1:Int) (x2 x3:Dt):e18 jn m w18_4 [] (s18_6 x0 x1 x2 x3)=value_Compare_j3 m (value_Compare m) x0 x1 x2 x3:=by
 have h:∀J,e18 J m w18_4 [] (s18_6 x0 x1 x2 x3)=
  (J 1 14 (Nat.succ m) (s18_6 x0 x1 x2 x3) (l18 J m w18_0 [] (Nat.succ m) (s18_6 x0 x1 x2 x3))):=fun J=>by kernel_rfl
 exact(h jn).trans (by
  simp only[jn_eq,value_Compare_l4_eq m]
  rfl)
theorem value_Compare_j12_eq (m:Nat) (M9:Nat) (rec9:Int→Int→Dt→Dt→Option Int) (h9:∀(x0 x1:Int) (x2 x3:Dt),l18 jn m w18_5 [] M9 (s18_12 x0 x1 x2 x3)=rec9 x0 x1 x2 x3) (x0 x1:Int) (x2 x3:Dt):e18 jn m w18_6 [M9] (s18_12 x0 x1 x2 x3)=value_Compare_j12 m (value_Compare m) rec9 x0 x1 x2 x3:=by
 have h:∀J,e18 J m w18_6 [M9] (s18_12 x0 x1 x2 x3)=
  (J 1 23 M9 (s18_12 x0 (IntKind.wrap .i64 (x1+1)) x2 x3) (l18 J m w18_5 [] M9 (s18_12 x0 (IntKind.wrap .i64 (x1+1)) x2 x3))):=fun J=>by kernel_rfl
 exact(h jn).trans (by
  simp only[jn_eq,h9]
  rfl)
theorem value_Compare_j11_eq (m:Nat) (M9:Nat) (rec9:Int→Int→Dt→Dt→Option Int) (h9:∀(x0 x1:Int) (x2 x3:Dt),l18 jn m w18_5 [] M9 (s18_12 x0 x1 x2 x3)=rec9 x0 x1 x2 x3) (x0 x1 x2:Int) (x3 x4:Dt):e18 jn m w18_7 [M9] (s18_11 x0 x1 x2 x3 x4)=value_Compare_j11 m (value_Compare m) rec9 x0 x1 x2 x3 x4:=by
 have h:∀J,e18 J m w18_7 [M9] (s18_11 x0 x1 x2 x3 x4)=
   ((idx (Dt.L x3 4) x0).bind fun v10=>
  ((idx (Dt.L x4 4) x0).bind fun v11=>
  ((value_Compare m (Dt.fld v10 1) (Dt.fld v11 1)).bind fun r12=>
  (bif (r12 !=0) then
  some r12
  else
  (J 0 31 0 (s18_12 x1 x2 x3 x4) (e18 J m w18_6 [M9] (s18_12 x1 x2 x3 x4))))))):=fun J=>by kernel_rfl
 exact(h jn).trans (by
   simp only[jn_eq,value_Compare_j12_eq m M9 rec9 h9]
   rfl)
theorem value_Compare_j10_eq (m:Nat) (M9:Nat) (rec9:Int→Int→Dt→Dt→Option Int) (h9:∀(x0 x1:Int) (x2 x3:Dt),l18 jn m w18_5 [] M9 (s18_12 x0 x1 x2 x3)=rec9 x0 x1 x2 x3) (x0 x1:Int) (x2 x3:Dt):e18 jn m w18_8 [M9] (s18_12 x0 x1 x2 x3)=value_Compare_j10 m (value_Compare m) rec9 x0 x1 x2 x3:=by
 have h:∀J,e18 J m w18_8 [M9] (s18_12 x0 x1 x2 x3)=
   ((idx (Dt.L x2 4) x1).bind fun v7=>
  ((idx (Dt.L x3 4) x1).bind fun v8=>
  ((strings_Compare (Dt.S v7 0) (Dt.S v8 0)).bind fun r9=>
  (bif (r9 !=0) then
  some r9
  else
  (J 0 28 0 (s18_11 x1 x0 x1 x2 x3) (e18 J m w18_7 [M9] (s18_11 x1 x0 x1 x2 x3))))))):=fun J=>by kernel_rfl
 exact(h jn).trans (by
   simp only[jn_eq,value_Compare_j11_eq m M9 rec9 h9]
   rfl)
theorem value_Compare_j13_eq (m:Nat) (x0 x1:Dt):e18 jn m w18_9 [] (s18_7 x0 x1)=value_Compare_j13 m (value_Compare m) x0 x1:=by
 have h:∀J,e18 J m w18_9 [] (s18_7 x0 x1)=
   ((cmp_Compare m (List.length (Dt.L x0 4):Int) (List.length (Dt.L x1 4):Int)).bind fun r13=>
  some r13):=fun J=>by kernel_rfl
 exact(h jn).trans (rfl)
theorem value_Compare_l9_eq (m:Nat):∀(M9:Nat) (x0 x1:Int) (x2 x3:Dt),l18 jn m w18_5 [] M9 (s18_12 x0 x1 x2 x3)=value_Compare_l9 m (value_Compare m) M9 x0 x1 x2 x3
 |0,_,_,_,_=>rfl
 | M9+1,x0,x1,x2,x3=>by
   have h:∀J,l18 J m w18_5 [] (M9+1) (s18_12 x0 x1 x2 x3)=
   (bif (decide (x1<x0)) then
  (J 0 24 0 (s18_12 x0 x1 x2 x3) (e18 J m w18_8 [M9] (s18_12 x0 x1 x2 x3)))
   else
  (J 0 32 0 (s18_7 x2 x3) (e18 J m w18_9 [] (s18_7 x2 x3)))):=fun J=>by kernel_rfl
   refine(h jn).trans ?_
   simp only[jn_eq,value_Compare_j10_eq m M9 (value_Compare_l9 m (value_Compare m) M9) (fun x0 x1 x2 x3=>value_Compare_l9_eq m M9 x0 x1 x2 x3),value_Compare_j13_eq m]
   rfl
theorem value_Compare_j8_eq (m:Nat) (x0 x1:Int) (x2 x3:Dt):e18 jn m w18_10 [] (s18_12 x0 x1 x2 x3)=value_Compare_j8 m (value_Compare m) x0 x1 x2 x3:=by
 have h:∀J,e18 J m w18_10 [] (s18_12 x0 x1 x2 x3)=
  (J 1 23 (Nat.succ m) (s18_12 x0 x1 x2 x3) (l18 J m w18_5 [] (Nat.succ m) (s18_12 x0 x1 x2 x3))):=fun J=>by kernel_rfl
 exact(h jn).trans (by
  simp only[jn_eq,value_Compare_l9_eq m]
  rfl)
theorem value_Compare_j14_eq (m:Nat):e18 jn m [1,1,1] [] s18_14=value_Compare_j14 m (value_Compare m):=by
 have h:∀J,e18 J m [1,1,1] [] s18_14=
  some 0:=fun J=>by kernel_rfl
 exact(h jn).trans (rfl)
theorem value_Compare_j2_eq (m:Nat) (x0:Int) (x1:Bool) (x2 x3:Dt):e18 jn m w18_11 [] (s18_2 x0 x1 x2 x3)=value_Compare_j2 m (value_Compare m) x0 x1 x2 x3:=by
 have h:∀J,e18 J m w18_11 [] (s18_2 x0 x1 x2 x3)=
   (bif x1 then
  ((strings_Compare (Dt.S x2 2) (Dt.S x3 2)).bind fun r2=>
  some r2)
   else
  (bif (x0==6) then
  (J 0 14 0 (s18_6 (bif (decide ((List.length (Dt.L x3 3):Int)<(List.length (Dt.L x2 3):Int))) then(List.length (Dt.L x3 3):Int) else(List.length (Dt.L x2 3):Int)) 0 x2 x3) (e18 J m w18_4 [] (s18_6 (bif (decide ((List.length (Dt.L x3 3):Int)<(List.length (Dt.L x2 3):Int))) then(List.length (Dt.L x3 3):Int) else(List.length (Dt.L x2 3):Int)) 0 x2 x3)))
  else
  (bif (x0==5) then
  (J 0 23 0 (s18_12 (bif (decide ((List.length (Dt.L x3 4):Int)<(List.length (Dt.L x2 4):Int))) then(List.length (Dt.L x3 4):Int) else(List.length (Dt.L x2 4):Int)) 0 x2 x3) (e18 J m w18_10 [] (s18_12 (bif (decide ((List.length (Dt.L x3 4):Int)<(List.length (Dt.L x2 4):Int))) then(List.length (Dt.L x3 4):Int) else(List.length (Dt.L x2 4):Int)) 0 x2 x3)))
  else
  (J 0 33 0 s18_14 (e18 J m [1,1,1] [] s18_14))))):=fun J=>by kernel_rfl
 exact(h jn).trans (by
   simp only[jn_eq,value_Compare_j3_eq m,value_Compare_j8_eq m,value_Compare_j14_eq m]
   rfl)
theorem value_Compare_j1_eq (m:Nat) (x0:Int) (x1:Bool) (x2 x3:Dt):e18 jn m w18_12 [] (s18_1 x0 x1 x2 x3)=value_Compare_j1 m (value_Compare m) x0 x1 x2 x3:=by
 have h:∀J,e18 J m w18_12 [] (s18_1 x0 x1 x2 x3)=
   (bif x1 then
  ((cmp_Compare m (Dt.I x2 1) (Dt.I x3 1)).bind fun r1=>
  some r1)
   else
  (bif (x0==4) then
  (J 0 11 0 (s18_2 x0 (x0==4) x2 x3) (e18 J m w18_11 [] (s18_2 x0 (x0==4) x2 x3)))
  else
  (bif (x0==7) then
  (J 0 11 0 (s18_2 x0 (x0==7) x2 x3) (e18 J m w18_11 [] (s18_2 x0 (x0==7) x2 x3)))
  else
  (J 0 11 0 (s18_2 x0 (x0==8) x2 x3) (e18 J m w18_11 [] (s18_2 x0 (x0==8) x2 x3)))))):=fun J=>by kernel_rfl
 exact(h jn).trans (by
   simp only[jn_eq,value_Compare_j2_eq m]
   rfl)
theorem value_Compare_j0_eq (m:Nat) (x0 x1:Dt):e18 jn m [1,1] [] (s18_7 x0 x1)=value_Compare_j0 m (value_Compare m) x0 x1:=by
 have h:∀J,e18 J m [1,1] [] (s18_7 x0 x1)=
   (bif ((Dt.I x0 0)==3) then
  (J 0 7 0 (s18_1 (Dt.I x0 0) ((Dt.I x0 0)==3) x0 x1) (e18 J m w18_12 [] (s18_1 (Dt.I x0 0) ((Dt.I x0 0)==3) x0 x1)))
   else
  (bif ((Dt.I x0 0)==9) then
  (J 0 7 0 (s18_1 (Dt.I x0 0) ((Dt.I x0 0)==9) x0 x1) (e18 J m w18_12 [] (s18_1 (Dt.I x0 0) ((Dt.I x0 0)==9) x0 x1)))
  else
  (J 0 7 0 (s18_1 (Dt.I x0 0) ((Dt.I x0 0)==10) x0 x1) (e18 J m w18_12 [] (s18_1 (Dt.I x0 0) ((Dt.I x0 0)==10) x0 x1))))):=fun J=>by kernel_rfl
 exact(h jn).trans (by
   simp only[jn_eq,value_Compare_j1_eq m]
   rfl)
theorem value_Compare_eq (m:Nat) (a0 a1:Dt):e18 jn m [] [] ⟨[(.dat 25 a0),(.dat 25 a1)],[],0⟩=value_Compare (m+1) a0 a1:=by
 have h:∀J,e18 J m [] [] ⟨[(.dat 25 a0),(.dat 25 a1)],[],0⟩=
   (bif ((Dt.I a0 0) !=(Dt.I a1 0)) then
  ((cmp_Compare m (Dt.I a0 0) (Dt.I a1 0)).bind fun r0=>
  some r0)
   else
  (J 0 3 0 (s18_7 a0 a1) (e18 J m [1,1] [] (s18_7 a0 a1)))):=fun J=>by kernel_rfl
 refine(h jn).trans ?_
 simp only[jn_eq,value_Compare_j0_eq m]
 rfl
noncomputable def d16 (q:Res):Option Bool:=match q with
 |(.dat T0 x0,[])=>bif Nat.beq T0 4 then some x0.toBool else none
 |_=>none
theorem d16_sim {b:Res} {r:Bool} (h:d16 b=some r):Sim Tryd.prog b ((.dat 4 (.bool r)),[]):=by
 unfold d16 at h
 split at h
 ·obtain⟨hc,h2⟩:=bif_some h
  cases h2
  have e0:=beq_eq hc
  subst e0
  exact Sim.of (.of (.dat (.bool Tryd.underlying4)) rfl rfl) .nil
 ·cases h
noncomputable def e16 (J:Nat→Nat→Nat→St→Option Bool→Option Bool) (m:Nat) (p ms:List Nat) (σ:St):=evAt Tryd.prog env (ct m) J (m+1) 40 9 Tryd.f40 d16 p ms σ
noncomputable def l16 (J:Nat→Nat→Nat→St→Option Bool→Option Bool) (m:Nat) (p ms:List Nat) (M:Nat) (σ:St):=loopAt Tryd.prog env (ct m) J (m+1) 40 9 Tryd.f40 d16 p ms M σ
theorem value_Equal_eq (m:Nat) (a0 a1:Dt):e16 jn m [] [] ⟨[(.dat 25 a0),(.dat 25 a1)],[],0⟩=value_Equal (m+1) a0 a1:=by
 have h:∀J,e16 J m [] [] ⟨[(.dat 25 a0),(.dat 25 a1)],[],0⟩=
   ((value_Compare m a0 a1).bind fun r0=>
  some (r0==0)):=fun J=>by kernel_rfl
 refine(h jn).trans ?_
 rfl
noncomputable def d15 (q:Res):Option Bool:=match q with
 |(.dat T0 x0,[])=>bif Nat.beq T0 4 then some x0.toBool else none
 |_=>none
theorem d15_sim {b:Res} {r:Bool} (h:d15 b=some r):Sim Tryd.prog b ((.dat 4 (.bool r)),[]):=by
 unfold d15 at h
 split at h
 ·obtain⟨hc,h2⟩:=bif_some h
  cases h2
  have e0:=beq_eq hc
  subst e0
  exact Sim.of (.of (.dat (.bool Tryd.underlying4)) rfl rfl) .nil
 ·cases h
noncomputable def e15 (J:Nat→Nat→Nat→St→Option Bool→Option Bool) (m:Nat) (p ms:List Nat) (σ:St):=evAt Tryd.prog env (ct m) J (m+1) 39 7 Tryd.f39 d15 p ms σ
noncomputable def l15 (J:Nat→Nat→Nat→St→Option Bool→Option Bool) (m:Nat) (p ms:List Nat) (M:Nat) (σ:St):=loopAt Tryd.prog env (ct m) J (m+1) 39 7 Tryd.f39 d15 p ms M σ
theorem i15_eq (m:Nat) (a0 a1:Dt):e15 jn m [] [] ⟨[(.dat 25 a0),(.rptr 25 a1)],[],0⟩=i15 (m+1) a0 a1:=by
 have h:∀J,e15 J m [] [] ⟨[(.dat 25 a0),(.rptr 25 a1)],[],0⟩=
   ((value_Equal m a0 a1).bind fun r0=>
  some r0):=fun J=>by kernel_rfl
 refine(h jn).trans ?_
 rfl
noncomputable def d14 (q:Res):Option Int:=match q with
 |(.dat T0 x0,[])=>bif Nat.beq T0 3 then some x0.toInt else none
 |_=>none
def w14_0:List Nat:=[1,0,1,0,0,1,1,1]
def w14_1:List Nat:=[1,0,1,0,0,1,1]
theorem d14_sim {b:Res} {r:Int} (h:d14 b=some r):Sim Tryd.prog b ((.dat 3 (.int r)),[]):=by
 unfold d14 at h
 split at h
 ·obtain⟨hc,h2⟩:=bif_some h
  cases h2
  have e0:=beq_eq hc
  subst e0
  exact Sim.of (.of (.dat (.int Tryd.underlying3)) rfl rfl) .nil
 ·cases h
noncomputable def e14 (J:Nat→Nat→Nat→St→Option Int→Option Int) (m:Nat) (p ms:List Nat) (σ:St):=evAt Tryd.prog env (ct m) J (m+1) 65 19 Tryd.f65 d14 p ms σ
noncomputable def l14 (J:Nat→Nat→Nat→St→Option Int→Option Int) (m:Nat) (p ms:List Nat) (M:Nat) (σ:St):=loopAt Tryd.prog env (ct m) J (m+1) 65 19 Tryd.f65 d14 p ms M σ
noncomputable def s14_3 (x0:List Dt) (x1:Dt) (x2 x3:Int):St:=⟨tsOf [(0,(.dat 22 (.lst x0))),(1,(.fn 39 [(.rptr 25 x1)])),(7,(.dat 3 (.int x2))),(8,(.dat 3 (.int x3)))],[],0⟩
noncomputable def s14_4:St:=⟨tsOf [],[],0⟩
theorem i14_j3_eq (m:Nat) (M1:Nat) (rec1:List Dt→Dt→Int→Int→Option Int) (h1:∀(x0:List Dt) (x1:Dt) (x2 x3:Int),l14 jn m [1,0,1,0] [] M1 (s14_3 x0 x1 x2 x3)=rec1 x0 x1 x2 x3) (x0:List Dt) (x1:Dt) (x2 x3:Int):e14 jn m w14_0 [M1] (s14_3 x0 x1 x2 x3)=i14_j3 m rec1 x0 x1 x2 x3:=by
 have h:∀J,e14 J m w14_0 [M1] (s14_3 x0 x1 x2 x3)=
  (J 1 2 M1 (s14_3 x0 x1 x2 (IntKind.wrap .i64 (x3+1))) (l14 J m [1,0,1,0] [] M1 (s14_3 x0 x1 x2 (IntKind.wrap .i64 (x3+1))))):=fun J=>by kernel_rfl
 exact(h jn).trans (by
  simp only[jn_eq,h1]
  rfl)
theorem i14_j2_eq (m:Nat) (M1:Nat) (rec1:List Dt→Dt→Int→Int→Option Int) (h1:∀(x0:List Dt) (x1:Dt) (x2 x3:Int),l14 jn m [1,0,1,0] [] M1 (s14_3 x0 x1 x2 x3)=rec1 x0 x1 x2 x3) (x0:List Dt) (x1:Dt) (x2 x3:Int):e14 jn m w14_1 [M1] (s14_3 x0 x1 x2 x3)=i14_j2 m rec1 x0 x1 x2 x3:=by
 have h:∀J,e14 J m w14_1 [M1] (s14_3 x0 x1 x2 x3)=
   ((idx x0 x3).bind fun v0=>
  ((i15 m v0 x1).bind fun r1=>
  (bif r1 then
  some x3
  else
  (J 0 6 0 (s14_3 x0 x1 x2 x3) (e14 J m w14_0 [M1] (s14_3 x0 x1 x2 x3)))))):=fun J=>by kernel_rfl
 exact(h jn).trans (by
   simp only[jn_eq,i14_j3_eq m M1 rec1 h1]
   rfl)
theorem i14_j4_eq (m:Nat):e14 jn m [1,1] [] s14_4=i14_j4 m:=by
 have h:∀J,e14 J m [1,1] [] s14_4=
  some (-1):=fun J=>by kernel_rfl
 exact(h jn).trans (rfl)
theorem i14_l1_eq (m:Nat):∀(M1:Nat) (x0:List Dt) (x1:Dt) (x2 x3:Int),l14 jn m [1,0,1,0] [] M1 (s14_3 x0 x1 x2 x3)=i14_l1 m M1 x0 x1 x2 x3
 |0,_,_,_,_=>rfl
 | M1+1,x0,x1,x2,x3=>by
   have h:∀J,l14 J m [1,0,1,0] [] (M1+1) (s14_3 x0 x1 x2 x3)=
   (bif (decide (x3<x2)) then
  (J 0 3 0 (s14_3 x0 x1 x2 x3) (e14 J m w14_1 [M1] (s14_3 x0 x1 x2 x3)))
   else
  (J 0 7 0 s14_4 (e14 J m [1,1] [] s14_4))):=fun J=>by kernel_rfl
   refine(h jn).trans ?_
   simp only[jn_eq,i14_j2_eq m M1 (i14_l1 m M1) (fun x0 x1 x2 x3=>i14_l1_eq m M1 x0 x1 x2 x3),i14_j4_eq m]
   rfl
theorem i14_j0_eq (m:Nat) (x0:List Dt) (x1:Dt) (x2 x3:Int):e14 jn m [1,0,1] [] (s14_3 x0 x1 x2 x3)=i14_j0 m x0 x1 x2 x3:=by
 have h:∀J,e14 J m [1,0,1] [] (s14_3 x0 x1 x2 x3)=
  (J 1 2 (Nat.succ m) (s14_3 x0 x1 x2 x3) (l14 J m [1,0,1,0] [] (Nat.succ m) (s14_3 x0 x1 x2 x3))):=fun J=>by kernel_rfl
 exact(h jn).trans (by
  simp only[jn_eq,i14_l1_eq m]
  rfl)
theorem i14_eq (m:Nat) (a0:List Dt) (a1:Dt):e14 jn m [] [] ⟨[(.dat 22 (.lst a0)),(.fn 39 [(.rptr 25 a1)])],[],0⟩=i14 (m+1) a0 a1:=by
 have h:∀J,e14 J m [] [] ⟨[(.dat 22 (.lst a0)),(.fn 39 [(.rptr 25 a1)])],[],0⟩=
  (J 0 2 0 (s14_3 a0 a1 (List.length a0:Int) 0) (e14 J m [1,0,1] [] (s14_3 a0 a1 (List.length a0:Int) 0))):=fun J=>by kernel_rfl
 refine(h jn).trans ?_
 simp only[jn_eq,i14_j0_eq m]
 rfl
noncomputable def d13 (q:Res):Option Bool:=match q with
 |(.dat T0 x0,[])=>bif Nat.beq T0 4 then some x0.toBool else none
 |_=>none
theorem d13_sim {b:Res} {r:Bool} (h:d13 b=some r):Sim Tryd.prog b ((.dat 4 (.bool r)),[]):=by
 unfold d13 at h
 split at h
 ·obtain⟨hc,h2⟩:=bif_some h
  cases h2
  have e0:=beq_eq hc
  subst e0
  exact Sim.of (.of (.dat (.bool Tryd.underlying4)) rfl rfl) .nil
 ·cases h
noncomputable def e13 (J:Nat→Nat→Nat→St→Option Bool→Option Bool) (m:Nat) (p ms:List Nat) (σ:St):=evAt Tryd.prog env (ct m) J (m+1) 42 9 Tryd.f42 d13 p ms σ
noncomputable def l13 (J:Nat→Nat→Nat→St→Option Bool→Option Bool) (m:Nat) (p ms:List Nat) (M:Nat) (σ:St):=loopAt Tryd.prog env (ct m) J (m+1) 42 9 Tryd.f42 d13 p ms M σ
theorem i13_eq (m:Nat) (a0:List Dt) (a1:Dt):e13 jn m [] [] ⟨[(.dat 22 (.lst a0)),(.fn 39 [(.rptr 25 a1)])],[],0⟩=i13 (m+1) a0 a1:=by
 have h:∀J,e13 J m [] [] ⟨[(.dat 22 (.lst a0)),(.fn 39 [(.rptr 25 a1)])],[],0⟩=
   ((i14 m a0 a1).bind fun r0=>
  some (decide (0≤r0))):=fun J=>by kernel_rfl
 refine(h jn).trans ?_
 rfl
noncomputable def d41 (q:Res):Option (List Dt):=match q with
 |(.tup [],[.row T0 x0])=>bif Nat.beq T0 22 then some x0 else none
 |_=>none
def w41_0:List Nat:=[1,0,0,1,0,0,1,0]
def w41_1:List Nat:=[1,0,0,1,0,0,1,0,0,1,1]
def w41_2:List Nat:=[1,0,0,1,0,0,1,0,0,1]
def w41_3:List Nat:=[1,0,0,1,1]
def w41_4:List Nat:=[1,0,0,1,0,0,1]
theorem d41_sim {b:Res} {r:List Dt} (h:d41 b=some r):Sim Tryd.prog b ((.tup []),[(.row 22 r)]):=by
 unfold d41 at h
 split at h
 ·obtain⟨hc,h2⟩:=bif_some h
  cases h2
  have e0:=beq_eq hc
  subst e0
  exact Sim.of (.tup .nil) (.cons .same .nil)
 ·cases h
noncomputable def e41 (J:Nat→Nat→Nat→St→Option (List Dt)→Option (List Dt)) (m:Nat) (p ms:List Nat) (σ:St):=evAt Tryd.prog env (ct m) J (m+1) 92 53 Tryd.f92 d41 p ms σ
noncomputable def l41 (J:Nat→Nat→Nat→St→Option (List Dt)→Option (List Dt)) (m:Nat) (p ms:List Nat) (M:Nat) (σ:St):=loopAt Tryd.prog env (ct m) J (m+1) 92 53 Tryd.f92 d41 p ms M σ
noncomputable def s41_6 (x0 x1 x2 x3:Int) (x4:List Dt):St:=⟨tsOf [(0,(.row 0)),(1,(.dat 3 (.int x0))),(2,(.dat 3 (.int x1))),(3,(.fn 43 [])),(8,(.dat 3 (.int x2))),(9,(.dat 3 (.int x3)))],[(.row 22 x4)],1⟩
noncomputable def s41_7 (x0 x1 x2:Int) (x3:List Dt):St:=⟨tsOf [(0,(.row 0)),(1,(.dat 3 (.int x0))),(2,(.dat 3 (.int x1))),(3,(.fn 43 [])),(8,(.dat 3 (.int x2)))],[(.row 22 x3)],1⟩
theorem i41_j6_eq (m:Nat) (M1:Nat) (rec1:Int→Int→Int→List Dt→Option (List Dt)) (h1:∀(x0 x1 x2:Int) (x3:List Dt),l41 jn m [1,0] [] M1 (s41_7 x0 x1 x2 x3)=rec1 x0 x1 x2 x3) (M4:Nat) (rec4:Int→Int→Int→Int→List Dt→Option (List Dt)) (h4:∀(x0 x1 x2 x3:Int) (x4:List Dt),l41 jn m w41_0 [M1] M4 (s41_6 x0 x1 x2 x3 x4)=rec4 x0 x1 x2 x3 x4) (x0 x1 x2 x3:Int) (x4:List Dt):e41 jn m w41_1 [M1,M4] (s41_6 x0 x1 x2 x3 x4)=i41_j6 m rec1 rec4 x0 x1 x2 x3 x4:=by
 have h:∀J,e41 J m w41_1 [M1,M4] (s41_6 x0 x1 x2 x3 x4)=
  (J 1 4 M4 (s41_6 x0 x1 x2 (IntKind.wrap .i64 (x3-1)) x4) (l41 J m w41_0 [M1] M4 (s41_6 x0 x1 x2 (IntKind.wrap .i64 (x3-1)) x4))):=fun J=>by kernel_rfl
 exact(h jn).trans (by
  simp only[jn_eq,h4]
  rfl)
theorem i41_j5_eq (m:Nat) (M1:Nat) (rec1:Int→Int→Int→List Dt→Option (List Dt)) (h1:∀(x0 x1 x2:Int) (x3:List Dt),l41 jn m [1,0] [] M1 (s41_7 x0 x1 x2 x3)=rec1 x0 x1 x2 x3) (M4:Nat) (rec4:Int→Int→Int→Int→List Dt→Option (List Dt)) (h4:∀(x0 x1 x2 x3:Int) (x4:List Dt),l41 jn m w41_0 [M1] M4 (s41_6 x0 x1 x2 x3 x4)=rec4 x0 x1 x2 x3 x4) (x0 x1 x2 x3:Int) (x4:List Dt):e41 jn m w41_2 [M1,M4] (s41_6 x0 x1 x2 x3 x4)=i41_j5 m rec1 rec4 x0 x1 x2 x3 x4:=by
 have h:∀J,e41 J m w41_2 [M1,M4] (s41_6 x0 x1 x2 x3 x4)=
   ((inL x4 (IntKind.wrap .i64 (x3-1))).bind fun v5=>
  ((x4[(Int.toNat (IntKind.wrap .i64 (x3-1)))]?).bind fun v6=>
  ((inL x4 x3).bind fun v7=>
  ((x4[(Int.toNat x3)]?).bind fun v8=>
  ((inL x4 x3).bind fun v9=>
  ((x4[(Int.toNat x3)]?).bind fun v10=>
  ((inL (List.set x4 (Int.toNat x3) v6) (IntKind.wrap .i64 (x3-1))).bind fun v11=>
  (((List.set x4 (Int.toNat x3) v6)[(Int.toNat (IntKind.wrap .i64 (x3-1)))]?).bind fun v12=>
  (J 0 5 0 (s41_6 x0 x1 x2 x3 (List.set (List.set x4 (Int.toNat x3) v6) (Int.toNat (IntKind.wrap .i64 (x3-1))) v8)) (e41 J m w41_1 [M1,M4] (s41_6 x0 x1 x2 x3 (List.set (List.set x4 (Int.toNat x3) v6) (Int.toNat (IntKind.wrap .i64 (x3-1))) v8)))))))))))):=fun J=>by kernel_rfl
 exact(h jn).trans (by
   simp only[jn_eq,i41_j6_eq m M1 rec1 h1 M4 rec4 h4]
   rfl)
theorem i41_j7_eq (m:Nat) (M1:Nat) (rec1:Int→Int→Int→List Dt→Option (List Dt)) (h1:∀(x0 x1 x2:Int) (x3:List Dt),l41 jn m [1,0] [] M1 (s41_7 x0 x1 x2 x3)=rec1 x0 x1 x2 x3) (x0 x1 x2:Int) (x3:List Dt):e41 jn m w41_3 [M1] (s41_7 x0 x1 x2 x3)=i41_j7 m rec1 x0 x1 x2 x3:=by
 have h:∀J,e41 J m w41_3 [M1] (s41_7 x0 x1 x2 x3)=
  (J 1 1 M1 (s41_7 x0 x1 (IntKind.wrap .i64 (x2+1)) x3) (l41 J m [1,0] [] M1 (s41_7 x0 x1 (IntKind.wrap .i64 (x2+1)) x3))):=fun J=>by kernel_rfl
 exact(h jn).trans (by
  simp only[jn_eq,h1]
  rfl)
theorem i41_l4_eq (m:Nat) (M1:Nat) (rec1:Int→Int→Int→List Dt→Option (List Dt)) (h1:∀(x0 x1 x2:Int) (x3:List Dt),l41 jn m [1,0] [] M1 (s41_7 x0 x1 x2 x3)=rec1 x0 x1 x2 x3):∀(M4:Nat) (x0 x1 x2 x3:Int) (x4:List Dt),l41 jn m w41_0 [M1] M4 (s41_6 x0 x1 x2 x3 x4)=i41_l4 m rec1 M4 x0 x1 x2 x3 x4
 |0,_,_,_,_,_=>rfl
 | M4+1,x0,x1,x2,x3,x4=>by
   have h:∀J,l41 J m w41_0 [M1] (M4+1) (s41_6 x0 x1 x2 x3 x4)=
   (bif (decide (x0<x3)) then
  ((inL x4 x3).bind fun v0=>
  ((x4[(Int.toNat x3)]?).bind fun v1=>
  ((inL x4 (IntKind.wrap .i64 (x3-1))).bind fun v2=>
  ((x4[(Int.toNat (IntKind.wrap .i64 (x3-1)))]?).bind fun v3=>
  ((value_Compare m v1 v3).bind fun r4=>
  (bif (decide (r4<0)) then
  (J 0 6 0 (s41_6 x0 x1 x2 x3 x4) (e41 J m w41_2 [M1,M4] (s41_6 x0 x1 x2 x3 x4)))
  else
  (J 0 2 0 (s41_7 x0 x1 x2 x4) (e41 J m w41_3 [M1] (s41_7 x0 x1 x2 x4)))))))))
   else
  (J 0 2 0 (s41_7 x0 x1 x2 x4) (e41 J m w41_3 [M1] (s41_7 x0 x1 x2 x4)))):=fun J=>by kernel_rfl
   refine(h jn).trans ?_
   simp only[jn_eq,i41_j5_eq m M1 rec1 h1 M4 (i41_l4 m rec1 M4) (fun x0 x1 x2 x3 x4=>i41_l4_eq m M1 rec1 h1 M4 x0 x1 x2 x3 x4),i41_j7_eq m M1 rec1 h1]
   rfl
theorem i41_j3_eq (m:Nat) (M1:Nat) (rec1:Int→Int→Int→List Dt→Option (List Dt)) (h1:∀(x0 x1 x2:Int) (x3:List Dt),l41 jn m [1,0] [] M1 (s41_7 x0 x1 x2 x3)=rec1 x0 x1 x2 x3) (x0 x1 x2 x3:Int) (x4:List Dt):e41 jn m w41_4 [M1] (s41_6 x0 x1 x2 x3 x4)=i41_j3 m rec1 x0 x1 x2 x3 x4:=by
 have h:∀J,e41 J m w41_4 [M1] (s41_6 x0 x1 x2 x3 x4)=
  (J 1 4 (Nat.succ m) (s41_6 x0 x1 x2 x3 x4) (l41 J m w41_0 [M1] (Nat.succ m) (s41_6 x0 x1 x2 x3 x4))):=fun J=>by kernel_rfl
 exact(h jn).trans (by
  simp only[jn_eq,i41_l4_eq m M1 rec1 h1]
  rfl)
theorem i41_j2_eq (m:Nat) (M1:Nat) (rec1:Int→Int→Int→List Dt→Option (List Dt)) (h1:∀(x0 x1 x2:Int) (x3:List Dt),l41 jn m [1,0] [] M1 (s41_7 x0 x1 x2 x3)=rec1 x0 x1 x2 x3) (x0 x1 x2:Int) (x3:List Dt):e41 jn m [1,0,0,1] [M1] (s41_7 x0 x1 x2 x3)=i41_j2 m rec1 x0 x1 x2 x3:=by
 have h:∀J,e41 J m [1,0,0,1] [M1] (s41_7 x0 x1 x2 x3)=
  (J 0 4 0 (s41_6 x0 x1 x2 x2 x3) (e41 J m w41_4 [M1] (s41_6 x0 x1 x2 x2 x3))):=fun J=>by kernel_rfl
 exact(h jn).trans (by
  simp only[jn_eq,i41_j3_eq m M1 rec1 h1]
  rfl)
theorem i41_l1_eq (m:Nat):∀(M1:Nat) (x0 x1 x2:Int) (x3:List Dt),l41 jn m [1,0] [] M1 (s41_7 x0 x1 x2 x3)=i41_l1 m M1 x0 x1 x2 x3
 |0,_,_,_,_=>rfl
 | M1+1,x0,x1,x2,x3=>by
   have h:∀J,l41 J m [1,0] [] (M1+1) (s41_7 x0 x1 x2 x3)=
   (bif (decide (x2<x1)) then
  (J 0 3 0 (s41_7 x0 x1 x2 x3) (e41 J m [1,0,0,1] [M1] (s41_7 x0 x1 x2 x3)))
   else
  some x3):=fun J=>by kernel_rfl
   refine(h jn).trans ?_
   simp only[jn_eq,i41_j2_eq m M1 (i41_l1 m M1) (fun x0 x1 x2 x3=>i41_l1_eq m M1 x0 x1 x2 x3)]
   rfl
theorem i41_j0_eq (m:Nat) (x0 x1 x2:Int) (x3:List Dt):e41 jn m [1] [] (s41_7 x0 x1 x2 x3)=i41_j0 m x0 x1 x2 x3:=by
 have h:∀J,e41 J m [1] [] (s41_7 x0 x1 x2 x3)=
  (J 1 1 (Nat.succ m) (s41_7 x0 x1 x2 x3) (l41 J m [1,0] [] (Nat.succ m) (s41_7 x0 x1 x2 x3))):=fun J=>by kernel_rfl
 exact(h jn).trans (by
  simp only[jn_eq,i41_l1_eq m]
  rfl)
theorem i41_eq (m:Nat) (a0 a1:Int) (a2:List Dt):e41 jn m [] [] ⟨[(.row 0),(.dat 3 (.int a0)),(.dat 3 (.int a1)),(.fn 43 [])],[(.row 22 a2)],1⟩=i41 (m+1) a0 a1 a2:=by
 have h:∀J,e41 J m [] [] ⟨[(.row 0),(.dat 3 (.int a0)),(.dat 3 (.int a1)),(.fn 43 [])],[(.row 22 a2)],1⟩=
  (J 0 1 0 (s41_7 a0 a1 (IntKind.wrap .i64 (a0+1)) a2) (e41 J m [1] [] (s41_7 a0 a1 (IntKind.wrap .i64 (a0+1)) a2))):=fun J=>by kernel_rfl
 refine(h jn).trans ?_
 simp only[jn_eq,i41_j0_eq m]
 rfl
noncomputable def d42 (q:Res):Option (List Dt):=match q with
 |(.tup [],[.row T0 x0])=>bif Nat.beq T0 22 then some x0 else none
 |_=>none
def w42_0:List Nat:=[0,1,0,1,1,0,0]
def w42_1:List Nat:=[0,1,0,1,1,0,0,0,1]
def w42_2:List Nat:=[0,1,0,1,1,1,0,1,0]
def w42_3:List Nat:=[0,1,0,1,1,1,0,1,0,0,1,1]
def w42_4:List Nat:=[0,1,0,1,1,1,0,1,0,0,1]
def w42_5:List Nat:=[0,1,0,1,1,1,0,1]
def w42_6:List Nat:=[0,1,0,1,1,1]
def w42_7:List Nat:=[0,1,0,1,1]
def w42_8:List Nat:=[1,0,1,0,1,1,0,0]
def w42_9:List Nat:=[1,0,1,0,1,1,0,0,0,1]
def w42_10:List Nat:=[1,0,1,0,1,1,1,0,1,0]
def w42_11:List Nat:=[1,0,1,0,1,1,1,0,1,0,0,1,1]
def w42_12:List Nat:=[1,0,1,0,1,1,1,0,1,0,0,1]
def w42_13:List Nat:=[1,0,1,0,1,1,1,0,1]
def w42_14:List Nat:=[1,0,1,0,1,1,1]
def w42_15:List Nat:=[1,0,1,0,1,1]
def w42_16:List Nat:=[1,1,1,1,1,1,1,0,0]
def w42_17:List Nat:=[1,1,1,1,1,1,1,0,0,0,1]
def w42_18:List Nat:=[1,1,1,1,1,1,1,1,1,1,1,1]
def w42_19:List Nat:=[1,1,1,1,1,1,1,1,1,1,1]
def w42_20:List Nat:=[1,1,1,1,1,1,1,1,1,1,0,1]
def w42_21:List Nat:=[1,1,1,1,1,1,1,1,1,1]
def w42_22:List Nat:=[1,1,1,1,1,1,1,1,1,0,1]
def w42_23:List Nat:=[1,1,1,1,1,1,1,1]
def w42_24:List Nat:=[1,1,1,1,1,1,1]
def w42_25:List Nat:=[1,1,1,1,1,1]
theorem d42_sim {b:Res} {r:List Dt} (h:d42 b=some r):Sim Tryd.prog b ((.tup []),[(.row 22 r)]):=by
 unfold d42 at h
 split at h
 ·obtain⟨hc,h2⟩:=bif_some h
  cases h2
  have e0:=beq_eq hc
  subst e0
  exact Sim.of (.tup .nil) (.cons .same .nil)
 ·cases h
noncomputable def e42 (J:Nat→Nat→Nat→St→Option (List Dt)→Option (List Dt)) (m:Nat) (p ms:List Nat) (σ:St):=evAt Tryd.prog env (ct m) J (m+1) 93 220 Tryd.f93 d42 p ms σ
noncomputable def l42 (J:Nat→Nat→Nat→St→Option (List Dt)→Option (List Dt)) (m:Nat) (p ms:List Nat) (M:Nat) (σ:St):=loopAt Tryd.prog env (ct m) J (m+1) 93 220 Tryd.f93 d42 p ms M σ
noncomputable def s42_2 (x0 x1 x2:Int) (x3:List Dt):St:=⟨tsOf [(0,(.row 0)),(1,(.dat 3 (.int x0))),(4,(.fn 43 [])),(10,(.dat 3 (.int x1))),(11,(.dat 3 (.int x2)))],[(.row 22 x3)],1⟩
noncomputable def s42_7 (x0 x1:Int) (x2:List Dt):St:=⟨tsOf [(0,(.row 0)),(10,(.dat 3 (.int x0))),(13,(.dat 3 (.int x1)))],[(.row 22 x2)],1⟩
noncomputable def s42_3 (x0 x1:Int) (x2:List Dt):St:=⟨tsOf [(0,(.row 0)),(1,(.dat 3 (.int x0))),(10,(.dat 3 (.int x1)))],[(.row 22 x2)],1⟩
noncomputable def s42_11 (x0 x1 x2:Int) (x3:List Dt):St:=⟨tsOf [(0,(.row 0)),(2,(.dat 3 (.int x0))),(4,(.fn 43 [])),(14,(.dat 3 (.int x1))),(15,(.dat 3 (.int x2)))],[(.row 22 x3)],1⟩
noncomputable def s42_16 (x0 x1:Int) (x2:List Dt):St:=⟨tsOf [(0,(.row 0)),(14,(.dat 3 (.int x0))),(17,(.dat 3 (.int x1)))],[(.row 22 x2)],1⟩
noncomputable def s42_12 (x0 x1:Int) (x2:List Dt):St:=⟨tsOf [(0,(.row 0)),(2,(.dat 3 (.int x0))),(14,(.dat 3 (.int x1)))],[(.row 22 x2)],1⟩
noncomputable def s42_21 (x0 x1 x2 x3 x4 x5 x6 x7:Int) (x8:List Dt):St:=⟨tsOf [(0,(.row 0)),(1,(.dat 3 (.int x0))),(2,(.dat 3 (.int x1))),(3,(.dat 3 (.int x2))),(4,(.fn 43 [])),(18,(.dat 3 (.int x3))),(19,(.dat 3 (.int x4))),(20,(.dat 3 (.int x5))),(21,(.dat 3 (.int x6))),(22,(.dat 3 (.int x7)))],[(.row 22 x8)],1⟩
noncomputable def s42_27 (x0 x1 x2:Int) (x3:Bool) (x4:List Dt):St:=⟨tsOf [(0,(.row 0)),(3,(.dat 3 (.int x0))),(4,(.fn 43 [])),(18,(.dat 3 (.int x1))),(24,(.dat 3 (.int x2))),(213,(.dat 4 (.bool x3)))],[(.row 22 x4)],1⟩
noncomputable def s42_26 (x0 x1 x2:Int) (x3:List Dt):St:=⟨tsOf [(0,(.row 0)),(3,(.dat 3 (.int x0))),(4,(.fn 43 [])),(18,(.dat 3 (.int x1))),(24,(.dat 3 (.int x2)))],[(.row 22 x3)],1⟩
noncomputable def s42_25 (x0 x1 x2 x3 x4:Int) (x5:Bool) (x6:List Dt):St:=⟨tsOf [(0,(.row 0)),(1,(.dat 3 (.int x0))),(3,(.dat 3 (.int x1))),(4,(.fn 43 [])),(18,(.dat 3 (.int x2))),(20,(.dat 3 (.int x3))),(24,(.dat 3 (.int x4))),(199,(.dat 4 (.bool x5)))],[(.row 22 x6)],1⟩
noncomputable def s42_24 (x0 x1 x2 x3 x4:Int) (x5:List Dt):St:=⟨tsOf [(0,(.row 0)),(1,(.dat 3 (.int x0))),(3,(.dat 3 (.int x1))),(4,(.fn 43 [])),(18,(.dat 3 (.int x2))),(20,(.dat 3 (.int x3))),(24,(.dat 3 (.int x4)))],[(.row 22 x5)],1⟩
noncomputable def s42_23 (x0 x1 x2 x3 x4 x5:Int) (x6:Bool) (x7:List Dt):St:=⟨tsOf [(0,(.row 0)),(1,(.dat 3 (.int x0))),(2,(.dat 3 (.int x1))),(3,(.dat 3 (.int x2))),(4,(.fn 43 [])),(18,(.dat 3 (.int x3))),(20,(.dat 3 (.int x4))),(24,(.dat 3 (.int x5))),(185,(.dat 4 (.bool x6)))],[(.row 22 x7)],1⟩
noncomputable def s42_22 (x0 x1 x2 x3 x4 x5:Int) (x6:List Dt):St:=⟨tsOf [(0,(.row 0)),(1,(.dat 3 (.int x0))),(2,(.dat 3 (.int x1))),(3,(.dat 3 (.int x2))),(4,(.fn 43 [])),(18,(.dat 3 (.int x3))),(19,(.dat 3 (.int x4))),(20,(.dat 3 (.int x5)))],[(.row 22 x6)],1⟩
noncomputable def s42_18 (x0 x1 x2 x3 x4 x5 x6:Int) (x7:List Dt):St:=⟨tsOf [(0,(.row 0)),(1,(.dat 3 (.int x0))),(2,(.dat 3 (.int x1))),(3,(.dat 3 (.int x2))),(4,(.fn 43 [])),(18,(.dat 3 (.int x3))),(19,(.dat 3 (.int x4))),(20,(.dat 3 (.int x5))),(21,(.dat 3 (.int x6)))],[(.row 22 x7)],1⟩
noncomputable def s42_17 (x0 x1 x2:Int) (x3:List Dt):St:=⟨tsOf [(0,(.row 0)),(1,(.dat 3 (.int x0))),(2,(.dat 3 (.int x1))),(3,(.dat 3 (.int x2))),(4,(.fn 43 []))],[(.row 22 x3)],1⟩
theorem i42_j2_eq (m:Nat) (M1:Nat) (rec1:Int→Int→Int→List Dt→Option (List Dt)) (h1:∀(x0 x1 x2:Int) (x3:List Dt),l42 jn m w42_0 [] M1 (s42_2 x0 x1 x2 x3)=rec1 x0 x1 x2 x3) (x0 x1 x2:Int) (x3:List Dt):e42 jn m w42_1 [M1] (s42_2 x0 x1 x2 x3)=i42_j2 m (i42 m) rec1 x0 x1 x2 x3:=by
 have h:∀J,e42 J m w42_1 [M1] (s42_2 x0 x1 x2 x3)=
   ((inL x3 (IntKind.wrap .i64 (shrI IntKind.u64 (IntKind.wrap IntKind.u64 (IntKind.wrap .i64 (x1+x2))) 1))).bind fun v0=>
  ((x3[(Int.toNat (IntKind.wrap .i64 (shrI IntKind.u64 (IntKind.wrap IntKind.u64 (IntKind.wrap .i64 (x1+x2))) 1)))]?).bind fun v1=>
  ((inL x3 x0).bind fun v2=>
  ((x3[(Int.toNat x0)]?).bind fun v3=>
  ((value_Compare m v1 v3).bind fun r4=>
  (bif (decide (r4<0)) then
  (J 1 3 M1 (s42_2 x0 (IntKind.wrap .i64 ((IntKind.wrap .i64 (shrI IntKind.u64 (IntKind.wrap IntKind.u64 (IntKind.wrap .i64 (x1+x2))) 1))+1)) x2 x3) (l42 J m w42_0 [] M1 (s42_2 x0 (IntKind.wrap .i64 ((IntKind.wrap .i64 (shrI IntKind.u64 (IntKind.wrap IntKind.u64 (IntKind.wrap .i64 (x1+x2))) 1))+1)) x2 x3)))
  else
  (J 1 3 M1 (s42_2 x0 x1 (IntKind.wrap .i64 (shrI IntKind.u64 (IntKind.wrap IntKind.u64 (IntKind.wrap .i64 (x1+x2))) 1)) x3) (l42 J m w42_0 [] M1 (s42_2 x0 x1 (IntKind.wrap .i64 (shrI IntKind.u64 (IntKind.wrap IntKind.u64 (IntKind.wrap .i64 (x1+x2))) 1)) x3))))))))):=fun J=>by kernel_rfl
 exact(h jn).trans (by
   simp only[jn_eq,h1]
   rfl)
theorem i42_j7_eq (m:Nat) (M5:Nat) (rec5:Int→Int→List Dt→Option (List Dt)) (h5:∀(x0 x1:Int) (x2:List Dt),l42 jn m w42_2 [] M5 (s42_7 x0 x1 x2)=rec5 x0 x1 x2) (x0 x1:Int) (x2:List Dt):e42 jn m w42_3 [M5] (s42_7 x0 x1 x2)=i42_j7 m (i42 m) rec5 x0 x1 x2:=by
 have h:∀J,e42 J m w42_3 [M5] (s42_7 x0 x1 x2)=
  (J 1 9 M5 (s42_7 x0 (IntKind.wrap .i64 (x1+1)) x2) (l42 J m w42_2 [] M5 (s42_7 x0 (IntKind.wrap .i64 (x1+1)) x2))):=fun J=>by kernel_rfl
 exact(h jn).trans (by
  simp only[jn_eq,h5]
  rfl)
theorem i42_j6_eq (m:Nat) (M5:Nat) (rec5:Int→Int→List Dt→Option (List Dt)) (h5:∀(x0 x1:Int) (x2:List Dt),l42 jn m w42_2 [] M5 (s42_7 x0 x1 x2)=rec5 x0 x1 x2) (x0 x1:Int) (x2:List Dt):e42 jn m w42_4 [M5] (s42_7 x0 x1 x2)=i42_j6 m (i42 m) rec5 x0 x1 x2:=by
 have h:∀J,e42 J m w42_4 [M5] (s42_7 x0 x1 x2)=
   ((inL x2 (IntKind.wrap .i64 (x1+1))).bind fun v5=>
  ((x2[(Int.toNat (IntKind.wrap .i64 (x1+1)))]?).bind fun v6=>
  ((inL x2 x1).bind fun v7=>
  ((x2[(Int.toNat x1)]?).bind fun v8=>
  ((inL x2 x1).bind fun v9=>
  ((x2[(Int.toNat x1)]?).bind fun v10=>
  ((inL (List.set x2 (Int.toNat x1) v6) (IntKind.wrap .i64 (x1+1))).bind fun v11=>
  (((List.set x2 (Int.toNat x1) v6)[(Int.toNat (IntKind.wrap .i64 (x1+1)))]?).bind fun v12=>
  (J 0 10 0 (s42_7 x0 x1 (List.set (List.set x2 (Int.toNat x1) v6) (Int.toNat (IntKind.wrap .i64 (x1+1))) v8)) (e42 J m w42_3 [M5] (s42_7 x0 x1 (List.set (List.set x2 (Int.toNat x1) v6) (Int.toNat (IntKind.wrap .i64 (x1+1))) v8)))))))))))):=fun J=>by kernel_rfl
 exact(h jn).trans (by
   simp only[jn_eq,i42_j7_eq m M5 rec5 h5]
   rfl)
theorem i42_l5_eq (m:Nat):∀(M5:Nat) (x0 x1:Int) (x2:List Dt),l42 jn m w42_2 [] M5 (s42_7 x0 x1 x2)=i42_l5 m (i42 m) M5 x0 x1 x2
 |0,_,_,_=>rfl
 | M5+1,x0,x1,x2=>by
   have h:∀J,l42 J m w42_2 [] (M5+1) (s42_7 x0 x1 x2)=
   (bif (decide (x1<(IntKind.wrap .i64 (x0-1)))) then
  (J 0 11 0 (s42_7 x0 x1 x2) (e42 J m w42_4 [M5] (s42_7 x0 x1 x2)))
   else
  some x2):=fun J=>by kernel_rfl
   refine(h jn).trans ?_
   simp only[jn_eq,i42_j6_eq m M5 (i42_l5 m (i42 m) M5) (fun x0 x1 x2=>i42_l5_eq m M5 x0 x1 x2)]
   rfl
theorem i42_j4_eq (m:Nat) (x0 x1:Int) (x2:List Dt):e42 jn m w42_5 [] (s42_7 x0 x1 x2)=i42_j4 m (i42 m) x0 x1 x2:=by
 have h:∀J,e42 J m w42_5 [] (s42_7 x0 x1 x2)=
  (J 1 9 (Nat.succ m) (s42_7 x0 x1 x2) (l42 J m w42_2 [] (Nat.succ m) (s42_7 x0 x1 x2))):=fun J=>by kernel_rfl
 exact(h jn).trans (by
  simp only[jn_eq,i42_l5_eq m]
  rfl)
theorem i42_j3_eq (m:Nat) (x0 x1:Int) (x2:List Dt):e42 jn m w42_6 [] (s42_3 x0 x1 x2)=i42_j3 m (i42 m) x0 x1 x2:=by
 have h:∀J,e42 J m w42_6 [] (s42_3 x0 x1 x2)=
  (J 0 9 0 (s42_7 x1 x0 x2) (e42 J m w42_5 [] (s42_7 x1 x0 x2))):=fun J=>by kernel_rfl
 exact(h jn).trans (by
  simp only[jn_eq,i42_j4_eq m]
  rfl)
theorem i42_l1_eq (m:Nat):∀(M1:Nat) (x0 x1 x2:Int) (x3:List Dt),l42 jn m w42_0 [] M1 (s42_2 x0 x1 x2 x3)=i42_l1 m (i42 m) M1 x0 x1 x2 x3
 |0,_,_,_,_=>rfl
 | M1+1,x0,x1,x2,x3=>by
   have h:∀J,l42 J m w42_0 [] (M1+1) (s42_2 x0 x1 x2 x3)=
   (bif (decide (x1<x2)) then
  (J 0 4 0 (s42_2 x0 x1 x2 x3) (e42 J m w42_1 [M1] (s42_2 x0 x1 x2 x3)))
   else
  (J 0 8 0 (s42_3 x0 x1 x3) (e42 J m w42_6 [] (s42_3 x0 x1 x3)))):=fun J=>by kernel_rfl
   refine(h jn).trans ?_
   simp only[jn_eq,i42_j2_eq m M1 (i42_l1 m (i42 m) M1) (fun x0 x1 x2 x3=>i42_l1_eq m M1 x0 x1 x2 x3),i42_j3_eq m]
   rfl
theorem i42_j0_eq (m:Nat) (x0 x1 x2:Int) (x3:List Dt):e42 jn m w42_7 [] (s42_2 x0 x1 x2 x3)=i42_j0 m (i42 m) x0 x1 x2 x3:=by
 have h:∀J,e42 J m w42_7 [] (s42_2 x0 x1 x2 x3)=
  (J 1 3 (Nat.succ m) (s42_2 x0 x1 x2 x3) (l42 J m w42_0 [] (Nat.succ m) (s42_2 x0 x1 x2 x3))):=fun J=>by kernel_rfl
 exact(h jn).trans (by
  simp only[jn_eq,i42_l1_eq m]
  rfl)
theorem i42_j11_eq (m:Nat) (M10:Nat) (rec10:Int→Int→Int→List Dt→Option (List Dt)) (h10:∀(x0 x1 x2:Int) (x3:List Dt),l42 jn m w42_8 [] M10 (s42_11 x0 x1 x2 x3)=rec10 x0 x1 x2 x3) (x0 x1 x2:Int) (x3:List Dt):e42 jn m w42_9 [M10] (s42_11 x0 x1 x2 x3)=i42_j11 m (i42 m) rec10 x0 x1 x2 x3:=by
 have h:∀J,e42 J m w42_9 [M10] (s42_11 x0 x1 x2 x3)=
   ((inL x3 x0).bind fun v13=>
  ((x3[(Int.toNat x0)]?).bind fun v14=>
  ((inL x3 (IntKind.wrap .i64 (shrI IntKind.u64 (IntKind.wrap IntKind.u64 (IntKind.wrap .i64 (x1+x2))) 1))).bind fun v15=>
  ((x3[(Int.toNat (IntKind.wrap .i64 (shrI IntKind.u64 (IntKind.wrap IntKind.u64 (IntKind.wrap .i64 (x1+x2))) 1)))]?).bind fun v16=>
  ((value_Compare m v14 v16).bind fun r17=>
  (bif (Bool.not (decide (r17<0))) then
  (J 1 15 M10 (s42_11 x0 (IntKind.wrap .i64 ((IntKind.wrap .i64 (shrI IntKind.u64 (IntKind.wrap IntKind.u64 (IntKind.wrap .i64 (x1+x2))) 1))+1)) x2 x3) (l42 J m w42_8 [] M10 (s42_11 x0 (IntKind.wrap .i64 ((IntKind.wrap .i64 (shrI IntKind.u64 (IntKind.wrap IntKind.u64 (IntKind.wrap .i64 (x1+x2))) 1))+1)) x2 x3)))
  else
  (J 1 15 M10 (s42_11 x0 x1 (IntKind.wrap .i64 (shrI IntKind.u64 (IntKind.wrap IntKind.u64 (IntKind.wrap .i64 (x1+x2))) 1)) x3) (l42 J m w42_8 [] M10 (s42_11 x0 x1 (IntKind.wrap .i64 (shrI IntKind.u64 (IntKind.wrap IntKind.u64 (IntKind.wrap .i64 (x1+x2))) 1)) x3))))))))):=fun J=>by kernel_rfl
 exact(h jn).trans (by
   simp only[jn_eq,h10]
   rfl)
theorem i42_j16_eq (m:Nat) (M14:Nat) (rec14:Int→Int→List Dt→Option (List Dt)) (h14:∀(x0 x1:Int) (x2:List Dt),l42 jn m w42_10 [] M14 (s42_16 x0 x1 x2)=rec14 x0 x1 x2) (x0 x1:Int) (x2:List Dt):e42 jn m w42_11 [M14] (s42_16 x0 x1 x2)=i42_j16 m (i42 m) rec14 x0 x1 x2:=by
 have h:∀J,e42 J m w42_11 [M14] (s42_16 x0 x1 x2)=
  (J 1 21 M14 (s42_16 x0 (IntKind.wrap .i64 (x1-1)) x2) (l42 J m w42_10 [] M14 (s42_16 x0 (IntKind.wrap .i64 (x1-1)) x2))):=fun J=>by kernel_rfl
 exact(h jn).trans (by
  simp only[jn_eq,h14]
  rfl)
theorem i42_j15_eq (m:Nat) (M14:Nat) (rec14:Int→Int→List Dt→Option (List Dt)) (h14:∀(x0 x1:Int) (x2:List Dt),l42 jn m w42_10 [] M14 (s42_16 x0 x1 x2)=rec14 x0 x1 x2) (x0 x1:Int) (x2:List Dt):e42 jn m w42_12 [M14] (s42_16 x0 x1 x2)=i42_j15 m (i42 m) rec14 x0 x1 x2:=by
 have h:∀J,e42 J m w42_12 [M14] (s42_16 x0 x1 x2)=
   ((inL x2 (IntKind.wrap .i64 (x1-1))).bind fun v18=>
  ((x2[(Int.toNat (IntKind.wrap .i64 (x1-1)))]?).bind fun v19=>
  ((inL x2 x1).bind fun v20=>
  ((x2[(Int.toNat x1)]?).bind fun v21=>
  ((inL x2 x1).bind fun v22=>
  ((x2[(Int.toNat x1)]?).bind fun v23=>
  ((inL (List.set x2 (Int.toNat x1) v19) (IntKind.wrap .i64 (x1-1))).bind fun v24=>
  (((List.set x2 (Int.toNat x1) v19)[(Int.toNat (IntKind.wrap .i64 (x1-1)))]?).bind fun v25=>
  (J 0 22 0 (s42_16 x0 x1 (List.set (List.set x2 (Int.toNat x1) v19) (Int.toNat (IntKind.wrap .i64 (x1-1))) v21)) (e42 J m w42_11 [M14] (s42_16 x0 x1 (List.set (List.set x2 (Int.toNat x1) v19) (Int.toNat (IntKind.wrap .i64 (x1-1))) v21)))))))))))):=fun J=>by kernel_rfl
 exact(h jn).trans (by
   simp only[jn_eq,i42_j16_eq m M14 rec14 h14]
   rfl)
theorem i42_l14_eq (m:Nat):∀(M14:Nat) (x0 x1:Int) (x2:List Dt),l42 jn m w42_10 [] M14 (s42_16 x0 x1 x2)=i42_l14 m (i42 m) M14 x0 x1 x2
 |0,_,_,_=>rfl
 | M14+1,x0,x1,x2=>by
   have h:∀J,l42 J m w42_10 [] (M14+1) (s42_16 x0 x1 x2)=
   (bif (decide (x0<x1)) then
  (J 0 23 0 (s42_16 x0 x1 x2) (e42 J m w42_12 [M14] (s42_16 x0 x1 x2)))
   else
  some x2):=fun J=>by kernel_rfl
   refine(h jn).trans ?_
   simp only[jn_eq,i42_j15_eq m M14 (i42_l14 m (i42 m) M14) (fun x0 x1 x2=>i42_l14_eq m M14 x0 x1 x2)]
   rfl
theorem i42_j13_eq (m:Nat) (x0 x1:Int) (x2:List Dt):e42 jn m w42_13 [] (s42_16 x0 x1 x2)=i42_j13 m (i42 m) x0 x1 x2:=by
 have h:∀J,e42 J m w42_13 [] (s42_16 x0 x1 x2)=
  (J 1 21 (Nat.succ m) (s42_16 x0 x1 x2) (l42 J m w42_10 [] (Nat.succ m) (s42_16 x0 x1 x2))):=fun J=>by kernel_rfl
 exact(h jn).trans (by
  simp only[jn_eq,i42_l14_eq m]
  rfl)
theorem i42_j12_eq (m:Nat) (x0 x1:Int) (x2:List Dt):e42 jn m w42_14 [] (s42_12 x0 x1 x2)=i42_j12 m (i42 m) x0 x1 x2:=by
 have h:∀J,e42 J m w42_14 [] (s42_12 x0 x1 x2)=
  (J 0 21 0 (s42_16 x1 x0 x2) (e42 J m w42_13 [] (s42_16 x1 x0 x2))):=fun J=>by kernel_rfl
 exact(h jn).trans (by
  simp only[jn_eq,i42_j13_eq m]
  rfl)
theorem i42_l10_eq (m:Nat):∀(M10:Nat) (x0 x1 x2:Int) (x3:List Dt),l42 jn m w42_8 [] M10 (s42_11 x0 x1 x2 x3)=i42_l10 m (i42 m) M10 x0 x1 x2 x3
 |0,_,_,_,_=>rfl
 | M10+1,x0,x1,x2,x3=>by
   have h:∀J,l42 J m w42_8 [] (M10+1) (s42_11 x0 x1 x2 x3)=
   (bif (decide (x1<x2)) then
  (J 0 16 0 (s42_11 x0 x1 x2 x3) (e42 J m w42_9 [M10] (s42_11 x0 x1 x2 x3)))
   else
  (J 0 20 0 (s42_12 x0 x1 x3) (e42 J m w42_14 [] (s42_12 x0 x1 x3)))):=fun J=>by kernel_rfl
   refine(h jn).trans ?_
   simp only[jn_eq,i42_j11_eq m M10 (i42_l10 m (i42 m) M10) (fun x0 x1 x2 x3=>i42_l10_eq m M10 x0 x1 x2 x3),i42_j12_eq m]
   rfl
theorem i42_j9_eq (m:Nat) (x0 x1 x2:Int) (x3:List Dt):e42 jn m w42_15 [] (s42_11 x0 x1 x2 x3)=i42_j9 m (i42 m) x0 x1 x2 x3:=by
 have h:∀J,e42 J m w42_15 [] (s42_11 x0 x1 x2 x3)=
  (J 1 15 (Nat.succ m) (s42_11 x0 x1 x2 x3) (l42 J m w42_8 [] (Nat.succ m) (s42_11 x0 x1 x2 x3))):=fun J=>by kernel_rfl
 exact(h jn).trans (by
  simp only[jn_eq,i42_l10_eq m]
  rfl)
theorem i42_j21_eq (m:Nat) (M20:Nat) (rec20:Int→Int→Int→Int→Int→Int→Int→Int→List Dt→Option (List Dt)) (h20:∀(x0 x1 x2 x3 x4 x5 x6 x7:Int) (x8:List Dt),l42 jn m w42_16 [] M20 (s42_21 x0 x1 x2 x3 x4 x5 x6 x7 x8)=rec20 x0 x1 x2 x3 x4 x5 x6 x7 x8) (x0 x1 x2 x3 x4 x5 x6 x7:Int) (x8:List Dt):e42 jn m w42_17 [M20] (s42_21 x0 x1 x2 x3 x4 x5 x6 x7 x8)=i42_j21 m (i42 m) rec20 x0 x1 x2 x3 x4 x5 x6 x7 x8:=by
 have h:∀J,e42 J m w42_17 [M20] (s42_21 x0 x1 x2 x3 x4 x5 x6 x7 x8)=
   ((inL x8 (IntKind.wrap .i64 (x7-(IntKind.wrap .i64 (shrI IntKind.u64 (IntKind.wrap IntKind.u64 (IntKind.wrap .i64 (x5+x6))) 1))))).bind fun v26=>
  ((x8[(Int.toNat (IntKind.wrap .i64 (x7-(IntKind.wrap .i64 (shrI IntKind.u64 (IntKind.wrap IntKind.u64 (IntKind.wrap .i64 (x5+x6))) 1)))))]?).bind fun v27=>
  ((inL x8 (IntKind.wrap .i64 (shrI IntKind.u64 (IntKind.wrap IntKind.u64 (IntKind.wrap .i64 (x5+x6))) 1))).bind fun v28=>
  ((x8[(Int.toNat (IntKind.wrap .i64 (shrI IntKind.u64 (IntKind.wrap IntKind.u64 (IntKind.wrap .i64 (x5+x6))) 1)))]?).bind fun v29=>
  ((value_Compare m v27 v29).bind fun r30=>
  (bif (Bool.not (decide (r30<0))) then
  (J 1 33 M20 (s42_21 x0 x1 x2 x3 x4 (IntKind.wrap .i64 ((IntKind.wrap .i64 (shrI IntKind.u64 (IntKind.wrap IntKind.u64 (IntKind.wrap .i64 (x5+x6))) 1))+1)) x6 x7 x8) (l42 J m w42_16 [] M20 (s42_21 x0 x1 x2 x3 x4 (IntKind.wrap .i64 ((IntKind.wrap .i64 (shrI IntKind.u64 (IntKind.wrap IntKind.u64 (IntKind.wrap .i64 (x5+x6))) 1))+1)) x6 x7 x8)))
  else
  (J 1 33 M20 (s42_21 x0 x1 x2 x3 x4 x5 (IntKind.wrap .i64 (shrI IntKind.u64 (IntKind.wrap IntKind.u64 (IntKind.wrap .i64 (x5+x6))) 1)) x7 x8) (l42 J m w42_16 [] M20 (s42_21 x0 x1 x2 x3 x4 x5 (IntKind.wrap .i64 (shrI IntKind.u64 (IntKind.wrap IntKind.u64 (IntKind.wrap .i64 (x5+x6))) 1)) x7 x8))))))))):=fun J=>by kernel_rfl
 exact(h jn).trans (by
   simp only[jn_eq,h20]
   rfl)
theorem i42_j27_eq (m:Nat) (x0 x1 x2:Int) (x3:Bool) (x4:List Dt):e42 jn m w42_18 [] (s42_27 x0 x1 x2 x3 x4)=i42_j27 m (i42 m) x0 x1 x2 x3 x4:=by
 have h:∀J,e42 J m w42_18 [] (s42_27 x0 x1 x2 x3 x4)=
   (bif x3 then
  ((i42 m x1 x2 x0 x4).bind fun r33=>
  some r33)
   else
  some x4):=fun J=>by kernel_rfl
 exact(h jn).trans (rfl)
theorem i42_j26_eq (m:Nat) (x0 x1 x2:Int) (x3:List Dt):e42 jn m w42_19 [] (s42_26 x0 x1 x2 x3)=i42_j26 m (i42 m) x0 x1 x2 x3:=by
 have h:∀J,e42 J m w42_19 [] (s42_26 x0 x1 x2 x3)=
   (bif (decide (x1<x2)) then
  (J 0 44 0 (s42_27 x0 x1 x2 (decide (x2<x0)) x3) (e42 J m w42_18 [] (s42_27 x0 x1 x2 (decide (x2<x0)) x3)))
   else
  (J 0 44 0 (s42_27 x0 x1 x2 false x3) (e42 J m w42_18 [] (s42_27 x0 x1 x2 false x3)))):=fun J=>by kernel_rfl
 exact(h jn).trans (by
   simp only[jn_eq,i42_j27_eq m]
   rfl)
theorem i42_j25_eq (m:Nat) (x0 x1 x2 x3 x4:Int) (x5:Bool) (x6:List Dt):e42 jn m w42_20 [] (s42_25 x0 x1 x2 x3 x4 x5 x6)=i42_j25 m (i42 m) x0 x1 x2 x3 x4 x5 x6:=by
 have h:∀J,e42 J m w42_20 [] (s42_25 x0 x1 x2 x3 x4 x5 x6)=
   (bif x5 then
  ((i42 m x0 x3 x2 x6).bind fun r32=>
  (J 0 43 0 (s42_26 x1 x2 x4 r32) (e42 J m w42_19 [] (s42_26 x1 x2 x4 r32))))
   else
  (J 0 43 0 (s42_26 x1 x2 x4 x6) (e42 J m w42_19 [] (s42_26 x1 x2 x4 x6)))):=fun J=>by kernel_rfl
 exact(h jn).trans (by
   simp only[jn_eq,i42_j26_eq m]
   rfl)
theorem i42_j24_eq (m:Nat) (x0 x1 x2 x3 x4:Int) (x5:List Dt):e42 jn m w42_21 [] (s42_24 x0 x1 x2 x3 x4 x5)=i42_j24 m (i42 m) x0 x1 x2 x3 x4 x5:=by
 have h:∀J,e42 J m w42_21 [] (s42_24 x0 x1 x2 x3 x4 x5)=
   (bif (decide (x0<x3)) then
  (J 0 42 0 (s42_25 x0 x1 x2 x3 x4 (decide (x3<x2)) x5) (e42 J m w42_20 [] (s42_25 x0 x1 x2 x3 x4 (decide (x3<x2)) x5)))
   else
  (J 0 42 0 (s42_25 x0 x1 x2 x3 x4 false x5) (e42 J m w42_20 [] (s42_25 x0 x1 x2 x3 x4 false x5)))):=fun J=>by kernel_rfl
 exact(h jn).trans (by
   simp only[jn_eq,i42_j25_eq m]
   rfl)
theorem i42_j23_eq (m:Nat) (x0 x1 x2 x3 x4 x5:Int) (x6:Bool) (x7:List Dt):e42 jn m w42_22 [] (s42_23 x0 x1 x2 x3 x4 x5 x6 x7)=i42_j23 m (i42 m) x0 x1 x2 x3 x4 x5 x6 x7:=by
 have h:∀J,e42 J m w42_22 [] (s42_23 x0 x1 x2 x3 x4 x5 x6 x7)=
   (bif x6 then
  ((i43 m x4 x1 x5 x7).bind fun r31=>
  (J 0 41 0 (s42_24 x0 x2 x3 x4 x5 r31) (e42 J m w42_21 [] (s42_24 x0 x2 x3 x4 x5 r31))))
   else
  (J 0 41 0 (s42_24 x0 x2 x3 x4 x5 x7) (e42 J m w42_21 [] (s42_24 x0 x2 x3 x4 x5 x7)))):=fun J=>by kernel_rfl
 exact(h jn).trans (by
   simp only[jn_eq,i42_j24_eq m]
   rfl)
theorem i42_j22_eq (m:Nat) (x0 x1 x2 x3 x4 x5:Int) (x6:List Dt):e42 jn m w42_23 [] (s42_22 x0 x1 x2 x3 x4 x5 x6)=i42_j22 m (i42 m) x0 x1 x2 x3 x4 x5 x6:=by
 have h:∀J,e42 J m w42_23 [] (s42_22 x0 x1 x2 x3 x4 x5 x6)=
   (bif (decide (x5<x1)) then
  (J 0 40 0 (s42_23 x0 x1 x2 x3 x5 (IntKind.wrap .i64 (x4-x5)) (decide (x1<(IntKind.wrap .i64 (x4-x5)))) x6) (e42 J m w42_22 [] (s42_23 x0 x1 x2 x3 x5 (IntKind.wrap .i64 (x4-x5)) (decide (x1<(IntKind.wrap .i64 (x4-x5)))) x6)))
   else
  (J 0 40 0 (s42_23 x0 x1 x2 x3 x5 (IntKind.wrap .i64 (x4-x5)) false x6) (e42 J m w42_22 [] (s42_23 x0 x1 x2 x3 x5 (IntKind.wrap .i64 (x4-x5)) false x6)))):=fun J=>by kernel_rfl
 exact(h jn).trans (by
   simp only[jn_eq,i42_j23_eq m]
   rfl)
theorem i42_l20_eq (m:Nat):∀(M20:Nat) (x0 x1 x2 x3 x4 x5 x6 x7:Int) (x8:List Dt),l42 jn m w42_16 [] M20 (s42_21 x0 x1 x2 x3 x4 x5 x6 x7 x8)=i42_l20 m (i42 m) M20 x0 x1 x2 x3 x4 x5 x6 x7 x8
 |0,_,_,_,_,_,_,_,_,_=>rfl
 | M20+1,x0,x1,x2,x3,x4,x5,x6,x7,x8=>by
   have h:∀J,l42 J m w42_16 [] (M20+1) (s42_21 x0 x1 x2 x3 x4 x5 x6 x7 x8)=
   (bif (decide (x5<x6)) then
  (J 0 34 0 (s42_21 x0 x1 x2 x3 x4 x5 x6 x7 x8) (e42 J m w42_17 [M20] (s42_21 x0 x1 x2 x3 x4 x5 x6 x7 x8)))
   else
  (J 0 38 0 (s42_22 x0 x1 x2 x3 x4 x5 x8) (e42 J m w42_23 [] (s42_22 x0 x1 x2 x3 x4 x5 x8)))):=fun J=>by kernel_rfl
   refine(h jn).trans ?_
   simp only[jn_eq,i42_j21_eq m M20 (i42_l20 m (i42 m) M20) (fun x0 x1 x2 x3 x4 x5 x6 x7 x8=>i42_l20_eq m M20 x0 x1 x2 x3 x4 x5 x6 x7 x8),i42_j22_eq m]
   rfl
theorem i42_j19_eq (m:Nat) (x0 x1 x2 x3 x4 x5 x6 x7:Int) (x8:List Dt):e42 jn m w42_24 [] (s42_21 x0 x1 x2 x3 x4 x5 x6 x7 x8)=i42_j19 m (i42 m) x0 x1 x2 x3 x4 x5 x6 x7 x8:=by
 have h:∀J,e42 J m w42_24 [] (s42_21 x0 x1 x2 x3 x4 x5 x6 x7 x8)=
  (J 1 33 (Nat.succ m) (s42_21 x0 x1 x2 x3 x4 x5 x6 x7 x8) (l42 J m w42_16 [] (Nat.succ m) (s42_21 x0 x1 x2 x3 x4 x5 x6 x7 x8))):=fun J=>by kernel_rfl
 exact(h jn).trans (by
  simp only[jn_eq,i42_l20_eq m]
  rfl)
theorem i42_j18_eq (m:Nat) (x0 x1 x2 x3 x4 x5 x6:Int) (x7:List Dt):e42 jn m w42_25 [] (s42_18 x0 x1 x2 x3 x4 x5 x6 x7)=i42_j18 m (i42 m) x0 x1 x2 x3 x4 x5 x6 x7:=by
 have h:∀J,e42 J m w42_25 [] (s42_18 x0 x1 x2 x3 x4 x5 x6 x7)=
  (J 0 33 0 (s42_21 x0 x1 x2 x3 x4 x5 x6 (IntKind.wrap .i64 (x4-1)) x7) (e42 J m w42_24 [] (s42_21 x0 x1 x2 x3 x4 x5 x6 (IntKind.wrap .i64 (x4-1)) x7))):=fun J=>by kernel_rfl
 exact(h jn).trans (by
  simp only[jn_eq,i42_j19_eq m]
  rfl)
theorem i42_j17_eq (m:Nat) (x0 x1 x2:Int) (x3:List Dt):e42 jn m [1,1] [] (s42_17 x0 x1 x2 x3)=i42_j17 m (i42 m) x0 x1 x2 x3:=by
 have h:∀J,e42 J m [1,1] [] (s42_17 x0 x1 x2 x3)=
   (bif (decide ((IntKind.wrap .i64 (shrI IntKind.u64 (IntKind.wrap IntKind.u64 (IntKind.wrap .i64 (x0+x2))) 1))<x1)) then
  (J 0 32 0 (s42_18 x0 x1 x2 (IntKind.wrap .i64 (shrI IntKind.u64 (IntKind.wrap IntKind.u64 (IntKind.wrap .i64 (x0+x2))) 1)) (IntKind.wrap .i64 ((IntKind.wrap .i64 (shrI IntKind.u64 (IntKind.wrap IntKind.u64 (IntKind.wrap .i64 (x0+x2))) 1))+x1)) (IntKind.wrap .i64 ((IntKind.wrap .i64 ((IntKind.wrap .i64 (shrI IntKind.u64 (IntKind.wrap IntKind.u64 (IntKind.wrap .i64 (x0+x2))) 1))+x1))-x2)) (IntKind.wrap .i64 (shrI IntKind.u64 (IntKind.wrap IntKind.u64 (IntKind.wrap .i64 (x0+x2))) 1)) x3) (e42 J m w42_25 [] (s42_18 x0 x1 x2 (IntKind.wrap .i64 (shrI IntKind.u64 (IntKind.wrap IntKind.u64 (IntKind.wrap .i64 (x0+x2))) 1)) (IntKind.wrap .i64 ((IntKind.wrap .i64 (shrI IntKind.u64 (IntKind.wrap IntKind.u64 (IntKind.wrap .i64 (x0+x2))) 1))+x1)) (IntKind.wrap .i64 ((IntKind.wrap .i64 ((IntKind.wrap .i64 (shrI IntKind.u64 (IntKind.wrap IntKind.u64 (IntKind.wrap .i64 (x0+x2))) 1))+x1))-x2)) (IntKind.wrap .i64 (shrI IntKind.u64 (IntKind.wrap IntKind.u64 (IntKind.wrap .i64 (x0+x2))) 1)) x3)))
   else
  (J 0 32 0 (s42_18 x0 x1 x2 (IntKind.wrap .i64 (shrI IntKind.u64 (IntKind.wrap IntKind.u64 (IntKind.wrap .i64 (x0+x2))) 1)) (IntKind.wrap .i64 ((IntKind.wrap .i64 (shrI IntKind.u64 (IntKind.wrap IntKind.u64 (IntKind.wrap .i64 (x0+x2))) 1))+x1)) x0 x1 x3) (e42 J m w42_25 [] (s42_18 x0 x1 x2 (IntKind.wrap .i64 (shrI IntKind.u64 (IntKind.wrap IntKind.u64 (IntKind.wrap .i64 (x0+x2))) 1)) (IntKind.wrap .i64 ((IntKind.wrap .i64 (shrI IntKind.u64 (IntKind.wrap IntKind.u64 (IntKind.wrap .i64 (x0+x2))) 1))+x1)) x0 x1 x3)))):=fun J=>by kernel_rfl
 exact(h jn).trans (by
   simp only[jn_eq,i42_j18_eq m]
   rfl)
theorem i42_j8_eq (m:Nat) (x0 x1 x2:Int) (x3:List Dt):e42 jn m [1] [] (s42_17 x0 x1 x2 x3)=i42_j8 m (i42 m) x0 x1 x2 x3:=by
 have h:∀J,e42 J m [1] [] (s42_17 x0 x1 x2 x3)=
   (bif ((IntKind.wrap .i64 (x2-x1))==1) then
  (J 0 15 0 (s42_11 x1 x0 x1 x3) (e42 J m w42_15 [] (s42_11 x1 x0 x1 x3)))
   else
  (J 0 24 0 (s42_17 x0 x1 x2 x3) (e42 J m [1,1] [] (s42_17 x0 x1 x2 x3)))):=fun J=>by kernel_rfl
 exact(h jn).trans (by
   simp only[jn_eq,i42_j9_eq m,i42_j17_eq m]
   rfl)
theorem i42_eq (m:Nat) (a0 a1 a2:Int) (a3:List Dt):e42 jn m [] [] ⟨[(.row 0),(.dat 3 (.int a0)),(.dat 3 (.int a1)),(.dat 3 (.int a2)),(.fn 43 [])],[(.row 22 a3)],1⟩=i42 (m+1) a0 a1 a2 a3:=by
 have h:∀J,e42 J m [] [] ⟨[(.row 0),(.dat 3 (.int a0)),(.dat 3 (.int a1)),(.dat 3 (.int a2)),(.fn 43 [])],[(.row 22 a3)],1⟩=
   (bif ((IntKind.wrap .i64 (a1-a0))==1) then
  (J 0 3 0 (s42_2 a0 a1 a2 a3) (e42 J m w42_7 [] (s42_2 a0 a1 a2 a3)))
   else
  (J 0 12 0 (s42_17 a0 a1 a2 a3) (e42 J m [1] [] (s42_17 a0 a1 a2 a3)))):=fun J=>by kernel_rfl
 refine(h jn).trans ?_
 simp only[jn_eq,i42_j0_eq m,i42_j8_eq m]
 rfl
noncomputable def d40 (q:Res):Option (List Dt):=match q with
 |(.tup [],[.row T0 x0])=>bif Nat.beq T0 22 then some x0 else none
 |_=>none
def w40_0:List Nat:=[1,1,0,0,0,1]
def w40_1:List Nat:=[1,1,1,1,0]
def w40_2:List Nat:=[1,1,1,1,0,0,1,0,1,0,0]
def w40_3:List Nat:=[1,1,1,1,0,0,1,0,1,0,0,0,1]
def w40_4:List Nat:=[1,1,1,1,0,0,1,0,1,1,1]
def w40_5:List Nat:=[1,1,1,1,0,0,1,0,1,1]
def w40_6:List Nat:=[1,1,1,1,0,0,1,0,1]
def w40_7:List Nat:=[1,1,1,1,0,0,1]
theorem d40_sim {b:Res} {r:List Dt} (h:d40 b=some r):Sim Tryd.prog b ((.tup []),[(.row 22 r)]):=by
 unfold d40 at h
 split at h
 ·obtain⟨hc,h2⟩:=bif_some h
  cases h2
  have e0:=beq_eq hc
  subst e0
  exact Sim.of (.tup .nil) (.cons .same .nil)
 ·cases h
noncomputable def e40 (J:Nat→Nat→Nat→St→Option (List Dt)→Option (List Dt)) (m:Nat) (p ms:List Nat) (σ:St):=evAt Tryd.prog env (ct m) J (m+1) 83 63 Tryd.f83 d40 p ms σ
noncomputable def l40 (J:Nat→Nat→Nat→St→Option (List Dt)→Option (List Dt)) (m:Nat) (p ms:List Nat) (M:Nat) (σ:St):=loopAt Tryd.prog env (ct m) J (m+1) 83 63 Tryd.f83 d40 p ms M σ
noncomputable def s40_2 (x0 x1 x2 x3:Int) (x4:List Dt):St:=⟨tsOf [(0,(.row 0)),(1,(.dat 3 (.int x0))),(2,(.fn 43 [])),(6,(.dat 3 (.int x1))),(7,(.dat 3 (.int x2))),(8,(.dat 3 (.int x3)))],[(.row 22 x4)],1⟩
noncomputable def s40_11 (x0 x1:Int) (x2:List Dt):St:=⟨tsOf [(0,(.row 0)),(1,(.dat 3 (.int x0))),(2,(.fn 43 [])),(6,(.dat 3 (.int x1)))],[(.row 22 x2)],1⟩
noncomputable def s40_10 (x0 x1 x2:Int) (x3:List Dt):St:=⟨tsOf [(0,(.row 0)),(1,(.dat 3 (.int x0))),(2,(.fn 43 [])),(6,(.dat 3 (.int x1))),(7,(.dat 3 (.int x2)))],[(.row 22 x3)],1⟩
theorem i40_j2_eq (m:Nat) (M1:Nat) (rec1:Int→Int→Int→Int→List Dt→Option (List Dt)) (h1:∀(x0 x1 x2 x3:Int) (x4:List Dt),l40 jn m [1,1,0,0] [] M1 (s40_2 x0 x1 x2 x3 x4)=rec1 x0 x1 x2 x3 x4) (x0 x1 x2 x3:Int) (x4:List Dt):e40 jn m w40_0 [M1] (s40_2 x0 x1 x2 x3 x4)=i40_j2 m rec1 x0 x1 x2 x3 x4:=by
 have h:∀J,e40 J m w40_0 [M1] (s40_2 x0 x1 x2 x3 x4)=
   ((i41 m x2 x3 x4).bind fun r0=>
  (J 1 2 M1 (s40_2 x0 x1 x3 (IntKind.wrap .i64 (x3+x1)) r0) (l40 J m [1,1,0,0] [] M1 (s40_2 x0 x1 x3 (IntKind.wrap .i64 (x3+x1)) r0)))):=fun J=>by kernel_rfl
 exact(h jn).trans (by
   simp only[jn_eq,h1]
   rfl)
theorem i40_j9_eq (m:Nat) (M5:Nat) (rec5:Int→Int→List Dt→Option (List Dt)) (h5:∀(x0 x1:Int) (x2:List Dt),l40 jn m w40_1 [] M5 (s40_11 x0 x1 x2)=rec5 x0 x1 x2) (M8:Nat) (rec8:Int→Int→Int→Int→List Dt→Option (List Dt)) (h8:∀(x0 x1 x2 x3:Int) (x4:List Dt),l40 jn m w40_2 [M5] M8 (s40_2 x0 x1 x2 x3 x4)=rec8 x0 x1 x2 x3 x4) (x0 x1 x2 x3:Int) (x4:List Dt):e40 jn m w40_3 [M5,M8] (s40_2 x0 x1 x2 x3 x4)=i40_j9 m rec5 rec8 x0 x1 x2 x3 x4:=by
 have h:∀J,e40 J m w40_3 [M5,M8] (s40_2 x0 x1 x2 x3 x4)=
   ((i42 m x2 (IntKind.wrap .i64 (x2+x1)) x3 x4).bind fun r2=>
  (J 1 9 M8 (s40_2 x0 x1 x3 (IntKind.wrap .i64 (x3+(IntKind.wrap .i64 (2*x1)))) r2) (l40 J m w40_2 [M5] M8 (s40_2 x0 x1 x3 (IntKind.wrap .i64 (x3+(IntKind.wrap .i64 (2*x1)))) r2)))):=fun J=>by kernel_rfl
 exact(h jn).trans (by
   simp only[jn_eq,h8]
   rfl)
theorem i40_j11_eq (m:Nat) (M5:Nat) (rec5:Int→Int→List Dt→Option (List Dt)) (h5:∀(x0 x1:Int) (x2:List Dt),l40 jn m w40_1 [] M5 (s40_11 x0 x1 x2)=rec5 x0 x1 x2) (x0 x1:Int) (x2:List Dt):e40 jn m w40_4 [M5] (s40_11 x0 x1 x2)=i40_j11 m rec5 x0 x1 x2:=by
 have h:∀J,e40 J m w40_4 [M5] (s40_11 x0 x1 x2)=
  (J 1 7 M5 (s40_11 x0 (IntKind.wrap .i64 (x1*2)) x2) (l40 J m w40_1 [] M5 (s40_11 x0 (IntKind.wrap .i64 (x1*2)) x2))):=fun J=>by kernel_rfl
 exact(h jn).trans (by
  simp only[jn_eq,h5]
  rfl)
theorem i40_j10_eq (m:Nat) (M5:Nat) (rec5:Int→Int→List Dt→Option (List Dt)) (h5:∀(x0 x1:Int) (x2:List Dt),l40 jn m w40_1 [] M5 (s40_11 x0 x1 x2)=rec5 x0 x1 x2) (x0 x1 x2:Int) (x3:List Dt):e40 jn m w40_5 [M5] (s40_10 x0 x1 x2 x3)=i40_j10 m rec5 x0 x1 x2 x3:=by
 have h:∀J,e40 J m w40_5 [M5] (s40_10 x0 x1 x2 x3)=
   (bif (decide ((IntKind.wrap .i64 (x2+x1))<x0)) then
  ((i42 m x2 (IntKind.wrap .i64 (x2+x1)) x0 x3).bind fun r3=>
  (J 0 16 0 (s40_11 x0 x1 r3) (e40 J m w40_4 [M5] (s40_11 x0 x1 r3))))
   else
  (J 0 16 0 (s40_11 x0 x1 x3) (e40 J m w40_4 [M5] (s40_11 x0 x1 x3)))):=fun J=>by kernel_rfl
 exact(h jn).trans (by
   simp only[jn_eq,i40_j11_eq m M5 rec5 h5]
   rfl)
theorem i40_l8_eq (m:Nat) (M5:Nat) (rec5:Int→Int→List Dt→Option (List Dt)) (h5:∀(x0 x1:Int) (x2:List Dt),l40 jn m w40_1 [] M5 (s40_11 x0 x1 x2)=rec5 x0 x1 x2):∀(M8:Nat) (x0 x1 x2 x3:Int) (x4:List Dt),l40 jn m w40_2 [M5] M8 (s40_2 x0 x1 x2 x3 x4)=i40_l8 m rec5 M8 x0 x1 x2 x3 x4
 |0,_,_,_,_,_=>rfl
 | M8+1,x0,x1,x2,x3,x4=>by
   have h:∀J,l40 J m w40_2 [M5] (M8+1) (s40_2 x0 x1 x2 x3 x4)=
   (bif (decide (x3≤x0)) then
  (J 0 10 0 (s40_2 x0 x1 x2 x3 x4) (e40 J m w40_3 [M5,M8] (s40_2 x0 x1 x2 x3 x4)))
   else
  (J 0 13 0 (s40_10 x0 x1 x2 x4) (e40 J m w40_5 [M5] (s40_10 x0 x1 x2 x4)))):=fun J=>by kernel_rfl
   refine(h jn).trans ?_
   simp only[jn_eq,i40_j9_eq m M5 rec5 h5 M8 (i40_l8 m rec5 M8) (fun x0 x1 x2 x3 x4=>i40_l8_eq m M5 rec5 h5 M8 x0 x1 x2 x3 x4),i40_j10_eq m M5 rec5 h5]
   rfl
theorem i40_j7_eq (m:Nat) (M5:Nat) (rec5:Int→Int→List Dt→Option (List Dt)) (h5:∀(x0 x1:Int) (x2:List Dt),l40 jn m w40_1 [] M5 (s40_11 x0 x1 x2)=rec5 x0 x1 x2) (x0 x1 x2 x3:Int) (x4:List Dt):e40 jn m w40_6 [M5] (s40_2 x0 x1 x2 x3 x4)=i40_j7 m rec5 x0 x1 x2 x3 x4:=by
 have h:∀J,e40 J m w40_6 [M5] (s40_2 x0 x1 x2 x3 x4)=
  (J 1 9 (Nat.succ m) (s40_2 x0 x1 x2 x3 x4) (l40 J m w40_2 [M5] (Nat.succ m) (s40_2 x0 x1 x2 x3 x4))):=fun J=>by kernel_rfl
 exact(h jn).trans (by
  simp only[jn_eq,i40_l8_eq m M5 rec5 h5]
  rfl)
theorem i40_j6_eq (m:Nat) (M5:Nat) (rec5:Int→Int→List Dt→Option (List Dt)) (h5:∀(x0 x1:Int) (x2:List Dt),l40 jn m w40_1 [] M5 (s40_11 x0 x1 x2)=rec5 x0 x1 x2) (x0 x1:Int) (x2:List Dt):e40 jn m w40_7 [M5] (s40_11 x0 x1 x2)=i40_j6 m rec5 x0 x1 x2:=by
 have h:∀J,e40 J m w40_7 [M5] (s40_11 x0 x1 x2)=
  (J 0 9 0 (s40_2 x0 x1 0 (IntKind.wrap .i64 (2*x1)) x2) (e40 J m w40_6 [M5] (s40_2 x0 x1 0 (IntKind.wrap .i64 (2*x1)) x2))):=fun J=>by kernel_rfl
 exact(h jn).trans (by
  simp only[jn_eq,i40_j7_eq m M5 rec5 h5]
  rfl)
theorem i40_l5_eq (m:Nat):∀(M5:Nat) (x0 x1:Int) (x2:List Dt),l40 jn m w40_1 [] M5 (s40_11 x0 x1 x2)=i40_l5 m M5 x0 x1 x2
 |0,_,_,_=>rfl
 | M5+1,x0,x1,x2=>by
   have h:∀J,l40 J m w40_1 [] (M5+1) (s40_11 x0 x1 x2)=
   (bif (decide (x1<x0)) then
  (J 0 8 0 (s40_11 x0 x1 x2) (e40 J m w40_7 [M5] (s40_11 x0 x1 x2)))
   else
  some x2):=fun J=>by kernel_rfl
   refine(h jn).trans ?_
   simp only[jn_eq,i40_j6_eq m M5 (i40_l5 m M5) (fun x0 x1 x2=>i40_l5_eq m M5 x0 x1 x2)]
   rfl
theorem i40_j4_eq (m:Nat) (x0 x1:Int) (x2:List Dt):e40 jn m [1,1,1,1] [] (s40_11 x0 x1 x2)=i40_j4 m x0 x1 x2:=by
 have h:∀J,e40 J m [1,1,1,1] [] (s40_11 x0 x1 x2)=
  (J 1 7 (Nat.succ m) (s40_11 x0 x1 x2) (l40 J m w40_1 [] (Nat.succ m) (s40_11 x0 x1 x2))):=fun J=>by kernel_rfl
 exact(h jn).trans (by
  simp only[jn_eq,i40_l5_eq m]
  rfl)
theorem i40_j3_eq (m:Nat) (x0 x1 x2:Int) (x3:List Dt):e40 jn m [1,1,1] [] (s40_10 x0 x1 x2 x3)=i40_j3 m x0 x1 x2 x3:=by
 have h:∀J,e40 J m [1,1,1] [] (s40_10 x0 x1 x2 x3)=
   ((i41 m x2 x0 x3).bind fun r1=>
  (J 0 7 0 (s40_11 x0 x1 r1) (e40 J m [1,1,1,1] [] (s40_11 x0 x1 r1)))):=fun J=>by kernel_rfl
 exact(h jn).trans (by
   simp only[jn_eq,i40_j4_eq m]
   rfl)
theorem i40_l1_eq (m:Nat):∀(M1:Nat) (x0 x1 x2 x3:Int) (x4:List Dt),l40 jn m [1,1,0,0] [] M1 (s40_2 x0 x1 x2 x3 x4)=i40_l1 m M1 x0 x1 x2 x3 x4
 |0,_,_,_,_,_=>rfl
 | M1+1,x0,x1,x2,x3,x4=>by
   have h:∀J,l40 J m [1,1,0,0] [] (M1+1) (s40_2 x0 x1 x2 x3 x4)=
   (bif (decide (x3≤x0)) then
  (J 0 3 0 (s40_2 x0 x1 x2 x3 x4) (e40 J m w40_0 [M1] (s40_2 x0 x1 x2 x3 x4)))
   else
  (J 0 6 0 (s40_10 x0 x1 x2 x4) (e40 J m [1,1,1] [] (s40_10 x0 x1 x2 x4)))):=fun J=>by kernel_rfl
   refine(h jn).trans ?_
   simp only[jn_eq,i40_j2_eq m M1 (i40_l1 m M1) (fun x0 x1 x2 x3 x4=>i40_l1_eq m M1 x0 x1 x2 x3 x4),i40_j3_eq m]
   rfl
theorem i40_j0_eq (m:Nat) (x0 x1 x2 x3:Int) (x4:List Dt):e40 jn m [1,1] [] (s40_2 x0 x1 x2 x3 x4)=i40_j0 m x0 x1 x2 x3 x4:=by
 have h:∀J,e40 J m [1,1] [] (s40_2 x0 x1 x2 x3 x4)=
  (J 1 2 (Nat.succ m) (s40_2 x0 x1 x2 x3 x4) (l40 J m [1,1,0,0] [] (Nat.succ m) (s40_2 x0 x1 x2 x3 x4))):=fun J=>by kernel_rfl
 exact(h jn).trans (by
  simp only[jn_eq,i40_l1_eq m]
  rfl)
theorem i40_eq (m:Nat) (a0:Int) (a1:List Dt):e40 jn m [] [] ⟨[(.row 0),(.dat 3 (.int a0)),(.fn 43 [])],[(.row 22 a1)],1⟩=i40 (m+1) a0 a1:=by
 have h:∀J,e40 J m [] [] ⟨[(.row 0),(.dat 3 (.int a0)),(.fn 43 [])],[(.row 22 a1)],1⟩=
  (J 0 2 0 (s40_2 a0 20 0 20 a1) (e40 J m [1,1] [] (s40_2 a0 20 0 20 a1))):=fun J=>by kernel_rfl
 refine(h jn).trans ?_
 simp only[jn_eq,i40_j0_eq m]
 rfl
noncomputable def d39 (q:Res):Option (List Dt):=match q with
 |(.tup [],[.row T0 x0])=>bif Nat.beq T0 22 then some x0 else none
 |_=>none
theorem d39_sim {b:Res} {r:List Dt} (h:d39 b=some r):Sim Tryd.prog b ((.tup []),[(.row 22 r)]):=by
 unfold d39 at h
 split at h
 ·obtain⟨hc,h2⟩:=bif_some h
  cases h2
  have e0:=beq_eq hc
  subst e0
  exact Sim.of (.tup .nil) (.cons .same .nil)
 ·cases h
noncomputable def e39 (J:Nat→Nat→Nat→St→Option (List Dt)→Option (List Dt)) (m:Nat) (p ms:List Nat) (σ:St):=evAt Tryd.prog env (ct m) J (m+1) 70 9 Tryd.f70 d39 p ms σ
noncomputable def l39 (J:Nat→Nat→Nat→St→Option (List Dt)→Option (List Dt)) (m:Nat) (p ms:List Nat) (M:Nat) (σ:St):=loopAt Tryd.prog env (ct m) J (m+1) 70 9 Tryd.f70 d39 p ms M σ
theorem i39_eq (m:Nat) (a0:List Dt):e39 jn m [] [] ⟨[(.row 0),(.fn 43 [])],[(.row 22 a0)],1⟩=i39 (m+1) a0:=by
 have h:∀J,e39 J m [] [] ⟨[(.row 0),(.fn 43 [])],[(.row 22 a0)],1⟩=
   ((i40 m (List.length a0:Int) a0).bind fun r0=>
  some r0):=fun J=>by kernel_rfl
 refine(h jn).trans ?_
 rfl
noncomputable def d25 (q:Res):Option Bool:=match q with
 |(.dat T0 x0,[])=>bif Nat.beq T0 4 then some x0.toBool else none
 |_=>none
def w25_0:List Nat:=[1,1,1,0,1,0]
def w25_1:List Nat:=[1,1,1,0,1,0,0,1,1]
def w25_2:List Nat:=[1,1,1,0,1,0,0,1]
def w25_3:List Nat:=[1,1,1,0,1]
theorem d25_sim {b:Res} {r:Bool} (h:d25 b=some r):Sim Tryd.prog b ((.dat 4 (.bool r)),[]):=by
 unfold d25 at h
 split at h
 ·obtain⟨hc,h2⟩:=bif_some h
  cases h2
  have e0:=beq_eq hc
  subst e0
  exact Sim.of (.of (.dat (.bool Tryd.underlying4)) rfl rfl) .nil
 ·cases h
noncomputable def e25 (J:Nat→Nat→Nat→St→Option Bool→Option Bool) (m:Nat) (p ms:List Nat) (σ:St):=evAt Tryd.prog env (ct m) J (m+1) 48 25 Tryd.f48 d25 p ms σ
noncomputable def l25 (J:Nat→Nat→Nat→St→Option Bool→Option Bool) (m:Nat) (p ms:List Nat) (M:Nat) (σ:St):=loopAt Tryd.prog env (ct m) J (m+1) 48 25 Tryd.f48 d25 p ms M σ
noncomputable def s25_3 (x0:Int) (x1:List Dt):St:=⟨tsOf [(3,(.row 0)),(4,(.dat 3 (.int x0)))],[(.row 22 x1)],0⟩
noncomputable def s25_4:St:=⟨tsOf [],[],0⟩
theorem schema_repeats_j3_eq (m:Nat) (M1:Nat) (rec1:Int→List Dt→Option Bool) (h1:∀(x0:Int) (x1:List Dt),l25 jn m w25_0 [] M1 (s25_3 x0 x1)=rec1 x0 x1) (x0:Int) (x1:List Dt):e25 jn m w25_1 [M1] (s25_3 x0 x1)=schema_repeats_j3 m rec1 x0 x1:=by
 have h:∀J,e25 J m w25_1 [M1] (s25_3 x0 x1)=
  (J 1 4 M1 (s25_3 (IntKind.wrap .i64 (x0+1)) x1) (l25 J m w25_0 [] M1 (s25_3 (IntKind.wrap .i64 (x0+1)) x1))):=fun J=>by kernel_rfl
 exact(h jn).trans (by
  simp only[jn_eq,h1]
  rfl)
theorem schema_repeats_j2_eq (m:Nat) (M1:Nat) (rec1:Int→List Dt→Option Bool) (h1:∀(x0:Int) (x1:List Dt),l25 jn m w25_0 [] M1 (s25_3 x0 x1)=rec1 x0 x1) (x0:Int) (x1:List Dt):e25 jn m w25_2 [M1] (s25_3 x0 x1)=schema_repeats_j2 m rec1 x0 x1:=by
 have h:∀J,e25 J m w25_2 [M1] (s25_3 x0 x1)=
   ((inL x1 (IntKind.wrap .i64 (x0-1))).bind fun v2=>
  ((x1[(Int.toNat (IntKind.wrap .i64 (x0-1)))]?).bind fun v3=>
  ((inL x1 x0).bind fun v4=>
  ((x1[(Int.toNat x0)]?).bind fun v5=>
  ((value_Equal m v3 v5).bind fun r6=>
  (bif r6 then
  some true
  else
  (J 0 5 0 (s25_3 x0 x1) (e25 J m w25_1 [M1] (s25_3 x0 x1))))))))):=fun J=>by kernel_rfl
 exact(h jn).trans (by
   simp only[jn_eq,schema_repeats_j3_eq m M1 rec1 h1]
   rfl)
theorem schema_repeats_j4_eq (m:Nat):e25 jn m [1,1,1,1] [] s25_4=schema_repeats_j4 m:=by
 have h:∀J,e25 J m [1,1,1,1] [] s25_4=
  some false:=fun J=>by kernel_rfl
 exact(h jn).trans (rfl)
theorem schema_repeats_l1_eq (m:Nat):∀(M1:Nat) (x0:Int) (x1:List Dt),l25 jn m w25_0 [] M1 (s25_3 x0 x1)=schema_repeats_l1 m M1 x0 x1
 |0,_,_=>rfl
 | M1+1,x0,x1=>by
   have h:∀J,l25 J m w25_0 [] (M1+1) (s25_3 x0 x1)=
   (bif (decide (x0<(List.length x1:Int))) then
  (J 0 6 0 (s25_3 x0 x1) (e25 J m w25_2 [M1] (s25_3 x0 x1)))
   else
  (J 0 8 0 s25_4 (e25 J m [1,1,1,1] [] s25_4))):=fun J=>by kernel_rfl
   refine(h jn).trans ?_
   simp only[jn_eq,schema_repeats_j2_eq m M1 (schema_repeats_l1 m M1) (fun x0 x1=>schema_repeats_l1_eq m M1 x0 x1),schema_repeats_j4_eq m]
   rfl
theorem schema_repeats_j0_eq (m:Nat) (x0:Int) (x1:List Dt):e25 jn m w25_3 [] (s25_3 x0 x1)=schema_repeats_j0 m x0 x1:=by
 have h:∀J,e25 J m w25_3 [] (s25_3 x0 x1)=
  (J 1 4 (Nat.succ m) (s25_3 x0 x1) (l25 J m w25_0 [] (Nat.succ m) (s25_3 x0 x1))):=fun J=>by kernel_rfl
 exact(h jn).trans (by
  simp only[jn_eq,schema_repeats_l1_eq m]
  rfl)
theorem schema_repeats_eq (m:Nat) (a0:List Dt):e25 jn m [] [] ⟨[(.dat 22 (.lst a0))],[],0⟩=schema_repeats (m+1) a0:=by
 have h:∀J,e25 J m [] [] ⟨[(.dat 22 (.lst a0))],[],0⟩=
   ((slices_Clone a0).bind fun r0=>
  ((i39 m r0).bind fun r1=>
  (J 0 4 0 (s25_3 1 r1) (e25 J m w25_3 [] (s25_3 1 r1))))):=fun J=>by kernel_rfl
 refine(h jn).trans ?_
 simp only[jn_eq,schema_repeats_j0_eq m]
 rfl
noncomputable def d24 (q:Res):Option (List Dt):=match q with
 |(.row n0,[.gone,.row T1 x1])=>bif (Nat.beq n0 1&&Nat.beq T1 38) then some x1 else none
 |_=>none
def w24_0:List Nat:=[1,1,1,1,1,1,1,1,1,0,1,0,0,1,0]
def w24_1:List Nat:=[1,1,1,1,1,1,1,1,1,0,1,0,0,1,0,0,1,1,1]
def w24_2:List Nat:=[1,1,1,1,1,1,1,1,1,0,1,0,0,1,0,0,1,1]
def w24_3:List Nat:=[1,1,1,1,1,1,1,1,1,0,1,0,1,0,1,0]
def w24_4:List Nat:=[1,1,1,1,1,1,1,1,1,0,1,0,1,0,1,0,0,1,1,1]
def w24_5:List Nat:=[1,1,1,1,1,1,1,1,1,0,1,0,1,0,1,0,0,1,1]
def w24_6:List Nat:=[1,1,1,1,1,1,1,1,1,0,1,0,1,1,1,0]
def w24_7:List Nat:=[1,1,1,1,1,1,1,1,1,0,1,0,1,1,1,0,0,1,1,1]
def w24_8:List Nat:=[1,1,1,1,1,1,1,1,1,0,1,0,1,1,1,0,0,1,1]
def w24_9:List Nat:=[1,1,1,1,1,1,1,1,1,1,0,1,0,1,1,0]
def w24_10:List Nat:=[1,1,1,1,1,1,1,1,1,1,0,1,0,1,1,0,0,1,1,0,0,1,1,0]
def w24_11:List Nat:=[1,1,1,1,1,1,1,1,1,1,0,1,0,1,1,0,0,1,1,0,0,1,1,0,0,1,1,1]
def w24_12:List Nat:=[1,1,1,1,1,1,1,1,1,1,0,1,0,1,1,0,0,1,1,0,0,1,1,0,0,1,1]
def w24_13:List Nat:=[1,1,1,1,1,1,1,1,1,1,0,1,0,1,1,0,0,1,1,1]
def w24_14:List Nat:=[1,1,1,1,1,1,1,1,1,1,0,1,0,1,1,0,0,1,1,0,0,1,1]
def w24_15:List Nat:=[1,1,1,1,1,1,1,1,1,1,0,1,0,1,1,0,0,1,1]
def w24_16:List Nat:=[1,1,1,1,1,1,1,1,1,1,1]
def w24_17:List Nat:=[1,1,1,1,1,1,1,1,1,1,0,1,0,1,1]
def w24_18:List Nat:=[1,1,1,1,1,1,1,1,1,1,0,1,0,1]
def w24_19:List Nat:=[1,1,1,1,1,1,1,1,1,1]
def w24_20:List Nat:=[1,1,1,1,1,1,1,1,1,0,1,0,1,1,1]
def w24_21:List Nat:=[1,1,1,1,1,1,1,1,1,0,1,0,1,1]
def w24_22:List Nat:=[1,1,1,1,1,1,1,1,1,0,1,0,1,0,1]
def w24_23:List Nat:=[1,1,1,1,1,1,1,1,1,0,1,0,1]
def w24_24:List Nat:=[1,1,1,1,1,1,1,1,1,0,1,0,0,1]
def w24_25:List Nat:=[1,1,1,1,1,1,1,1,1]
def w24_26:List Nat:=[1,1,1,1,1,1,1]
def w24_27:List Nat:=[1,1,1,1,1,1]
def w24_28:List Nat:=[1,1,1,1,1]
theorem d24_sim {b:Res} {r:List Dt} (h:d24 b=some r):Sim Tryd.prog b ((.row 1),[.gone,(.row 38 r)]):=by
 unfold d24 at h
 split at h
 ·obtain⟨hc,h2⟩:=bif_some h
  cases h2
  have e0:=beq_eq (and_l hc)
  have e1:=beq_eq (and_r hc)
  subst e0 e1
  exact Sim.of (.of .same rfl rfl) (.cons .same (.cons .same .nil))
 ·cases h
noncomputable def e24 (J:Nat→Nat→Nat→St→Option (List Dt)→Option (List Dt)) (m:Nat) (p ms:List Nat) (σ:St):=evAt Tryd.prog env (ct m) J (m+1) 25 211 Tryd.f25 d24 p ms σ
noncomputable def l24 (J:Nat→Nat→Nat→St→Option (List Dt)→Option (List Dt)) (m:Nat) (p ms:List Nat) (M:Nat) (σ:St):=loopAt Tryd.prog env (ct m) J (m+1) 25 211 Tryd.f25 d24 p ms M σ
noncomputable def s24_7 (x0:List Dt) (x1 x2:Int) (x3:List Dt) (x4 x5:Dt) (x6:List Dt):St:=⟨tsOf [(4,(.ptr 1 [] 0)),(5,(.ptr 3 [] 0)),(6,(.ptr 4 [] 0)),(7,(.ptr 5 [] 0)),(9,(.fn 37 [(.ptr 1 [] 0),(.ptr 5 [] 0)])),(102,(.dat 26 (.lst x0))),(103,(.dat 3 (.int x1))),(104,(.dat 3 (.int x2)))],[.gone,(.box 38 (.row 2)),(.row 38 x3),(.box 30 (.dat 30 x4)),(.box 25 (.dat 25 x5)),(.box 26 (.dat 26 (.lst x6)))],1⟩
noncomputable def s24_12 (x0:List Dt) (x1 x2:Int) (x3:List Dt) (x4 x5:Dt) (x6:List Dt):St:=⟨tsOf [(4,(.ptr 1 [] 0)),(5,(.ptr 3 [] 0)),(6,(.ptr 4 [] 0)),(7,(.ptr 5 [] 0)),(9,(.fn 37 [(.ptr 1 [] 0),(.ptr 5 [] 0)])),(122,(.dat 23 (.lst x0))),(123,(.dat 3 (.int x1))),(124,(.dat 3 (.int x2)))],[.gone,(.box 38 (.row 2)),(.row 38 x3),(.box 30 (.dat 30 x4)),(.box 25 (.dat 25 x5)),(.box 26 (.dat 26 (.lst x6)))],1⟩
noncomputable def s24_17 (x0:List Dt) (x1 x2:Int) (x3:List Dt) (x4 x5:Dt) (x6:List Dt):St:=⟨tsOf [(4,(.ptr 1 [] 0)),(5,(.ptr 3 [] 0)),(6,(.ptr 4 [] 0)),(7,(.ptr 5 [] 0)),(9,(.fn 37 [(.ptr 1 [] 0),(.ptr 5 [] 0)])),(145,(.dat 27 (.lst x0))),(146,(.dat 3 (.int x1))),(147,(.dat 3 (.int x2)))],[.gone,(.box 38 (.row 2)),(.row 38 x3),(.box 30 (.dat 30 x4)),(.box 25 (.dat 25 x5)),(.box 26 (.dat 26 (.lst x6)))],1⟩
noncomputable def s24_26 (x0:List Dt) (x1 x2:Int) (x3:List Dt) (x4 x5:Int) (x6:List Dt) (x7:Dt) (x8:List Dt) (x9:Dt):St:=⟨tsOf [(4,(.ptr 1 [] 0)),(6,(.ptr 3 [] 0)),(7,(.ptr 4 [] 0)),(25,(.ptr 5 [] 0)),(184,(.dat 28 (.lst x0))),(185,(.dat 3 (.int x1))),(186,(.dat 3 (.int x2))),(191,(.dat 22 (.lst x3))),(192,(.dat 3 (.int x4))),(193,(.dat 3 (.int x5)))],[.gone,(.box 38 (.row 2)),(.row 38 x6),(.box 25 (.dat 25 x7)),(.box 26 (.dat 26 (.lst x8))),(.box 30 (.dat 30 x9))],1⟩
noncomputable def s24_27 (x0:List Dt) (x1 x2:Int) (x3:List Dt) (x4:Dt) (x5:List Dt):St:=⟨tsOf [(4,(.ptr 1 [] 0)),(6,(.ptr 3 [] 0)),(7,(.ptr 4 [] 0)),(184,(.dat 28 (.lst x0))),(185,(.dat 3 (.int x1))),(186,(.dat 3 (.int x2)))],[.gone,(.box 38 (.row 2)),(.row 38 x3),(.box 25 (.dat 25 x4)),(.box 26 (.dat 26 (.lst x5)))],1⟩
noncomputable def s24_28 (x0:List Dt):St:=⟨tsOf [(4,(.ptr 1 [] 0))],[.gone,(.box 38 (.row 2)),(.row 38 x0)],1⟩
noncomputable def s24_19 (x0:List Dt) (x1 x2:Dt) (x3:List Dt):St:=⟨tsOf [(4,(.ptr 1 [] 0)),(5,(.ptr 3 [] 0)),(6,(.ptr 4 [] 0)),(7,(.ptr 5 [] 0))],[.gone,(.box 38 (.row 2)),(.row 38 x0),(.box 30 (.dat 30 x1)),(.box 25 (.dat 25 x2)),(.box 26 (.dat 26 (.lst x3)))],1⟩
noncomputable def s24_18 (x0:List Dt) (x1 x2:Dt) (x3:List Dt):St:=⟨tsOf [(4,(.ptr 1 [] 0)),(5,(.ptr 3 [] 0)),(6,(.ptr 4 [] 0)),(7,(.ptr 5 [] 0)),(9,(.fn 37 [(.ptr 1 [] 0),(.ptr 5 [] 0)]))],[.gone,(.box 38 (.row 2)),(.row 38 x0),(.box 30 (.dat 30 x1)),(.box 25 (.dat 25 x2)),(.box 26 (.dat 26 (.lst x3)))],1⟩
theorem i24_j7_eq (m:Nat) (M5:Nat) (rec5:List Dt→Int→Int→List Dt→Dt→Dt→List Dt→Option (List Dt)) (h5:∀(x0:List Dt) (x1 x2:Int) (x3:List Dt) (x4 x5:Dt) (x6:List Dt),l24 jn m w24_0 [] M5 (s24_7 x0 x1 x2 x3 x4 x5 x6)=rec5 x0 x1 x2 x3 x4 x5 x6) (x0:List Dt) (x1 x2:Int) (x3:List Dt) (x4 x5:Dt) (x6:List Dt):e24 jn m w24_1 [M5] (s24_7 x0 x1 x2 x3 x4 x5 x6)=i24_j7 m (i24 m) rec5 x0 x1 x2 x3 x4 x5 x6:=by
 have h:∀J,e24 J m w24_1 [M5] (s24_7 x0 x1 x2 x3 x4 x5 x6)=
  (J 1 11 M5 (s24_7 x0 x1 (IntKind.wrap .i64 (x2+1)) x3 x4 x5 x6) (l24 J m w24_0 [] M5 (s24_7 x0 x1 (IntKind.wrap .i64 (x2+1)) x3 x4 x5 x6))):=fun J=>by kernel_rfl
 exact(h jn).trans (by
  simp only[jn_eq,h5]
  rfl)
theorem i24_j6_eq (m:Nat) (M5:Nat) (rec5:List Dt→Int→Int→List Dt→Dt→Dt→List Dt→Option (List Dt)) (h5:∀(x0:List Dt) (x1 x2:Int) (x3:List Dt) (x4 x5:Dt) (x6:List Dt),l24 jn m w24_0 [] M5 (s24_7 x0 x1 x2 x3 x4 x5 x6)=rec5 x0 x1 x2 x3 x4 x5 x6) (x0:List Dt) (x1 x2:Int) (x3:List Dt) (x4 x5:Dt) (x6:List Dt):e24 jn m w24_2 [M5] (s24_7 x0 x1 x2 x3 x4 x5 x6)=i24_j6 m (i24 m) rec5 x0 x1 x2 x3 x4 x5 x6:=by
 have h:∀J,e24 J m w24_2 [M5] (s24_7 x0 x1 x2 x3 x4 x5 x6)=
   ((idx x0 x2).bind fun v10=>
  ((schema_field m x5 (Dt.toStr v10)).bind fun r11=>
  ((i17 m (Bool.not r11.2) 6 [(Dt.str (Dt.toStr v10))] x3 x6).bind fun r12=>
  (J 0 15 0 (s24_7 x0 x1 x2 r12.2 x4 x5 r12.1) (e24 J m w24_1 [M5] (s24_7 x0 x1 x2 r12.2 x4 x5 r12.1)))))):=fun J=>by kernel_rfl
 exact(h jn).trans (by
   simp only[jn_eq,i24_j7_eq m M5 rec5 h5]
   rfl)
theorem i24_j12_eq (m:Nat) (M10:Nat) (rec10:List Dt→Int→Int→List Dt→Dt→Dt→List Dt→Option (List Dt)) (h10:∀(x0:List Dt) (x1 x2:Int) (x3:List Dt) (x4 x5:Dt) (x6:List Dt),l24 jn m w24_3 [] M10 (s24_12 x0 x1 x2 x3 x4 x5 x6)=rec10 x0 x1 x2 x3 x4 x5 x6) (x0:List Dt) (x1 x2:Int) (x3:List Dt) (x4 x5:Dt) (x6:List Dt):e24 jn m w24_4 [M10] (s24_12 x0 x1 x2 x3 x4 x5 x6)=i24_j12 m (i24 m) rec10 x0 x1 x2 x3 x4 x5 x6:=by
 have h:∀J,e24 J m w24_4 [M10] (s24_12 x0 x1 x2 x3 x4 x5 x6)=
  (J 1 17 M10 (s24_12 x0 x1 (IntKind.wrap .i64 (x2+1)) x3 x4 x5 x6) (l24 J m w24_3 [] M10 (s24_12 x0 x1 (IntKind.wrap .i64 (x2+1)) x3 x4 x5 x6))):=fun J=>by kernel_rfl
 exact(h jn).trans (by
  simp only[jn_eq,h10]
  rfl)
theorem i24_j11_eq (m:Nat) (M10:Nat) (rec10:List Dt→Int→Int→List Dt→Dt→Dt→List Dt→Option (List Dt)) (h10:∀(x0:List Dt) (x1 x2:Int) (x3:List Dt) (x4 x5:Dt) (x6:List Dt),l24 jn m w24_3 [] M10 (s24_12 x0 x1 x2 x3 x4 x5 x6)=rec10 x0 x1 x2 x3 x4 x5 x6) (x0:List Dt) (x1 x2:Int) (x3:List Dt) (x4 x5:Dt) (x6:List Dt):e24 jn m w24_5 [M10] (s24_12 x0 x1 x2 x3 x4 x5 x6)=i24_j11 m (i24 m) rec10 x0 x1 x2 x3 x4 x5 x6:=by
 have h:∀J,e24 J m w24_5 [M10] (s24_12 x0 x1 x2 x3 x4 x5 x6)=
   ((idx x0 x2).bind fun v13=>
  (bif (Dt.B x4 10) then
  ((i21 m (Dt.L x4 9) v13).bind fun r14=>
  ((i17 m (Bool.not r14) 7 [(Dt.str (Dt.S v13 0))] x3 x6).bind fun r15=>
  (J 0 21 0 (s24_12 x0 x1 x2 r15.2 x4 x5 r15.1) (e24 J m w24_4 [M10] (s24_12 x0 x1 x2 r15.2 x4 x5 r15.1)))))
  else
  ((i17 m false 7 [(Dt.str (Dt.S v13 0))] x3 x6).bind fun r16=>
  (J 0 21 0 (s24_12 x0 x1 x2 r16.2 x4 x5 r16.1) (e24 J m w24_4 [M10] (s24_12 x0 x1 x2 r16.2 x4 x5 r16.1)))))):=fun J=>by kernel_rfl
 exact(h jn).trans (by
   simp only[jn_eq,i24_j12_eq m M10 rec10 h10]
   rfl)
theorem i24_j17_eq (m:Nat) (M15:Nat) (rec15:List Dt→Int→Int→List Dt→Dt→Dt→List Dt→Option (List Dt)) (h15:∀(x0:List Dt) (x1 x2:Int) (x3:List Dt) (x4 x5:Dt) (x6:List Dt),l24 jn m w24_6 [] M15 (s24_17 x0 x1 x2 x3 x4 x5 x6)=rec15 x0 x1 x2 x3 x4 x5 x6) (x0:List Dt) (x1 x2:Int) (x3:List Dt) (x4 x5:Dt) (x6:List Dt):e24 jn m w24_7 [M15] (s24_17 x0 x1 x2 x3 x4 x5 x6)=i24_j17 m (i24 m) rec15 x0 x1 x2 x3 x4 x5 x6:=by
 have h:∀J,e24 J m w24_7 [M15] (s24_17 x0 x1 x2 x3 x4 x5 x6)=
  (J 1 23 M15 (s24_17 x0 x1 (IntKind.wrap .i64 (x2+1)) x3 x4 x5 x6) (l24 J m w24_6 [] M15 (s24_17 x0 x1 (IntKind.wrap .i64 (x2+1)) x3 x4 x5 x6))):=fun J=>by kernel_rfl
 exact(h jn).trans (by
  simp only[jn_eq,h15]
  rfl)
theorem i24_j16_eq (m:Nat) (M15:Nat) (rec15:List Dt→Int→Int→List Dt→Dt→Dt→List Dt→Option (List Dt)) (h15:∀(x0:List Dt) (x1 x2:Int) (x3:List Dt) (x4 x5:Dt) (x6:List Dt),l24 jn m w24_6 [] M15 (s24_17 x0 x1 x2 x3 x4 x5 x6)=rec15 x0 x1 x2 x3 x4 x5 x6) (x0:List Dt) (x1 x2:Int) (x3:List Dt) (x4 x5:Dt) (x6:List Dt):e24 jn m w24_8 [M15] (s24_17 x0 x1 x2 x3 x4 x5 x6)=i24_j16 m (i24 m) rec15 x0 x1 x2 x3 x4 x5 x6:=by
 have h:∀J,e24 J m w24_8 [M15] (s24_17 x0 x1 x2 x3 x4 x5 x6)=
   ((idx x0 x2).bind fun v17=>
  ((schema_field m x5 (Dt.S v17 0)).bind fun r18=>
  (bif r18.2 then
  ((slices_Concat m [(Dt.lst x6),(Dt.lst [(Dt.str (Dt.S v17 0))])]).bind fun r19=>
  ((i24 m (Dt.fld v17 1) r18.1 r19 x3).bind fun r20=>
  (J 0 28 0 (s24_17 x0 x1 x2 r20 x4 x5 x6) (e24 J m w24_7 [M15] (s24_17 x0 x1 x2 r20 x4 x5 x6)))))
  else
  (J 0 28 0 (s24_17 x0 x1 x2 x3 x4 x5 x6) (e24 J m w24_7 [M15] (s24_17 x0 x1 x2 x3 x4 x5 x6)))))):=fun J=>by kernel_rfl
 exact(h jn).trans (by
   simp only[jn_eq,i24_j17_eq m M15 rec15 h15]
   rfl)
theorem i24_j26_eq (m:Nat) (M21:Nat) (rec21:List Dt→Int→Int→List Dt→Dt→List Dt→Option (List Dt)) (h21:∀(x0:List Dt) (x1 x2:Int) (x3:List Dt) (x4:Dt) (x5:List Dt),l24 jn m w24_9 [] M21 (s24_27 x0 x1 x2 x3 x4 x5)=rec21 x0 x1 x2 x3 x4 x5) (M24:Nat) (rec24:List Dt→Int→Int→List Dt→Int→Int→List Dt→Dt→List Dt→Dt→Option (List Dt)) (h24:∀(x0:List Dt) (x1 x2:Int) (x3:List Dt) (x4 x5:Int) (x6:List Dt) (x7:Dt) (x8:List Dt) (x9:Dt),l24 jn m w24_10 [M21] M24 (s24_26 x0 x1 x2 x3 x4 x5 x6 x7 x8 x9)=rec24 x0 x1 x2 x3 x4 x5 x6 x7 x8 x9) (x0:List Dt) (x1 x2:Int) (x3:List Dt) (x4 x5:Int) (x6:List Dt) (x7:Dt) (x8:List Dt) (x9:Dt):e24 jn m w24_11 [M21,M24] (s24_26 x0 x1 x2 x3 x4 x5 x6 x7 x8 x9)=i24_j26 m (i24 m) rec21 rec24 x0 x1 x2 x3 x4 x5 x6 x7 x8 x9:=by
 have h:∀J,e24 J m w24_11 [M21,M24] (s24_26 x0 x1 x2 x3 x4 x5 x6 x7 x8 x9)=
  (J 1 35 M24 (s24_26 x0 x1 x2 x3 x4 (IntKind.wrap .i64 (x5+1)) x6 x7 x8 x9) (l24 J m w24_10 [M21] M24 (s24_26 x0 x1 x2 x3 x4 (IntKind.wrap .i64 (x5+1)) x6 x7 x8 x9))):=fun J=>by kernel_rfl
 exact(h jn).trans (by
  simp only[jn_eq,h24]
  rfl)
theorem i24_j25_eq (m:Nat) (M21:Nat) (rec21:List Dt→Int→Int→List Dt→Dt→List Dt→Option (List Dt)) (h21:∀(x0:List Dt) (x1 x2:Int) (x3:List Dt) (x4:Dt) (x5:List Dt),l24 jn m w24_9 [] M21 (s24_27 x0 x1 x2 x3 x4 x5)=rec21 x0 x1 x2 x3 x4 x5) (M24:Nat) (rec24:List Dt→Int→Int→List Dt→Int→Int→List Dt→Dt→List Dt→Dt→Option (List Dt)) (h24:∀(x0:List Dt) (x1 x2:Int) (x3:List Dt) (x4 x5:Int) (x6:List Dt) (x7:Dt) (x8:List Dt) (x9:Dt),l24 jn m w24_10 [M21] M24 (s24_26 x0 x1 x2 x3 x4 x5 x6 x7 x8 x9)=rec24 x0 x1 x2 x3 x4 x5 x6 x7 x8 x9) (x0:List Dt) (x1 x2:Int) (x3:List Dt) (x4 x5:Int) (x6:List Dt) (x7:Dt) (x8:List Dt) (x9:Dt):e24 jn m w24_12 [M21,M24] (s24_26 x0 x1 x2 x3 x4 x5 x6 x7 x8 x9)=i24_j25 m (i24 m) rec21 rec24 x0 x1 x2 x3 x4 x5 x6 x7 x8 x9:=by
 have h:∀J,e24 J m w24_12 [M21,M24] (s24_26 x0 x1 x2 x3 x4 x5 x6 x7 x8 x9)=
   ((idx x3 x5).bind fun v24=>
  ((strconv_Itoa x5).bind fun r25=>
  ((slices_Concat m [(Dt.lst x8),(Dt.lst [(Dt.str r25)])]).bind fun r26=>
  ((i24 m x9 v24 r26 x6).bind fun r27=>
  (J 0 38 0 (s24_26 x0 x1 x2 x3 x4 x5 r27 x7 x8 x9) (e24 J m w24_11 [M21,M24] (s24_26 x0 x1 x2 x3 x4 x5 r27 x7 x8 x9))))))):=fun J=>by kernel_rfl
 exact(h jn).trans (by
   simp only[jn_eq,i24_j26_eq m M21 rec21 h21 M24 rec24 h24]
   rfl)
theorem i24_j27_eq (m:Nat) (M21:Nat) (rec21:List Dt→Int→Int→List Dt→Dt→List Dt→Option (List Dt)) (h21:∀(x0:List Dt) (x1 x2:Int) (x3:List Dt) (x4:Dt) (x5:List Dt),l24 jn m w24_9 [] M21 (s24_27 x0 x1 x2 x3 x4 x5)=rec21 x0 x1 x2 x3 x4 x5) (x0:List Dt) (x1 x2:Int) (x3:List Dt) (x4:Dt) (x5:List Dt):e24 jn m w24_13 [M21] (s24_27 x0 x1 x2 x3 x4 x5)=i24_j27 m (i24 m) rec21 x0 x1 x2 x3 x4 x5:=by
 have h:∀J,e24 J m w24_13 [M21] (s24_27 x0 x1 x2 x3 x4 x5)=
  (J 1 32 M21 (s24_27 x0 x1 (IntKind.wrap .i64 (x2+1)) x3 x4 x5) (l24 J m w24_9 [] M21 (s24_27 x0 x1 (IntKind.wrap .i64 (x2+1)) x3 x4 x5))):=fun J=>by kernel_rfl
 exact(h jn).trans (by
  simp only[jn_eq,h21]
  rfl)
theorem i24_l24_eq (m:Nat) (M21:Nat) (rec21:List Dt→Int→Int→List Dt→Dt→List Dt→Option (List Dt)) (h21:∀(x0:List Dt) (x1 x2:Int) (x3:List Dt) (x4:Dt) (x5:List Dt),l24 jn m w24_9 [] M21 (s24_27 x0 x1 x2 x3 x4 x5)=rec21 x0 x1 x2 x3 x4 x5):∀(M24:Nat) (x0:List Dt) (x1 x2:Int) (x3:List Dt) (x4 x5:Int) (x6:List Dt) (x7:Dt) (x8:List Dt) (x9:Dt),l24 jn m w24_10 [M21] M24 (s24_26 x0 x1 x2 x3 x4 x5 x6 x7 x8 x9)=i24_l24 m (i24 m) rec21 M24 x0 x1 x2 x3 x4 x5 x6 x7 x8 x9
 |0,_,_,_,_,_,_,_,_,_,_=>rfl
 | M24+1,x0,x1,x2,x3,x4,x5,x6,x7,x8,x9=>by
   have h:∀J,l24 J m w24_10 [M21] (M24+1) (s24_26 x0 x1 x2 x3 x4 x5 x6 x7 x8 x9)=
   (bif (decide (x5<x4)) then
  (J 0 36 0 (s24_26 x0 x1 x2 x3 x4 x5 x6 x7 x8 x9) (e24 J m w24_12 [M21,M24] (s24_26 x0 x1 x2 x3 x4 x5 x6 x7 x8 x9)))
   else
  (J 0 39 0 (s24_27 x0 x1 x2 x6 x7 x8) (e24 J m w24_13 [M21] (s24_27 x0 x1 x2 x6 x7 x8)))):=fun J=>by kernel_rfl
   refine(h jn).trans ?_
   simp only[jn_eq,i24_j25_eq m M21 rec21 h21 M24 (i24_l24 m (i24 m) rec21 M24) (fun x0 x1 x2 x3 x4 x5 x6 x7 x8 x9=>i24_l24_eq m M21 rec21 h21 M24 x0 x1 x2 x3 x4 x5 x6 x7 x8 x9),i24_j27_eq m M21 rec21 h21]
   rfl
theorem i24_j23_eq (m:Nat) (M21:Nat) (rec21:List Dt→Int→Int→List Dt→Dt→List Dt→Option (List Dt)) (h21:∀(x0:List Dt) (x1 x2:Int) (x3:List Dt) (x4:Dt) (x5:List Dt),l24 jn m w24_9 [] M21 (s24_27 x0 x1 x2 x3 x4 x5)=rec21 x0 x1 x2 x3 x4 x5) (x0:List Dt) (x1 x2:Int) (x3:List Dt) (x4 x5:Int) (x6:List Dt) (x7:Dt) (x8:List Dt) (x9:Dt):e24 jn m w24_14 [M21] (s24_26 x0 x1 x2 x3 x4 x5 x6 x7 x8 x9)=i24_j23 m (i24 m) rec21 x0 x1 x2 x3 x4 x5 x6 x7 x8 x9:=by
 have h:∀J,e24 J m w24_14 [M21] (s24_26 x0 x1 x2 x3 x4 x5 x6 x7 x8 x9)=
  (J 1 35 (Nat.succ m) (s24_26 x0 x1 x2 x3 x4 x5 x6 x7 x8 x9) (l24 J m w24_10 [M21] (Nat.succ m) (s24_26 x0 x1 x2 x3 x4 x5 x6 x7 x8 x9))):=fun J=>by kernel_rfl
 exact(h jn).trans (by
  simp only[jn_eq,i24_l24_eq m M21 rec21 h21]
  rfl)
theorem i24_j22_eq (m:Nat) (M21:Nat) (rec21:List Dt→Int→Int→List Dt→Dt→List Dt→Option (List Dt)) (h21:∀(x0:List Dt) (x1 x2:Int) (x3:List Dt) (x4:Dt) (x5:List Dt),l24 jn m w24_9 [] M21 (s24_27 x0 x1 x2 x3 x4 x5)=rec21 x0 x1 x2 x3 x4 x5) (x0:List Dt) (x1 x2:Int) (x3:List Dt) (x4:Dt) (x5:List Dt):e24 jn m w24_15 [M21] (s24_27 x0 x1 x2 x3 x4 x5)=i24_j22 m (i24 m) rec21 x0 x1 x2 x3 x4 x5:=by
 have h:∀J,e24 J m w24_15 [M21] (s24_27 x0 x1 x2 x3 x4 x5)=
   ((idx x0 x2).bind fun v23=>
  (J 0 35 0 (s24_26 x0 x1 x2 (Dt.L x4 3) (List.length (Dt.L x4 3):Int) 0 x3 x4 x5 v23) (e24 J m w24_14 [M21] (s24_26 x0 x1 x2 (Dt.L x4 3) (List.length (Dt.L x4 3):Int) 0 x3 x4 x5 v23)))):=fun J=>by kernel_rfl
 exact(h jn).trans (by
   simp only[jn_eq,i24_j23_eq m M21 rec21 h21]
   rfl)
theorem i24_j28_eq (m:Nat) (x0:List Dt):e24 jn m w24_16 [] (s24_28 x0)=i24_j28 m (i24 m) x0:=by
 have h:∀J,e24 J m w24_16 [] (s24_28 x0)=
  some x0:=fun J=>by kernel_rfl
 exact(h jn).trans (rfl)
theorem i24_l21_eq (m:Nat):∀(M21:Nat) (x0:List Dt) (x1 x2:Int) (x3:List Dt) (x4:Dt) (x5:List Dt),l24 jn m w24_9 [] M21 (s24_27 x0 x1 x2 x3 x4 x5)=i24_l21 m (i24 m) M21 x0 x1 x2 x3 x4 x5
 |0,_,_,_,_,_,_=>rfl
 | M21+1,x0,x1,x2,x3,x4,x5=>by
   have h:∀J,l24 J m w24_9 [] (M21+1) (s24_27 x0 x1 x2 x3 x4 x5)=
   (bif (decide (x2<x1)) then
  (J 0 33 0 (s24_27 x0 x1 x2 x3 x4 x5) (e24 J m w24_15 [M21] (s24_27 x0 x1 x2 x3 x4 x5)))
   else
  (J 0 40 0 (s24_28 x3) (e24 J m w24_16 [] (s24_28 x3)))):=fun J=>by kernel_rfl
   refine(h jn).trans ?_
   simp only[jn_eq,i24_j22_eq m M21 (i24_l21 m (i24 m) M21) (fun x0 x1 x2 x3 x4 x5=>i24_l21_eq m M21 x0 x1 x2 x3 x4 x5),i24_j28_eq m]
   rfl
theorem i24_j20_eq (m:Nat) (x0:List Dt) (x1 x2:Int) (x3:List Dt) (x4:Dt) (x5:List Dt):e24 jn m w24_17 [] (s24_27 x0 x1 x2 x3 x4 x5)=i24_j20 m (i24 m) x0 x1 x2 x3 x4 x5:=by
 have h:∀J,e24 J m w24_17 [] (s24_27 x0 x1 x2 x3 x4 x5)=
  (J 1 32 (Nat.succ m) (s24_27 x0 x1 x2 x3 x4 x5) (l24 J m w24_9 [] (Nat.succ m) (s24_27 x0 x1 x2 x3 x4 x5))):=fun J=>by kernel_rfl
 exact(h jn).trans (by
  simp only[jn_eq,i24_l21_eq m]
  rfl)
theorem i24_j19_eq (m:Nat) (x0:List Dt) (x1 x2:Dt) (x3:List Dt):e24 jn m w24_18 [] (s24_19 x0 x1 x2 x3)=i24_j19 m (i24 m) x0 x1 x2 x3:=by
 have h:∀J,e24 J m w24_18 [] (s24_19 x0 x1 x2 x3)=
  (J 0 32 0 (s24_27 (Dt.L x1 11) (List.length (Dt.L x1 11):Int) 0 x0 x2 x3) (e24 J m w24_17 [] (s24_27 (Dt.L x1 11) (List.length (Dt.L x1 11):Int) 0 x0 x2 x3))):=fun J=>by kernel_rfl
 exact(h jn).trans (by
  simp only[jn_eq,i24_j20_eq m]
  rfl)
theorem i24_j18_eq (m:Nat) (x0:List Dt) (x1 x2:Dt) (x3:List Dt):e24 jn m w24_19 [] (s24_18 x0 x1 x2 x3)=i24_j18 m (i24 m) x0 x1 x2 x3:=by
 have h:∀J,e24 J m w24_19 [] (s24_18 x0 x1 x2 x3)=
   (bif ((Dt.I x2 0)==6) then
  (bif (Dt.B x1 12) then
  ((schema_repeats m (Dt.L x2 3)).bind fun r21=>
  ((i17 m r21 8 [] x0 x3).bind fun r22=>
  (J 0 31 0 (s24_19 r22.2 x1 x2 r22.1) (e24 J m w24_18 [] (s24_19 r22.2 x1 x2 r22.1)))))
  else
  ((i17 m false 8 [] x0 x3).bind fun r28=>
  (J 0 31 0 (s24_19 r28.2 x1 x2 r28.1) (e24 J m w24_18 [] (s24_19 r28.2 x1 x2 r28.1)))))
   else
  (J 0 40 0 (s24_28 x0) (e24 J m w24_16 [] (s24_28 x0)))):=fun J=>by kernel_rfl
 exact(h jn).trans (by
   simp only[jn_eq,i24_j19_eq m,i24_j28_eq m]
   rfl)
theorem i24_l15_eq (m:Nat):∀(M15:Nat) (x0:List Dt) (x1 x2:Int) (x3:List Dt) (x4 x5:Dt) (x6:List Dt),l24 jn m w24_6 [] M15 (s24_17 x0 x1 x2 x3 x4 x5 x6)=i24_l15 m (i24 m) M15 x0 x1 x2 x3 x4 x5 x6
 |0,_,_,_,_,_,_,_=>rfl
 | M15+1,x0,x1,x2,x3,x4,x5,x6=>by
   have h:∀J,l24 J m w24_6 [] (M15+1) (s24_17 x0 x1 x2 x3 x4 x5 x6)=
   (bif (decide (x2<x1)) then
  (J 0 24 0 (s24_17 x0 x1 x2 x3 x4 x5 x6) (e24 J m w24_8 [M15] (s24_17 x0 x1 x2 x3 x4 x5 x6)))
   else
  (J 0 29 0 (s24_18 x3 x4 x5 x6) (e24 J m w24_19 [] (s24_18 x3 x4 x5 x6)))):=fun J=>by kernel_rfl
   refine(h jn).trans ?_
   simp only[jn_eq,i24_j16_eq m M15 (i24_l15 m (i24 m) M15) (fun x0 x1 x2 x3 x4 x5 x6=>i24_l15_eq m M15 x0 x1 x2 x3 x4 x5 x6),i24_j18_eq m]
   rfl
theorem i24_j14_eq (m:Nat) (x0:List Dt) (x1 x2:Int) (x3:List Dt) (x4 x5:Dt) (x6:List Dt):e24 jn m w24_20 [] (s24_17 x0 x1 x2 x3 x4 x5 x6)=i24_j14 m (i24 m) x0 x1 x2 x3 x4 x5 x6:=by
 have h:∀J,e24 J m w24_20 [] (s24_17 x0 x1 x2 x3 x4 x5 x6)=
  (J 1 23 (Nat.succ m) (s24_17 x0 x1 x2 x3 x4 x5 x6) (l24 J m w24_6 [] (Nat.succ m) (s24_17 x0 x1 x2 x3 x4 x5 x6))):=fun J=>by kernel_rfl
 exact(h jn).trans (by
  simp only[jn_eq,i24_l15_eq m]
  rfl)
theorem i24_j13_eq (m:Nat) (x0:List Dt) (x1 x2:Dt) (x3:List Dt):e24 jn m w24_21 [] (s24_18 x0 x1 x2 x3)=i24_j13 m (i24 m) x0 x1 x2 x3:=by
 have h:∀J,e24 J m w24_21 [] (s24_18 x0 x1 x2 x3)=
  (J 0 23 0 (s24_17 (Dt.L x1 9) (List.length (Dt.L x1 9):Int) 0 x0 x1 x2 x3) (e24 J m w24_20 [] (s24_17 (Dt.L x1 9) (List.length (Dt.L x1 9):Int) 0 x0 x1 x2 x3))):=fun J=>by kernel_rfl
 exact(h jn).trans (by
  simp only[jn_eq,i24_j14_eq m]
  rfl)
theorem i24_l10_eq (m:Nat):∀(M10:Nat) (x0:List Dt) (x1 x2:Int) (x3:List Dt) (x4 x5:Dt) (x6:List Dt),l24 jn m w24_3 [] M10 (s24_12 x0 x1 x2 x3 x4 x5 x6)=i24_l10 m (i24 m) M10 x0 x1 x2 x3 x4 x5 x6
 |0,_,_,_,_,_,_,_=>rfl
 | M10+1,x0,x1,x2,x3,x4,x5,x6=>by
   have h:∀J,l24 J m w24_3 [] (M10+1) (s24_12 x0 x1 x2 x3 x4 x5 x6)=
   (bif (decide (x2<x1)) then
  (J 0 18 0 (s24_12 x0 x1 x2 x3 x4 x5 x6) (e24 J m w24_5 [M10] (s24_12 x0 x1 x2 x3 x4 x5 x6)))
   else
  (J 0 22 0 (s24_18 x3 x4 x5 x6) (e24 J m w24_21 [] (s24_18 x3 x4 x5 x6)))):=fun J=>by kernel_rfl
   refine(h jn).trans ?_
   simp only[jn_eq,i24_j11_eq m M10 (i24_l10 m (i24 m) M10) (fun x0 x1 x2 x3 x4 x5 x6=>i24_l10_eq m M10 x0 x1 x2 x3 x4 x5 x6),i24_j13_eq m]
   rfl
theorem i24_j9_eq (m:Nat) (x0:List Dt) (x1 x2:Int) (x3:List Dt) (x4 x5:Dt) (x6:List Dt):e24 jn m w24_22 [] (s24_12 x0 x1 x2 x3 x4 x5 x6)=i24_j9 m (i24 m) x0 x1 x2 x3 x4 x5 x6:=by
 have h:∀J,e24 J m w24_22 [] (s24_12 x0 x1 x2 x3 x4 x5 x6)=
  (J 1 17 (Nat.succ m) (s24_12 x0 x1 x2 x3 x4 x5 x6) (l24 J m w24_3 [] (Nat.succ m) (s24_12 x0 x1 x2 x3 x4 x5 x6))):=fun J=>by kernel_rfl
 exact(h jn).trans (by
  simp only[jn_eq,i24_l10_eq m]
  rfl)
theorem i24_j8_eq (m:Nat) (x0:List Dt) (x1 x2:Dt) (x3:List Dt):e24 jn m w24_23 [] (s24_18 x0 x1 x2 x3)=i24_j8 m (i24 m) x0 x1 x2 x3:=by
 have h:∀J,e24 J m w24_23 [] (s24_18 x0 x1 x2 x3)=
  (J 0 17 0 (s24_12 (Dt.L x2 4) (List.length (Dt.L x2 4):Int) 0 x0 x1 x2 x3) (e24 J m w24_22 [] (s24_12 (Dt.L x2 4) (List.length (Dt.L x2 4):Int) 0 x0 x1 x2 x3))):=fun J=>by kernel_rfl
 exact(h jn).trans (by
  simp only[jn_eq,i24_j9_eq m]
  rfl)
theorem i24_l5_eq (m:Nat):∀(M5:Nat) (x0:List Dt) (x1 x2:Int) (x3:List Dt) (x4 x5:Dt) (x6:List Dt),l24 jn m w24_0 [] M5 (s24_7 x0 x1 x2 x3 x4 x5 x6)=i24_l5 m (i24 m) M5 x0 x1 x2 x3 x4 x5 x6
 |0,_,_,_,_,_,_,_=>rfl
 | M5+1,x0,x1,x2,x3,x4,x5,x6=>by
   have h:∀J,l24 J m w24_0 [] (M5+1) (s24_7 x0 x1 x2 x3 x4 x5 x6)=
   (bif (decide (x2<x1)) then
  (J 0 12 0 (s24_7 x0 x1 x2 x3 x4 x5 x6) (e24 J m w24_2 [M5] (s24_7 x0 x1 x2 x3 x4 x5 x6)))
   else
  (J 0 16 0 (s24_18 x3 x4 x5 x6) (e24 J m w24_23 [] (s24_18 x3 x4 x5 x6)))):=fun J=>by kernel_rfl
   refine(h jn).trans ?_
   simp only[jn_eq,i24_j6_eq m M5 (i24_l5 m (i24 m) M5) (fun x0 x1 x2 x3 x4 x5 x6=>i24_l5_eq m M5 x0 x1 x2 x3 x4 x5 x6),i24_j8_eq m]
   rfl
theorem i24_j4_eq (m:Nat) (x0:List Dt) (x1 x2:Int) (x3:List Dt) (x4 x5:Dt) (x6:List Dt):e24 jn m w24_24 [] (s24_7 x0 x1 x2 x3 x4 x5 x6)=i24_j4 m (i24 m) x0 x1 x2 x3 x4 x5 x6:=by
 have h:∀J,e24 J m w24_24 [] (s24_7 x0 x1 x2 x3 x4 x5 x6)=
  (J 1 11 (Nat.succ m) (s24_7 x0 x1 x2 x3 x4 x5 x6) (l24 J m w24_0 [] (Nat.succ m) (s24_7 x0 x1 x2 x3 x4 x5 x6))):=fun J=>by kernel_rfl
 exact(h jn).trans (by
  simp only[jn_eq,i24_l5_eq m]
  rfl)
theorem i24_j3_eq (m:Nat) (x0:List Dt) (x1 x2:Dt) (x3:List Dt):e24 jn m w24_25 [] (s24_18 x0 x1 x2 x3)=i24_j3 m (i24 m) x0 x1 x2 x3:=by
 have h:∀J,e24 J m w24_25 [] (s24_18 x0 x1 x2 x3)=
   (bif ((Dt.I x2 0)==5) then
  (J 0 11 0 (s24_7 (Dt.L x1 8) (List.length (Dt.L x1 8):Int) 0 x0 x1 x2 x3) (e24 J m w24_24 [] (s24_7 (Dt.L x1 8) (List.length (Dt.L x1 8):Int) 0 x0 x1 x2 x3)))
   else
  (J 0 29 0 (s24_18 x0 x1 x2 x3) (e24 J m w24_19 [] (s24_18 x0 x1 x2 x3)))):=fun J=>by kernel_rfl
 exact(h jn).trans (by
   simp only[jn_eq,i24_j4_eq m,i24_j18_eq m]
   rfl)
theorem i24_j2_eq (m:Nat) (x0:List Dt) (x1 x2:Dt) (x3:List Dt):e24 jn m w24_26 [] (s24_18 x0 x1 x2 x3)=i24_j2 m (i24 m) x0 x1 x2 x3:=by
 have h:∀J,e24 J m w24_26 [] (s24_18 x0 x1 x2 x3)=
   ((schema_length m x2).bind fun r8=>
  (bif r8.2 then
  (bif (decide (r8.1<(Dt.I x1 6))) then
  ((i17 m true 5 [] x0 x3).bind fun r9=>
  (J 0 9 0 (s24_18 r9.2 x1 x2 r9.1) (e24 J m w24_25 [] (s24_18 r9.2 x1 x2 r9.1))))
  else
  (bif (decide (0≤(Dt.I x1 7))) then
  ((i17 m (decide ((Dt.I x1 7)<r8.1)) 5 [] x0 x3).bind fun r29=>
  (J 0 9 0 (s24_18 r29.2 x1 x2 r29.1) (e24 J m w24_25 [] (s24_18 r29.2 x1 x2 r29.1))))
  else
  ((i17 m false 5 [] x0 x3).bind fun r30=>
  (J 0 9 0 (s24_18 r30.2 x1 x2 r30.1) (e24 J m w24_25 [] (s24_18 r30.2 x1 x2 r30.1))))))
  else
  ((i17 m false 5 [] x0 x3).bind fun r31=>
  (J 0 9 0 (s24_18 r31.2 x1 x2 r31.1) (e24 J m w24_25 [] (s24_18 r31.2 x1 x2 r31.1)))))):=fun J=>by kernel_rfl
 exact(h jn).trans (by
   simp only[jn_eq,i24_j3_eq m]
   rfl)
theorem i24_j1_eq (m:Nat) (x0:List Dt) (x1 x2:Dt) (x3:List Dt):e24 jn m w24_27 [] (s24_18 x0 x1 x2 x3)=i24_j1 m (i24 m) x0 x1 x2 x3:=by
 have h:∀J,e24 J m w24_27 [] (s24_18 x0 x1 x2 x3)=
   (bif (Dt.B x1 3) then
  ((value_Compare m x2 (Dt.fld x1 4)).bind fun r6=>
  ((i17 m (decide (0<r6)) 4 [] x0 x3).bind fun r7=>
  (J 0 7 0 (s24_18 r7.2 x1 x2 r7.1) (e24 J m w24_26 [] (s24_18 r7.2 x1 x2 r7.1)))))
   else
  ((i17 m false 4 [] x0 x3).bind fun r32=>
  (J 0 7 0 (s24_18 r32.2 x1 x2 r32.1) (e24 J m w24_26 [] (s24_18 r32.2 x1 x2 r32.1))))):=fun J=>by kernel_rfl
 exact(h jn).trans (by
   simp only[jn_eq,i24_j2_eq m]
   rfl)
theorem i24_j0_eq (m:Nat) (x0:List Dt) (x1 x2:Dt) (x3:List Dt):e24 jn m w24_28 [] (s24_18 x0 x1 x2 x3)=i24_j0 m (i24 m) x0 x1 x2 x3:=by
 have h:∀J,e24 J m w24_28 [] (s24_18 x0 x1 x2 x3)=
   (bif (Dt.B x1 1) then
  ((value_Compare m x2 (Dt.fld x1 2)).bind fun r4=>
  ((i17 m (decide (r4<0)) 3 [] x0 x3).bind fun r5=>
  (J 0 6 0 (s24_18 r5.2 x1 x2 r5.1) (e24 J m w24_27 [] (s24_18 r5.2 x1 x2 r5.1)))))
   else
  ((i17 m false 3 [] x0 x3).bind fun r33=>
  (J 0 6 0 (s24_18 r33.2 x1 x2 r33.1) (e24 J m w24_27 [] (s24_18 r33.2 x1 x2 r33.1))))):=fun J=>by kernel_rfl
 exact(h jn).trans (by
   simp only[jn_eq,i24_j1_eq m]
   rfl)
theorem i24_eq (m:Nat) (a0 a1:Dt) (a2 a3:List Dt):e24 jn m [] [] ⟨[(.row 0),(.dat 30 a0),(.dat 25 a1),(.dat 26 (.lst a2))],[(.row 38 a3)],1⟩=i24 (m+1) a0 a1 a2 a3:=by
 have h:∀J,e24 J m [] [] ⟨[(.row 0),(.dat 30 a0),(.dat 25 a1),(.dat 26 (.lst a2))],[(.row 38 a3)],1⟩=
   ((schema_hasKind m (Dt.I a0 0) (Dt.I a1 0)).bind fun r0=>
  ((i17 m (Bool.not r0) 1 [] a3 a2).bind fun r1=>
  (bif (decide (0<(List.length (Dt.L a0 5):Int))) then
  ((i13 m (Dt.L a0 5) a1).bind fun r2=>
  ((i17 m (Bool.not r2) 2 [] r1.2 r1.1).bind fun r3=>
  (J 0 5 0 (s24_18 r3.2 a0 a1 r3.1) (e24 J m w24_28 [] (s24_18 r3.2 a0 a1 r3.1)))))
  else
  ((i17 m false 2 [] r1.2 r1.1).bind fun r34=>
  (J 0 5 0 (s24_18 r34.2 a0 a1 r34.1) (e24 J m w24_28 [] (s24_18 r34.2 a0 a1 r34.1))))))):=fun J=>by kernel_rfl
 refine(h jn).trans ?_
 simp only[jn_eq,i24_j0_eq m]
 rfl
end Go.Proofs.YtfneddmmeadacaaDoor
