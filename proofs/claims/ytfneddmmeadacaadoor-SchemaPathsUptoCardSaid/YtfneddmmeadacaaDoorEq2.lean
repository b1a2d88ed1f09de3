/- Generated: each function's run in the abstract machine is its shallow function. -/
import Derived.Test.YtfneddmmeadacaaDoorCt
import Derived.Test.YtfneddmmeadacaaDoorAmEnv
import Derived.KernelRfl
set_option linter.unusedVariables false
set_option linter.unusedSimpArgs false
namespace Go.Proofs.YtfneddmmeadacaaDoor
open Go.Am
set_option maxRecDepth 100000
noncomputable def d0 (q:Res):Option Bool:=match q with
 |(.dat T0 x0,[])=>bif Nat.beq T0 4 then some x0.toBool else none
 |_=>none
def w0_0:List Nat:=[1,1,1,0,1,0]
def w0_1:List Nat:=[1,1,1,0,1,0,0,1,1]
def w0_2:List Nat:=[1,1,1,0,1,0,0,1,0,0,1]
def w0_3:List Nat:=[1,1,1,0,1,0,0,1]
def w0_4:List Nat:=[1,1,1,0,1]
theorem d0_sim {b:Res} {r:Bool} (h:d0 b=some r):Sim Tryd.prog b ((.dat 4 (.bool r)),[]):=by
 unfold d0 at h
 split at h
 ·obtain⟨hc,h2⟩:=bif_some h
  cases h2
  have e0:=beq_eq hc
  subst e0
  exact Sim.of (.of (.dat (.bool Tryd.underlying4)) rfl rfl) .nil
 ·cases h
noncomputable def e0 (J:Nat→Nat→Nat→St→Option Bool→Option Bool) (m:Nat) (p ms:List Nat) (σ:St):=evAt Tryd.prog env (ct m) J (m+1) 4 67 Tryd.f4 d0 p ms σ
noncomputable def l0 (J:Nat→Nat→Nat→St→Option Bool→Option Bool) (m:Nat) (p ms:List Nat) (M:Nat) (σ:St):=loopAt Tryd.prog env (ct m) J (m+1) 4 67 Tryd.f4 d0 p ms M σ
noncomputable def s0_6 (x0:List Dt) (x1:Int) (x2 x3:Dt):St:=⟨tsOf [(2,(.ptr 0 [] 0)),(3,(.ptr 1 [] 0)),(5,(.dat 38 (.lst x0))),(6,(.dat 3 (.int x1)))],[(.box 30 (.dat 30 x2)),(.box 25 (.dat 25 x3))],0⟩
noncomputable def s0_5 (x0:List Dt) (x1:Int) (x2:Bool) (x3 x4:Dt):St:=⟨tsOf [(2,(.ptr 0 [] 0)),(3,(.ptr 1 [] 0)),(5,(.dat 38 (.lst x0))),(6,(.dat 3 (.int x1))),(55,(.dat 4 (.bool x2)))],[(.box 30 (.dat 30 x3)),(.box 25 (.dat 25 x4))],0⟩
noncomputable def s0_7 (x0:List Dt) (x1:Dt):St:=⟨tsOf [(2,(.ptr 0 [] 0)),(5,(.dat 38 (.lst x0)))],[(.box 30 (.dat 30 x1))],0⟩
noncomputable def s0_1 (x0 x1:Dt):St:=⟨tsOf [(2,(.ptr 0 [] 0)),(3,(.ptr 1 [] 0))],[(.box 30 (.dat 30 x0)),(.box 25 (.dat 25 x1))],0⟩
noncomputable def s0_0 (x0:Bool) (x1 x2:Dt):St:=⟨tsOf [(2,(.ptr 0 [] 0)),(3,(.ptr 1 [] 0)),(15,(.dat 4 (.bool x0)))],[(.box 30 (.dat 30 x1)),(.box 25 (.dat 25 x2))],0⟩
theorem law14_SchemaPaths_j6_eq (m:Nat) (M3:Nat) (rec3:List Dt→Int→Dt→Dt→Option Bool) (h3:∀(x0:List Dt) (x1:Int) (x2 x3:Dt),l0 jn m w0_0 [] M3 (s0_6 x0 x1 x2 x3)=rec3 x0 x1 x2 x3) (x0:List Dt) (x1:Int) (x2 x3:Dt):e0 jn m w0_1 [M3] (s0_6 x0 x1 x2 x3)=law14_SchemaPaths_j6 m rec3 x0 x1 x2 x3:=by
 have h:∀J,e0 J m w0_1 [M3] (s0_6 x0 x1 x2 x3)=
  (J 1 5 M3 (s0_6 x0 (IntKind.wrap .i64 (x1+1)) x2 x3) (l0 J m w0_0 [] M3 (s0_6 x0 (IntKind.wrap .i64 (x1+1)) x2 x3))):=fun J=>by kernel_rfl
 exact(h jn).trans (by
  simp only[jn_eq,h3]
  rfl)
theorem law14_SchemaPaths_j5_eq (m:Nat) (M3:Nat) (rec3:List Dt→Int→Dt→Dt→Option Bool) (h3:∀(x0:List Dt) (x1:Int) (x2 x3:Dt),l0 jn m w0_0 [] M3 (s0_6 x0 x1 x2 x3)=rec3 x0 x1 x2 x3) (x0:List Dt) (x1:Int) (x2:Bool) (x3 x4:Dt):e0 jn m w0_2 [M3] (s0_5 x0 x1 x2 x3 x4)=law14_SchemaPaths_j5 m rec3 x0 x1 x2 x3 x4:=by
 have h:∀J,e0 J m w0_2 [M3] (s0_5 x0 x1 x2 x3 x4)=
   (bif x2 then
  some false
   else
  (J 0 6 0 (s0_6 x0 x1 x3 x4) (e0 J m w0_1 [M3] (s0_6 x0 x1 x3 x4)))):=fun J=>by kernel_rfl
 exact(h jn).trans (by
   simp only[jn_eq,law14_SchemaPaths_j6_eq m M3 rec3 h3]
   rfl)
theorem law14_SchemaPaths_j4_eq (m:Nat) (M3:Nat) (rec3:List Dt→Int→Dt→Dt→Option Bool) (h3:∀(x0:List Dt) (x1:Int) (x2 x3:Dt),l0 jn m w0_0 [] M3 (s0_6 x0 x1 x2 x3)=rec3 x0 x1 x2 x3) (x0:List Dt) (x1:Int) (x2 x3:Dt):e0 jn m w0_3 [M3] (s0_6 x0 x1 x2 x3)=law14_SchemaPaths_j4 m rec3 x0 x1 x2 x3:=by
 have h:∀J,e0 J m w0_3 [M3] (s0_6 x0 x1 x2 x3)=
   ((idx x0 x1).bind fun v3=>
  (bif (decide ((Dt.I v3 1)<1)) then
  (J 0 8 0 (s0_5 x0 x1 true x2 x3) (e0 J m w0_2 [M3] (s0_5 x0 x1 true x2 x3)))
  else
  ((idx x0 x1).bind fun v4=>
  (bif (decide (8<(Dt.I v4 1))) then
  (J 0 8 0 (s0_5 x0 x1 true x2 x3) (e0 J m w0_2 [M3] (s0_5 x0 x1 true x2 x3)))
  else
  ((idx x0 x1).bind fun v5=>
  ((law14_walk m x3 (Dt.L v5 0)).bind fun r6=>
  ((idx x0 x1).bind fun v7=>
  (J 0 8 0 (s0_5 x0 x1 (r6==((Dt.I v7 1)==6)) x2 x3) (e0 J m w0_2 [M3] (s0_5 x0 x1 (r6==((Dt.I v7 1)==6)) x2 x3)))))))))):=fun J=>by kernel_rfl
 exact(h jn).trans (by
   simp only[jn_eq,law14_SchemaPaths_j5_eq m M3 rec3 h3]
   rfl)
theorem law14_SchemaPaths_j7_eq (m:Nat) (x0:List Dt) (x1:Dt):e0 jn m [1,1,1,1] [] (s0_7 x0 x1)=law14_SchemaPaths_j7 m x0 x1:=by
 have h:∀J,e0 J m [1,1,1,1] [] (s0_7 x0 x1)=
   (bif ((List.length x0:Int)==0) then
  ((awakeC).bind fun r8=>
  some r8)
   else
  ((schema_Valid m x1).bind fun r9=>
  (bif (r9==0) then
  ((awakeC).bind fun r10=>
  some r10)
  else
  some false))):=fun J=>by kernel_rfl
 exact(h jn).trans (rfl)
theorem law14_SchemaPaths_l3_eq (m:Nat):∀(M3:Nat) (x0:List Dt) (x1:Int) (x2 x3:Dt),l0 jn m w0_0 [] M3 (s0_6 x0 x1 x2 x3)=law14_SchemaPaths_l3 m M3 x0 x1 x2 x3
 |0,_,_,_,_=>rfl
 | M3+1,x0,x1,x2,x3=>by
   have h:∀J,l0 J m w0_0 [] (M3+1) (s0_6 x0 x1 x2 x3)=
   (bif (decide (x1<(List.length x0:Int))) then
  (J 0 7 0 (s0_6 x0 x1 x2 x3) (e0 J m w0_3 [M3] (s0_6 x0 x1 x2 x3)))
   else
  (J 0 9 0 (s0_7 x0 x2) (e0 J m [1,1,1,1] [] (s0_7 x0 x2)))):=fun J=>by kernel_rfl
   refine(h jn).trans ?_
   simp only[jn_eq,law14_SchemaPaths_j4_eq m M3 (law14_SchemaPaths_l3 m M3) (fun x0 x1 x2 x3=>law14_SchemaPaths_l3_eq m M3 x0 x1 x2 x3),law14_SchemaPaths_j7_eq m]
   rfl
theorem law14_SchemaPaths_j2_eq (m:Nat) (x0:List Dt) (x1:Int) (x2 x3:Dt):e0 jn m w0_4 [] (s0_6 x0 x1 x2 x3)=law14_SchemaPaths_j2 m x0 x1 x2 x3:=by
 have h:∀J,e0 J m w0_4 [] (s0_6 x0 x1 x2 x3)=
  (J 1 5 (Nat.succ m) (s0_6 x0 x1 x2 x3) (l0 J m w0_0 [] (Nat.succ m) (s0_6 x0 x1 x2 x3))):=fun J=>by kernel_rfl
 exact(h jn).trans (by
  simp only[jn_eq,law14_SchemaPaths_l3_eq m]
  rfl)
theorem law14_SchemaPaths_j1_eq (m:Nat) (x0 x1:Dt):e0 jn m [1,1] [] (s0_1 x0 x1)=law14_SchemaPaths_j1 m x0 x1:=by
 have h:∀J,e0 J m [1,1] [] (s0_1 x0 x1)=
   ((schema_Check m x0 x1).bind fun r2=>
  (J 0 5 0 (s0_6 r2 0 x0 x1) (e0 J m w0_4 [] (s0_6 r2 0 x0 x1)))):=fun J=>by kernel_rfl
 exact(h jn).trans (by
   simp only[jn_eq,law14_SchemaPaths_j2_eq m]
   rfl)
theorem law14_SchemaPaths_j0_eq (m:Nat) (x0:Bool) (x1 x2:Dt):e0 jn m [1,0,1] [] (s0_0 x0 x1 x2)=law14_SchemaPaths_j0 m x0 x1 x2:=by
 have h:∀J,e0 J m [1,0,1] [] (s0_0 x0 x1 x2)=
   (bif x0 then
  ((awakeC).bind fun r1=>
  some r1)
   else
  (J 0 3 0 (s0_1 x1 x2) (e0 J m [1,1] [] (s0_1 x1 x2)))):=fun J=>by kernel_rfl
 exact(h jn).trans (by
   simp only[jn_eq,law14_SchemaPaths_j1_eq m]
   rfl)
theorem law14_SchemaPaths_eq (m:Nat) (a0 a1:Dt):e0 jn m [] [] ⟨[(.dat 30 a0),(.dat 25 a1)],[],0⟩=law14_SchemaPaths (m+1) a0 a1:=by
 have h:∀J,e0 J m [] [] ⟨[(.dat 30 a0),(.dat 25 a1)],[],0⟩=
   ((law14_few m a0 a1).bind fun r0=>
  (bif (Bool.not r0) then
  (J 0 2 0 (s0_0 true a0 a1) (e0 J m [1,0,1] [] (s0_0 true a0 a1)))
  else
  ((ref01_Valid m a1).bind fun r11=>
  (J 0 2 0 (s0_0 (Bool.not r11) a0 a1) (e0 J m [1,0,1] [] (s0_0 (Bool.not r11) a0 a1)))))):=fun J=>by kernel_rfl
 refine(h jn).trans ?_
 simp only[jn_eq,law14_SchemaPaths_j0_eq m]
 rfl
end Go.Proofs.YtfneddmmeadacaaDoor
