/- Generated: each function's run in the abstract machine is its shallow function. -/
import Derived.Test.YtfneddmmeadacaaDoorCt
import Derived.Test.YtfneddmmeadacaaDoorAmEnv
import Derived.KernelRfl
set_option linter.unusedVariables false
set_option linter.unusedSimpArgs false
namespace Go.Proofs.YtfneddmmeadacaaDoor
open Go.Am
set_option maxRecDepth 100000
noncomputable def d9 (q:Res):Option (List Dt×List Dt):=match q with
 |(.row n0,[.gone,.frz T1 x1,.row T2 x2])=>bif (Nat.beq n0 2&&(Nat.beq T1 26&&Nat.beq T2 38)) then some (x1,x2) else none
 |_=>none
def w9_0:List Nat:=[1,1,1,1,1,1,1,1,1,0,1,0,0,1,0]
def w9_1:List Nat:=[1,1,1,1,1,1,1,1,1,0,1,0,0,1,0,0,1,1,1]
def w9_2:List Nat:=[1,1,1,1,1,1,1,1,1,0,1,0,0,1,0,0,1,1]
def w9_3:List Nat:=[1,1,1,1,1,1,1,1,1,0,1,0,1,0,1,0]
def w9_4:List Nat:=[1,1,1,1,1,1,1,1,1,0,1,0,1,0,1,0,0,1,1,1]
def w9_5:List Nat:=[1,1,1,1,1,1,1,1,1,0,1,0,1,0,1,0,0,1,1]
def w9_6:List Nat:=[1,1,1,1,1,1,1,1,1,0,1,0,1,1,1,0]
def w9_7:List Nat:=[1,1,1,1,1,1,1,1,1,0,1,0,1,1,1,0,0,1,1,1]
def w9_8:List Nat:=[1,1,1,1,1,1,1,1,1,0,1,0,1,1,1,0,0,1,1]
def w9_9:List Nat:=[1,1,1,1,1,1,1,1,1,1,0,1,0,1,1,0]
def w9_10:List Nat:=[1,1,1,1,1,1,1,1,1,1,0,1,0,1,1,0,0,1,1,0,0,1,1,0]
def w9_11:List Nat:=[1,1,1,1,1,1,1,1,1,1,0,1,0,1,1,0,0,1,1,0,0,1,1,0,0,1,1,1]
def w9_12:List Nat:=[1,1,1,1,1,1,1,1,1,1,0,1,0,1,1,0,0,1,1,0,0,1,1,0,0,1,1]
def w9_13:List Nat:=[1,1,1,1,1,1,1,1,1,1,0,1,0,1,1,0,0,1,1,1]
def w9_14:List Nat:=[1,1,1,1,1,1,1,1,1,1,0,1,0,1,1,0,0,1,1,0,0,1,1]
def w9_15:List Nat:=[1,1,1,1,1,1,1,1,1,1,0,1,0,1,1,0,0,1,1]
def w9_16:List Nat:=[1,1,1,1,1,1,1,1,1,1,1]
def w9_17:List Nat:=[1,1,1,1,1,1,1,1,1,1,0,1,0,1,1]
def w9_18:List Nat:=[1,1,1,1,1,1,1,1,1,1,0,1,0,1]
def w9_19:List Nat:=[1,1,1,1,1,1,1,1,1,1]
def w9_20:List Nat:=[1,1,1,1,1,1,1,1,1,0,1,0,1,1,1]
def w9_21:List Nat:=[1,1,1,1,1,1,1,1,1,0,1,0,1,1]
def w9_22:List Nat:=[1,1,1,1,1,1,1,1,1,0,1,0,1,0,1]
def w9_23:List Nat:=[1,1,1,1,1,1,1,1,1,0,1,0,1]
def w9_24:List Nat:=[1,1,1,1,1,1,1,1,1,0,1,0,0,1]
def w9_25:List Nat:=[1,1,1,1,1,1,1,1,1]
def w9_26:List Nat:=[1,1,1,1,1,1,1]
def w9_27:List Nat:=[1,1,1,1,1,1]
def w9_28:List Nat:=[1,1,1,1,1]
theorem d9_sim {b:Res} {r:List Dt×List Dt} (h:d9 b=some r):Sim Tryd.prog b ((.row 2),[.gone,(.frz 26 r.1),(.row 38 r.2)]):=by
 unfold d9 at h
 split at h
 ·obtain⟨hc,h2⟩:=bif_some h
  cases h2
  have e0:=beq_eq (and_l hc)
  have e1:=beq_eq (and_l (and_r hc))
  have e2:=beq_eq (and_r (and_r hc))
  subst e0 e1 e2
  exact Sim.of (.of .same rfl rfl) (.cons .same (.cons .same (.cons .same .nil)))
 ·cases h
noncomputable def e9 (J:Nat→Nat→Nat→St→Option (List Dt×List Dt)→Option (List Dt×List Dt)) (m:Nat) (p ms:List Nat) (σ:St):=evAt Tryd.prog env (ct m) J (m+1) 25 211 Tryd.f25 d9 p ms σ
noncomputable def l9 (J:Nat→Nat→Nat→St→Option (List Dt×List Dt)→Option (List Dt×List Dt)) (m:Nat) (p ms:List Nat) (M:Nat) (σ:St):=loopAt Tryd.prog env (ct m) J (m+1) 25 211 Tryd.f25 d9 p ms M σ
noncomputable def s9_7 (x0:List Dt) (x1 x2:Int) (x3 x4:List Dt) (x5 x6:Dt) (x7:List Dt):St:=⟨tsOf [(4,(.ptr 2 [] 0)),(5,(.ptr 4 [] 0)),(6,(.ptr 5 [] 0)),(7,(.ptr 6 [] 0)),(9,(.fn 37 [(.ptr 2 [] 0),(.ptr 6 [] 0)])),(102,(.dat 26 (.lst x0))),(103,(.dat 3 (.int x1))),(104,(.dat 3 (.int x2)))],[.gone,(.frz 26 x3),(.box 38 (.row 3)),(.row 38 x4),(.box 30 (.dat 30 x5)),(.box 25 (.dat 25 x6)),(.box 26 (.dat 26 (.lst x7)))],2⟩
noncomputable def s9_12 (x0:List Dt) (x1 x2:Int) (x3 x4:List Dt) (x5 x6:Dt) (x7:List Dt):St:=⟨tsOf [(4,(.ptr 2 [] 0)),(5,(.ptr 4 [] 0)),(6,(.ptr 5 [] 0)),(7,(.ptr 6 [] 0)),(9,(.fn 37 [(.ptr 2 [] 0),(.ptr 6 [] 0)])),(122,(.dat 23 (.lst x0))),(123,(.dat 3 (.int x1))),(124,(.dat 3 (.int x2)))],[.gone,(.frz 26 x3),(.box 38 (.row 3)),(.row 38 x4),(.box 30 (.dat 30 x5)),(.box 25 (.dat 25 x6)),(.box 26 (.dat 26 (.lst x7)))],2⟩
noncomputable def s9_17 (x0:List Dt) (x1 x2:Int) (x3 x4:List Dt) (x5 x6:Dt) (x7:List Dt):St:=⟨tsOf [(4,(.ptr 2 [] 0)),(5,(.ptr 4 [] 0)),(6,(.ptr 5 [] 0)),(7,(.ptr 6 [] 0)),(9,(.fn 37 [(.ptr 2 [] 0),(.ptr 6 [] 0)])),(145,(.dat 27 (.lst x0))),(146,(.dat 3 (.int x1))),(147,(.dat 3 (.int x2)))],[.gone,(.frz 26 x3),(.box 38 (.row 3)),(.row 38 x4),(.box 30 (.dat 30 x5)),(.box 25 (.dat 25 x6)),(.box 26 (.dat 26 (.lst x7)))],2⟩
noncomputable def s9_26 (x0:List Dt) (x1 x2:Int) (x3:List Dt) (x4 x5:Int) (x6 x7:List Dt) (x8:Dt) (x9:List Dt) (x10:Dt):St:=⟨tsOf [(4,(.ptr 2 [] 0)),(6,(.ptr 4 [] 0)),(7,(.ptr 5 [] 0)),(25,(.ptr 6 [] 0)),(184,(.dat 28 (.lst x0))),(185,(.dat 3 (.int x1))),(186,(.dat 3 (.int x2))),(191,(.dat 22 (.lst x3))),(192,(.dat 3 (.int x4))),(193,(.dat 3 (.int x5)))],[.gone,(.frz 26 x6),(.box 38 (.row 3)),(.row 38 x7),(.box 25 (.dat 25 x8)),(.box 26 (.dat 26 (.lst x9))),(.box 30 (.dat 30 x10))],2⟩
noncomputable def s9_27 (x0:List Dt) (x1 x2:Int) (x3 x4:List Dt) (x5:Dt) (x6:List Dt):St:=⟨tsOf [(4,(.ptr 2 [] 0)),(6,(.ptr 4 [] 0)),(7,(.ptr 5 [] 0)),(184,(.dat 28 (.lst x0))),(185,(.dat 3 (.int x1))),(186,(.dat 3 (.int x2)))],[.gone,(.frz 26 x3),(.box 38 (.row 3)),(.row 38 x4),(.box 25 (.dat 25 x5)),(.box 26 (.dat 26 (.lst x6)))],2⟩
noncomputable def s9_28 (x0 x1:List Dt):St:=⟨tsOf [(4,(.ptr 2 [] 0))],[.gone,(.frz 26 x0),(.box 38 (.row 3)),(.row 38 x1)],2⟩
noncomputable def s9_19 (x0 x1:List Dt) (x2 x3:Dt) (x4:List Dt):St:=⟨tsOf [(4,(.ptr 2 [] 0)),(5,(.ptr 4 [] 0)),(6,(.ptr 5 [] 0)),(7,(.ptr 6 [] 0))],[.gone,(.frz 26 x0),(.box 38 (.row 3)),(.row 38 x1),(.box 30 (.dat 30 x2)),(.box 25 (.dat 25 x3)),(.box 26 (.dat 26 (.lst x4)))],2⟩
noncomputable def s9_18 (x0 x1:List Dt) (x2 x3:Dt) (x4:List Dt):St:=⟨tsOf [(4,(.ptr 2 [] 0)),(5,(.ptr 4 [] 0)),(6,(.ptr 5 [] 0)),(7,(.ptr 6 [] 0)),(9,(.fn 37 [(.ptr 2 [] 0),(.ptr 6 [] 0)]))],[.gone,(.frz 26 x0),(.box 38 (.row 3)),(.row 38 x1),(.box 30 (.dat 30 x2)),(.box 25 (.dat 25 x3)),(.box 26 (.dat 26 (.lst x4)))],2⟩
theorem i9_j7_eq (m:Nat) (M5:Nat) (rec5:List Dt→Int→Int→List Dt→List Dt→Dt→Dt→List Dt→Option (List Dt×List Dt)) (h5:∀(x0:List Dt) (x1 x2:Int) (x3 x4:List Dt) (x5 x6:Dt) (x7:List Dt),l9 jn m w9_0 [] M5 (s9_7 x0 x1 x2 x3 x4 x5 x6 x7)=rec5 x0 x1 x2 x3 x4 x5 x6 x7) (x0:List Dt) (x1 x2:Int) (x3 x4:List Dt) (x5 x6:Dt) (x7:List Dt):e9 jn m w9_1 [M5] (s9_7 x0 x1 x2 x3 x4 x5 x6 x7)=i9_j7 m rec5 x0 x1 x2 x3 x4 x5 x6 x7:=by
 have h:∀J,e9 J m w9_1 [M5] (s9_7 x0 x1 x2 x3 x4 x5 x6 x7)=
  (J 1 11 M5 (s9_7 x0 x1 (IntKind.wrap .i64 (x2+1)) x3 x4 x5 x6 x7) (l9 J m w9_0 [] M5 (s9_7 x0 x1 (IntKind.wrap .i64 (x2+1)) x3 x4 x5 x6 x7))):=fun J=>by kernel_rfl
 exact(h jn).trans (by
  simp only[jn_eq,h5]
  rfl)
theorem i9_j6_eq (m:Nat) (M5:Nat) (rec5:List Dt→Int→Int→List Dt→List Dt→Dt→Dt→List Dt→Option (List Dt×List Dt)) (h5:∀(x0:List Dt) (x1 x2:Int) (x3 x4:List Dt) (x5 x6:Dt) (x7:List Dt),l9 jn m w9_0 [] M5 (s9_7 x0 x1 x2 x3 x4 x5 x6 x7)=rec5 x0 x1 x2 x3 x4 x5 x6 x7) (x0:List Dt) (x1 x2:Int) (x3 x4:List Dt) (x5 x6:Dt) (x7:List Dt):e9 jn m w9_2 [M5] (s9_7 x0 x1 x2 x3 x4 x5 x6 x7)=i9_j6 m rec5 x0 x1 x2 x3 x4 x5 x6 x7:=by
 have h:∀J,e9 J m w9_2 [M5] (s9_7 x0 x1 x2 x3 x4 x5 x6 x7)=
   ((idx x0 x2).bind fun v10=>
  ((schema_field m x6 (Dt.toStr v10)).bind fun r11=>
  ((i17 m (Bool.not r11.2) 6 [(Dt.str (Dt.toStr v10))] x4 x7).bind fun r12=>
  (J 0 15 0 (s9_7 x0 x1 x2 x3 r12.2 x5 x6 r12.1) (e9 J m w9_1 [M5] (s9_7 x0 x1 x2 x3 r12.2 x5 x6 r12.1)))))):=fun J=>by kernel_rfl
 exact(h jn).trans (by
   simp only[jn_eq,i9_j7_eq m M5 rec5 h5]
   rfl)
theorem i9_j12_eq (m:Nat) (M10:Nat) (rec10:List Dt→Int→Int→List Dt→List Dt→Dt→Dt→List Dt→Option (List Dt×List Dt)) (h10:∀(x0:List Dt) (x1 x2:Int) (x3 x4:List Dt) (x5 x6:Dt) (x7:List Dt),l9 jn m w9_3 [] M10 (s9_12 x0 x1 x2 x3 x4 x5 x6 x7)=rec10 x0 x1 x2 x3 x4 x5 x6 x7) (x0:List Dt) (x1 x2:Int) (x3 x4:List Dt) (x5 x6:Dt) (x7:List Dt):e9 jn m w9_4 [M10] (s9_12 x0 x1 x2 x3 x4 x5 x6 x7)=i9_j12 m rec10 x0 x1 x2 x3 x4 x5 x6 x7:=by
 have h:∀J,e9 J m w9_4 [M10] (s9_12 x0 x1 x2 x3 x4 x5 x6 x7)=
  (J 1 17 M10 (s9_12 x0 x1 (IntKind.wrap .i64 (x2+1)) x3 x4 x5 x6 x7) (l9 J m w9_3 [] M10 (s9_12 x0 x1 (IntKind.wrap .i64 (x2+1)) x3 x4 x5 x6 x7))):=fun J=>by kernel_rfl
 exact(h jn).trans (by
  simp only[jn_eq,h10]
  rfl)
theorem i9_j11_eq (m:Nat) (M10:Nat) (rec10:List Dt→Int→Int→List Dt→List Dt→Dt→Dt→List Dt→Option (List Dt×List Dt)) (h10:∀(x0:List Dt) (x1 x2:Int) (x3 x4:List Dt) (x5 x6:Dt) (x7:List Dt),l9 jn m w9_3 [] M10 (s9_12 x0 x1 x2 x3 x4 x5 x6 x7)=rec10 x0 x1 x2 x3 x4 x5 x6 x7) (x0:List Dt) (x1 x2:Int) (x3 x4:List Dt) (x5 x6:Dt) (x7:List Dt):e9 jn m w9_5 [M10] (s9_12 x0 x1 x2 x3 x4 x5 x6 x7)=i9_j11 m rec10 x0 x1 x2 x3 x4 x5 x6 x7:=by
 have h:∀J,e9 J m w9_5 [M10] (s9_12 x0 x1 x2 x3 x4 x5 x6 x7)=
   ((idx x0 x2).bind fun v13=>
  (bif (Dt.B x5 10) then
  ((i21 m (Dt.L x5 9) v13).bind fun r14=>
  ((i17 m (Bool.not r14) 7 [(Dt.str (Dt.S v13 0))] x4 x7).bind fun r15=>
  (J 0 21 0 (s9_12 x0 x1 x2 x3 r15.2 x5 x6 r15.1) (e9 J m w9_4 [M10] (s9_12 x0 x1 x2 x3 r15.2 x5 x6 r15.1)))))
  else
  ((i17 m false 7 [(Dt.str (Dt.S v13 0))] x4 x7).bind fun r16=>
  (J 0 21 0 (s9_12 x0 x1 x2 x3 r16.2 x5 x6 r16.1) (e9 J m w9_4 [M10] (s9_12 x0 x1 x2 x3 r16.2 x5 x6 r16.1)))))):=fun J=>by kernel_rfl
 exact(h jn).trans (by
   simp only[jn_eq,i9_j12_eq m M10 rec10 h10]
   rfl)
theorem i9_j17_eq (m:Nat) (M15:Nat) (rec15:List Dt→Int→Int→List Dt→List Dt→Dt→Dt→List Dt→Option (List Dt×List Dt)) (h15:∀(x0:List Dt) (x1 x2:Int) (x3 x4:List Dt) (x5 x6:Dt) (x7:List Dt),l9 jn m w9_6 [] M15 (s9_17 x0 x1 x2 x3 x4 x5 x6 x7)=rec15 x0 x1 x2 x3 x4 x5 x6 x7) (x0:List Dt) (x1 x2:Int) (x3 x4:List Dt) (x5 x6:Dt) (x7:List Dt):e9 jn m w9_7 [M15] (s9_17 x0 x1 x2 x3 x4 x5 x6 x7)=i9_j17 m rec15 x0 x1 x2 x3 x4 x5 x6 x7:=by
 have h:∀J,e9 J m w9_7 [M15] (s9_17 x0 x1 x2 x3 x4 x5 x6 x7)=
  (J 1 23 M15 (s9_17 x0 x1 (IntKind.wrap .i64 (x2+1)) x3 x4 x5 x6 x7) (l9 J m w9_6 [] M15 (s9_17 x0 x1 (IntKind.wrap .i64 (x2+1)) x3 x4 x5 x6 x7))):=fun J=>by kernel_rfl
 exact(h jn).trans (by
  simp only[jn_eq,h15]
  rfl)
theorem i9_j16_eq (m:Nat) (M15:Nat) (rec15:List Dt→Int→Int→List Dt→List Dt→Dt→Dt→List Dt→Option (List Dt×List Dt)) (h15:∀(x0:List Dt) (x1 x2:Int) (x3 x4:List Dt) (x5 x6:Dt) (x7:List Dt),l9 jn m w9_6 [] M15 (s9_17 x0 x1 x2 x3 x4 x5 x6 x7)=rec15 x0 x1 x2 x3 x4 x5 x6 x7) (x0:List Dt) (x1 x2:Int) (x3 x4:List Dt) (x5 x6:Dt) (x7:List Dt):e9 jn m w9_8 [M15] (s9_17 x0 x1 x2 x3 x4 x5 x6 x7)=i9_j16 m rec15 x0 x1 x2 x3 x4 x5 x6 x7:=by
 have h:∀J,e9 J m w9_8 [M15] (s9_17 x0 x1 x2 x3 x4 x5 x6 x7)=
   ((idx x0 x2).bind fun v17=>
  ((schema_field m x6 (Dt.S v17 0)).bind fun r18=>
  (bif r18.2 then
  ((slices_Concat m [(Dt.lst x7),(Dt.lst [(Dt.str (Dt.S v17 0))])]).bind fun r19=>
  ((i24 m (Dt.fld v17 1) r18.1 r19 x4).bind fun r20=>
  (J 0 28 0 (s9_17 x0 x1 x2 x3 r20 x5 x6 x7) (e9 J m w9_7 [M15] (s9_17 x0 x1 x2 x3 r20 x5 x6 x7)))))
  else
  (J 0 28 0 (s9_17 x0 x1 x2 x3 x4 x5 x6 x7) (e9 J m w9_7 [M15] (s9_17 x0 x1 x2 x3 x4 x5 x6 x7)))))):=fun J=>by kernel_rfl
 exact(h jn).trans (by
   simp only[jn_eq,i9_j17_eq m M15 rec15 h15]
   rfl)
theorem i9_j26_eq (m:Nat) (M21:Nat) (rec21:List Dt→Int→Int→List Dt→List Dt→Dt→List Dt→Option (List Dt×List Dt)) (h21:∀(x0:List Dt) (x1 x2:Int) (x3 x4:List Dt) (x5:Dt) (x6:List Dt),l9 jn m w9_9 [] M21 (s9_27 x0 x1 x2 x3 x4 x5 x6)=rec21 x0 x1 x2 x3 x4 x5 x6) (M24:Nat) (rec24:List Dt→Int→Int→List Dt→Int→Int→List Dt→List Dt→Dt→List Dt→Dt→Option (List Dt×List Dt)) (h24:∀(x0:List Dt) (x1 x2:Int) (x3:List Dt) (x4 x5:Int) (x6 x7:List Dt) (x8:Dt) (x9:List Dt) (x10:Dt),l9 jn m w9_10 [M21] M24 (s9_26 x0 x1 x2 x3 x4 x5 x6 x7 x8 x9 x10)=rec24 x0 x1 x2 x3 x4 x5 x6 x7 x8 x9 x10) (x0:List Dt) (x1 x2:Int) (x3:List Dt) (x4 x5:Int) (x6 x7:List Dt) (x8:Dt) (x9:List Dt) (x10:Dt):e9 jn m w9_11 [M21,M24] (s9_26 x0 x1 x2 x3 x4 x5 x6 x7 x8 x9 x10)=i9_j26 m rec21 rec24 x0 x1 x2 x3 x4 x5 x6 x7 x8 x9 x10:=by
 have h:∀J,e9 J m w9_11 [M21,M24] (s9_26 x0 x1 x2 x3 x4 x5 x6 x7 x8 x9 x10)=
  (J 1 35 M24 (s9_26 x0 x1 x2 x3 x4 (IntKind.wrap .i64 (x5+1)) x6 x7 x8 x9 x10) (l9 J m w9_10 [M21] M24 (s9_26 x0 x1 x2 x3 x4 (IntKind.wrap .i64 (x5+1)) x6 x7 x8 x9 x10))):=fun J=>by kernel_rfl
 exact(h jn).trans (by
  simp only[jn_eq,h24]
  rfl)
theorem i9_j25_eq (m:Nat) (M21:Nat) (rec21:List Dt→Int→Int→List Dt→List Dt→Dt→List Dt→Option (List Dt×List Dt)) (h21:∀(x0:List Dt) (x1 x2:Int) (x3 x4:List Dt) (x5:Dt) (x6:List Dt),l9 jn m w9_9 [] M21 (s9_27 x0 x1 x2 x3 x4 x5 x6)=rec21 x0 x1 x2 x3 x4 x5 x6) (M24:Nat) (rec24:List Dt→Int→Int→List Dt→Int→Int→List Dt→List Dt→Dt→List Dt→Dt→Option (List Dt×List Dt)) (h24:∀(x0:List Dt) (x1 x2:Int) (x3:List Dt) (x4 x5:Int) (x6 x7:List Dt) (x8:Dt) (x9:List Dt) (x10:Dt),l9 jn m w9_10 [M21] M24 (s9_26 x0 x1 x2 x3 x4 x5 x6 x7 x8 x9 x10)=rec24 x0 x1 x2 x3 x4 x5 x6 x7 x8 x9 x10) (x0:List Dt) (x1 x2:Int) (x3:List Dt) (x4 x5:Int) (x6 x7:List Dt) (x8:Dt) (x9:List Dt) (x10:Dt):e9 jn m w9_12 [M21,M24] (s9_26 x0 x1 x2 x3 x4 x5 x6 x7 x8 x9 x10)=i9_j25 m rec21 rec24 x0 x1 x2 x3 x4 x5 x6 x7 x8 x9 x10:=by
 have h:∀J,e9 J m w9_12 [M21,M24] (s9_26 x0 x1 x2 x3 x4 x5 x6 x7 x8 x9 x10)=
   ((idx x3 x5).bind fun v24=>
  ((strconv_Itoa x5).bind fun r25=>
  ((slices_Concat m [(Dt.lst x9),(Dt.lst [(Dt.str r25)])]).bind fun r26=>
  ((i24 m x10 v24 r26 x7).bind fun r27=>
  (J 0 38 0 (s9_26 x0 x1 x2 x3 x4 x5 x6 r27 x8 x9 x10) (e9 J m w9_11 [M21,M24] (s9_26 x0 x1 x2 x3 x4 x5 x6 r27 x8 x9 x10))))))):=fun J=>by kernel_rfl
 exact(h jn).trans (by
   simp only[jn_eq,i9_j26_eq m M21 rec21 h21 M24 rec24 h24]
   rfl)
theorem i9_j27_eq (m:Nat) (M21:Nat) (rec21:List Dt→Int→Int→List Dt→List Dt→Dt→List Dt→Option (List Dt×List Dt)) (h21:∀(x0:List Dt) (x1 x2:Int) (x3 x4:List Dt) (x5:Dt) (x6:List Dt),l9 jn m w9_9 [] M21 (s9_27 x0 x1 x2 x3 x4 x5 x6)=rec21 x0 x1 x2 x3 x4 x5 x6) (x0:List Dt) (x1 x2:Int) (x3 x4:List Dt) (x5:Dt) (x6:List Dt):e9 jn m w9_13 [M21] (s9_27 x0 x1 x2 x3 x4 x5 x6)=i9_j27 m rec21 x0 x1 x2 x3 x4 x5 x6:=by
 have h:∀J,e9 J m w9_13 [M21] (s9_27 x0 x1 x2 x3 x4 x5 x6)=
  (J 1 32 M21 (s9_27 x0 x1 (IntKind.wrap .i64 (x2+1)) x3 x4 x5 x6) (l9 J m w9_9 [] M21 (s9_27 x0 x1 (IntKind.wrap .i64 (x2+1)) x3 x4 x5 x6))):=fun J=>by kernel_rfl
 exact(h jn).trans (by
  simp only[jn_eq,h21]
  rfl)
theorem i9_l24_eq (m:Nat) (M21:Nat) (rec21:List Dt→Int→Int→List Dt→List Dt→Dt→List Dt→Option (List Dt×List Dt)) (h21:∀(x0:List Dt) (x1 x2:Int) (x3 x4:List Dt) (x5:Dt) (x6:List Dt),l9 jn m w9_9 [] M21 (s9_27 x0 x1 x2 x3 x4 x5 x6)=rec21 x0 x1 x2 x3 x4 x5 x6):∀(M24:Nat) (x0:List Dt) (x1 x2:Int) (x3:List Dt) (x4 x5:Int) (x6 x7:List Dt) (x8:Dt) (x9:List Dt) (x10:Dt),l9 jn m w9_10 [M21] M24 (s9_26 x0 x1 x2 x3 x4 x5 x6 x7 x8 x9 x10)=i9_l24 m rec21 M24 x0 x1 x2 x3 x4 x5 x6 x7 x8 x9 x10
 |0,_,_,_,_,_,_,_,_,_,_,_=>rfl
 | M24+1,x0,x1,x2,x3,x4,x5,x6,x7,x8,x9,x10=>by
   have h:∀J,l9 J m w9_10 [M21] (M24+1) (s9_26 x0 x1 x2 x3 x4 x5 x6 x7 x8 x9 x10)=
   (bif (decide (x5<x4)) then
  (J 0 36 0 (s9_26 x0 x1 x2 x3 x4 x5 x6 x7 x8 x9 x10) (e9 J m w9_12 [M21,M24] (s9_26 x0 x1 x2 x3 x4 x5 x6 x7 x8 x9 x10)))
   else
  (J 0 39 0 (s9_27 x0 x1 x2 x6 x7 x8 x9) (e9 J m w9_13 [M21] (s9_27 x0 x1 x2 x6 x7 x8 x9)))):=fun J=>by kernel_rfl
   refine(h jn).trans ?_
   simp only[jn_eq,i9_j25_eq m M21 rec21 h21 M24 (i9_l24 m rec21 M24) (fun x0 x1 x2 x3 x4 x5 x6 x7 x8 x9 x10=>i9_l24_eq m M21 rec21 h21 M24 x0 x1 x2 x3 x4 x5 x6 x7 x8 x9 x10),i9_j27_eq m M21 rec21 h21]
   rfl
theorem i9_j23_eq (m:Nat) (M21:Nat) (rec21:List Dt→Int→Int→List Dt→List Dt→Dt→List Dt→Option (List Dt×List Dt)) (h21:∀(x0:List Dt) (x1 x2:Int) (x3 x4:List Dt) (x5:Dt) (x6:List Dt),l9 jn m w9_9 [] M21 (s9_27 x0 x1 x2 x3 x4 x5 x6)=rec21 x0 x1 x2 x3 x4 x5 x6) (x0:List Dt) (x1 x2:Int) (x3:List Dt) (x4 x5:Int) (x6 x7:List Dt) (x8:Dt) (x9:List Dt) (x10:Dt):e9 jn m w9_14 [M21] (s9_26 x0 x1 x2 x3 x4 x5 x6 x7 x8 x9 x10)=i9_j23 m rec21 x0 x1 x2 x3 x4 x5 x6 x7 x8 x9 x10:=by
 have h:∀J,e9 J m w9_14 [M21] (s9_26 x0 x1 x2 x3 x4 x5 x6 x7 x8 x9 x10)=
  (J 1 35 (Nat.succ m) (s9_26 x0 x1 x2 x3 x4 x5 x6 x7 x8 x9 x10) (l9 J m w9_10 [M21] (Nat.succ m) (s9_26 x0 x1 x2 x3 x4 x5 x6 x7 x8 x9 x10))):=fun J=>by kernel_rfl
 exact(h jn).trans (by
  simp only[jn_eq,i9_l24_eq m M21 rec21 h21]
  rfl)
theorem i9_j22_eq (m:Nat) (M21:Nat) (rec21:List Dt→Int→Int→List Dt→List Dt→Dt→List Dt→Option (List Dt×List Dt)) (h21:∀(x0:List Dt) (x1 x2:Int) (x3 x4:List Dt) (x5:Dt) (x6:List Dt),l9 jn m w9_9 [] M21 (s9_27 x0 x1 x2 x3 x4 x5 x6)=rec21 x0 x1 x2 x3 x4 x5 x6) (x0:List Dt) (x1 x2:Int) (x3 x4:List Dt) (x5:Dt) (x6:List Dt):e9 jn m w9_15 [M21] (s9_27 x0 x1 x2 x3 x4 x5 x6)=i9_j22 m rec21 x0 x1 x2 x3 x4 x5 x6:=by
 have h:∀J,e9 J m w9_15 [M21] (s9_27 x0 x1 x2 x3 x4 x5 x6)=
   ((idx x0 x2).bind fun v23=>
  (J 0 35 0 (s9_26 x0 x1 x2 (Dt.L x5 3) (List.length (Dt.L x5 3):Int) 0 x3 x4 x5 x6 v23) (e9 J m w9_14 [M21] (s9_26 x0 x1 x2 (Dt.L x5 3) (List.length (Dt.L x5 3):Int) 0 x3 x4 x5 x6 v23)))):=fun J=>by kernel_rfl
 exact(h jn).trans (by
   simp only[jn_eq,i9_j23_eq m M21 rec21 h21]
   rfl)
theorem i9_j28_eq (m:Nat) (x0 x1:List Dt):e9 jn m w9_16 [] (s9_28 x0 x1)=i9_j28 m x0 x1:=by
 have h:∀J,e9 J m w9_16 [] (s9_28 x0 x1)=
  some (x0,x1):=fun J=>by kernel_rfl
 exact(h jn).trans (rfl)
theorem i9_l21_eq (m:Nat):∀(M21:Nat) (x0:List Dt) (x1 x2:Int) (x3 x4:List Dt) (x5:Dt) (x6:List Dt),l9 jn m w9_9 [] M21 (s9_27 x0 x1 x2 x3 x4 x5 x6)=i9_l21 m M21 x0 x1 x2 x3 x4 x5 x6
 |0,_,_,_,_,_,_,_=>rfl
 | M21+1,x0,x1,x2,x3,x4,x5,x6=>by
   have h:∀J,l9 J m w9_9 [] (M21+1) (s9_27 x0 x1 x2 x3 x4 x5 x6)=
   (bif (decide (x2<x1)) then
  (J 0 33 0 (s9_27 x0 x1 x2 x3 x4 x5 x6) (e9 J m w9_15 [M21] (s9_27 x0 x1 x2 x3 x4 x5 x6)))
   else
  (J 0 40 0 (s9_28 x3 x4) (e9 J m w9_16 [] (s9_28 x3 x4)))):=fun J=>by kernel_rfl
   refine(h jn).trans ?_
   simp only[jn_eq,i9_j22_eq m M21 (i9_l21 m M21) (fun x0 x1 x2 x3 x4 x5 x6=>i9_l21_eq m M21 x0 x1 x2 x3 x4 x5 x6),i9_j28_eq m]
   rfl
theorem i9_j20_eq (m:Nat) (x0:List Dt) (x1 x2:Int) (x3 x4:List Dt) (x5:Dt) (x6:List Dt):e9 jn m w9_17 [] (s9_27 x0 x1 x2 x3 x4 x5 x6)=i9_j20 m x0 x1 x2 x3 x4 x5 x6:=by
 have h:∀J,e9 J m w9_17 [] (s9_27 x0 x1 x2 x3 x4 x5 x6)=
  (J 1 32 (Nat.succ m) (s9_27 x0 x1 x2 x3 x4 x5 x6) (l9 J m w9_9 [] (Nat.succ m) (s9_27 x0 x1 x2 x3 x4 x5 x6))):=fun J=>by kernel_rfl
 exact(h jn).trans (by
  simp only[jn_eq,i9_l21_eq m]
  rfl)
theorem i9_j19_eq (m:Nat) (x0 x1:List Dt) (x2 x3:Dt) (x4:List Dt):e9 jn m w9_18 [] (s9_19 x0 x1 x2 x3 x4)=i9_j19 m x0 x1 x2 x3 x4:=by
 have h:∀J,e9 J m w9_18 [] (s9_19 x0 x1 x2 x3 x4)=
  (J 0 32 0 (s9_27 (Dt.L x2 11) (List.length (Dt.L x2 11):Int) 0 x0 x1 x3 x4) (e9 J m w9_17 [] (s9_27 (Dt.L x2 11) (List.length (Dt.L x2 11):Int) 0 x0 x1 x3 x4))):=fun J=>by kernel_rfl
 exact(h jn).trans (by
  simp only[jn_eq,i9_j20_eq m]
  rfl)
theorem i9_j18_eq (m:Nat) (x0 x1:List Dt) (x2 x3:Dt) (x4:List Dt):e9 jn m w9_19 [] (s9_18 x0 x1 x2 x3 x4)=i9_j18 m x0 x1 x2 x3 x4:=by
 have h:∀J,e9 J m w9_19 [] (s9_18 x0 x1 x2 x3 x4)=
   (bif ((Dt.I x3 0)==6) then
  (bif (Dt.B x2 12) then
  ((schema_repeats m (Dt.L x3 3)).bind fun r21=>
  ((i17 m r21 8 [] x1 x4).bind fun r22=>
  (J 0 31 0 (s9_19 x0 r22.2 x2 x3 r22.1) (e9 J m w9_18 [] (s9_19 x0 r22.2 x2 x3 r22.1)))))
  else
  ((i17 m false 8 [] x1 x4).bind fun r28=>
  (J 0 31 0 (s9_19 x0 r28.2 x2 x3 r28.1) (e9 J m w9_18 [] (s9_19 x0 r28.2 x2 x3 r28.1)))))
   else
  (J 0 40 0 (s9_28 x0 x1) (e9 J m w9_16 [] (s9_28 x0 x1)))):=fun J=>by kernel_rfl
 exact(h jn).trans (by
   simp only[jn_eq,i9_j19_eq m,i9_j28_eq m]
   rfl)
theorem i9_l15_eq (m:Nat):∀(M15:Nat) (x0:List Dt) (x1 x2:Int) (x3 x4:List Dt) (x5 x6:Dt) (x7:List Dt),l9 jn m w9_6 [] M15 (s9_17 x0 x1 x2 x3 x4 x5 x6 x7)=i9_l15 m M15 x0 x1 x2 x3 x4 x5 x6 x7
 |0,_,_,_,_,_,_,_,_=>rfl
 | M15+1,x0,x1,x2,x3,x4,x5,x6,x7=>by
   have h:∀J,l9 J m w9_6 [] (M15+1) (s9_17 x0 x1 x2 x3 x4 x5 x6 x7)=
   (bif (decide (x2<x1)) then
  (J 0 24 0 (s9_17 x0 x1 x2 x3 x4 x5 x6 x7) (e9 J m w9_8 [M15] (s9_17 x0 x1 x2 x3 x4 x5 x6 x7)))
   else
  (J 0 29 0 (s9_18 x3 x4 x5 x6 x7) (e9 J m w9_19 [] (s9_18 x3 x4 x5 x6 x7)))):=fun J=>by kernel_rfl
   refine(h jn).trans ?_
   simp only[jn_eq,i9_j16_eq m M15 (i9_l15 m M15) (fun x0 x1 x2 x3 x4 x5 x6 x7=>i9_l15_eq m M15 x0 x1 x2 x3 x4 x5 x6 x7),i9_j18_eq m]
   rfl
theorem i9_j14_eq (m:Nat) (x0:List Dt) (x1 x2:Int) (x3 x4:List Dt) (x5 x6:Dt) (x7:List Dt):e9 jn m w9_20 [] (s9_17 x0 x1 x2 x3 x4 x5 x6 x7)=i9_j14 m x0 x1 x2 x3 x4 x5 x6 x7:=by
 have h:∀J,e9 J m w9_20 [] (s9_17 x0 x1 x2 x3 x4 x5 x6 x7)=
  (J 1 23 (Nat.succ m) (s9_17 x0 x1 x2 x3 x4 x5 x6 x7) (l9 J m w9_6 [] (Nat.succ m) (s9_17 x0 x1 x2 x3 x4 x5 x6 x7))):=fun J=>by kernel_rfl
 exact(h jn).trans (by
  simp only[jn_eq,i9_l15_eq m]
  rfl)
theorem i9_j13_eq (m:Nat) (x0 x1:List Dt) (x2 x3:Dt) (x4:List Dt):e9 jn m w9_21 [] (s9_18 x0 x1 x2 x3 x4)=i9_j13 m x0 x1 x2 x3 x4:=by
 have h:∀J,e9 J m w9_21 [] (s9_18 x0 x1 x2 x3 x4)=
  (J 0 23 0 (s9_17 (Dt.L x2 9) (List.length (Dt.L x2 9):Int) 0 x0 x1 x2 x3 x4) (e9 J m w9_20 [] (s9_17 (Dt.L x2 9) (List.length (Dt.L x2 9):Int) 0 x0 x1 x2 x3 x4))):=fun J=>by kernel_rfl
 exact(h jn).trans (by
  simp only[jn_eq,i9_j14_eq m]
  rfl)
theorem i9_l10_eq (m:Nat):∀(M10:Nat) (x0:List Dt) (x1 x2:Int) (x3 x4:List Dt) (x5 x6:Dt) (x7:List Dt),l9 jn m w9_3 [] M10 (s9_12 x0 x1 x2 x3 x4 x5 x6 x7)=i9_l10 m M10 x0 x1 x2 x3 x4 x5 x6 x7
 |0,_,_,_,_,_,_,_,_=>rfl
 | M10+1,x0,x1,x2,x3,x4,x5,x6,x7=>by
   have h:∀J,l9 J m w9_3 [] (M10+1) (s9_12 x0 x1 x2 x3 x4 x5 x6 x7)=
   (bif (decide (x2<x1)) then
  (J 0 18 0 (s9_12 x0 x1 x2 x3 x4 x5 x6 x7) (e9 J m w9_5 [M10] (s9_12 x0 x1 x2 x3 x4 x5 x6 x7)))
   else
  (J 0 22 0 (s9_18 x3 x4 x5 x6 x7) (e9 J m w9_21 [] (s9_18 x3 x4 x5 x6 x7)))):=fun J=>by kernel_rfl
   refine(h jn).trans ?_
   simp only[jn_eq,i9_j11_eq m M10 (i9_l10 m M10) (fun x0 x1 x2 x3 x4 x5 x6 x7=>i9_l10_eq m M10 x0 x1 x2 x3 x4 x5 x6 x7),i9_j13_eq m]
   rfl
theorem i9_j9_eq (m:Nat) (x0:List Dt) (x1 x2:Int) (x3 x4:List Dt) (x5 x6:Dt) (x7:List Dt):e9 jn m w9_22 [] (s9_12 x0 x1 x2 x3 x4 x5 x6 x7)=i9_j9 m x0 x1 x2 x3 x4 x5 x6 x7:=by
 have h:∀J,e9 J m w9_22 [] (s9_12 x0 x1 x2 x3 x4 x5 x6 x7)=
  (J 1 17 (Nat.succ m) (s9_12 x0 x1 x2 x3 x4 x5 x6 x7) (l9 J m w9_3 [] (Nat.succ m) (s9_12 x0 x1 x2 x3 x4 x5 x6 x7))):=fun J=>by kernel_rfl
 exact(h jn).trans (by
  simp only[jn_eq,i9_l10_eq m]
  rfl)
theorem i9_j8_eq (m:Nat) (x0 x1:List Dt) (x2 x3:Dt) (x4:List Dt):e9 jn m w9_23 [] (s9_18 x0 x1 x2 x3 x4)=i9_j8 m x0 x1 x2 x3 x4:=by
 have h:∀J,e9 J m w9_23 [] (s9_18 x0 x1 x2 x3 x4)=
  (J 0 17 0 (s9_12 (Dt.L x3 4) (List.length (Dt.L x3 4):Int) 0 x0 x1 x2 x3 x4) (e9 J m w9_22 [] (s9_12 (Dt.L x3 4) (List.length (Dt.L x3 4):Int) 0 x0 x1 x2 x3 x4))):=fun J=>by kernel_rfl
 exact(h jn).trans (by
  simp only[jn_eq,i9_j9_eq m]
  rfl)
theorem i9_l5_eq (m:Nat):∀(M5:Nat) (x0:List Dt) (x1 x2:Int) (x3 x4:List Dt) (x5 x6:Dt) (x7:List Dt),l9 jn m w9_0 [] M5 (s9_7 x0 x1 x2 x3 x4 x5 x6 x7)=i9_l5 m M5 x0 x1 x2 x3 x4 x5 x6 x7
 |0,_,_,_,_,_,_,_,_=>rfl
 | M5+1,x0,x1,x2,x3,x4,x5,x6,x7=>by
   have h:∀J,l9 J m w9_0 [] (M5+1) (s9_7 x0 x1 x2 x3 x4 x5 x6 x7)=
   (bif (decide (x2<x1)) then
  (J 0 12 0 (s9_7 x0 x1 x2 x3 x4 x5 x6 x7) (e9 J m w9_2 [M5] (s9_7 x0 x1 x2 x3 x4 x5 x6 x7)))
   else
  (J 0 16 0 (s9_18 x3 x4 x5 x6 x7) (e9 J m w9_23 [] (s9_18 x3 x4 x5 x6 x7)))):=fun J=>by kernel_rfl
   refine(h jn).trans ?_
   simp only[jn_eq,i9_j6_eq m M5 (i9_l5 m M5) (fun x0 x1 x2 x3 x4 x5 x6 x7=>i9_l5_eq m M5 x0 x1 x2 x3 x4 x5 x6 x7),i9_j8_eq m]
   rfl
theorem i9_j4_eq (m:Nat) (x0:List Dt) (x1 x2:Int) (x3 x4:List Dt) (x5 x6:Dt) (x7:List Dt):e9 jn m w9_24 [] (s9_7 x0 x1 x2 x3 x4 x5 x6 x7)=i9_j4 m x0 x1 x2 x3 x4 x5 x6 x7:=by
 have h:∀J,e9 J m w9_24 [] (s9_7 x0 x1 x2 x3 x4 x5 x6 x7)=
  (J 1 11 (Nat.succ m) (s9_7 x0 x1 x2 x3 x4 x5 x6 x7) (l9 J m w9_0 [] (Nat.succ m) (s9_7 x0 x1 x2 x3 x4 x5 x6 x7))):=fun J=>by kernel_rfl
 exact(h jn).trans (by
  simp only[jn_eq,i9_l5_eq m]
  rfl)
theorem i9_j3_eq (m:Nat) (x0 x1:List Dt) (x2 x3:Dt) (x4:List Dt):e9 jn m w9_25 [] (s9_18 x0 x1 x2 x3 x4)=i9_j3 m x0 x1 x2 x3 x4:=by
 have h:∀J,e9 J m w9_25 [] (s9_18 x0 x1 x2 x3 x4)=
   (bif ((Dt.I x3 0)==5) then
  (J 0 11 0 (s9_7 (Dt.L x2 8) (List.length (Dt.L x2 8):Int) 0 x0 x1 x2 x3 x4) (e9 J m w9_24 [] (s9_7 (Dt.L x2 8) (List.length (Dt.L x2 8):Int) 0 x0 x1 x2 x3 x4)))
   else
  (J 0 29 0 (s9_18 x0 x1 x2 x3 x4) (e9 J m w9_19 [] (s9_18 x0 x1 x2 x3 x4)))):=fun J=>by kernel_rfl
 exact(h jn).trans (by
   simp only[jn_eq,i9_j4_eq m,i9_j18_eq m]
   rfl)
theorem i9_j2_eq (m:Nat) (x0 x1:List Dt) (x2 x3:Dt) (x4:List Dt):e9 jn m w9_26 [] (s9_18 x0 x1 x2 x3 x4)=i9_j2 m x0 x1 x2 x3 x4:=by
 have h:∀J,e9 J m w9_26 [] (s9_18 x0 x1 x2 x3 x4)=
   ((schema_length m x3).bind fun r8=>
  (bif r8.2 then
  (bif (decide (r8.1<(Dt.I x2 6))) then
  ((i17 m true 5 [] x1 x4).bind fun r9=>
  (J 0 9 0 (s9_18 x0 r9.2 x2 x3 r9.1) (e9 J m w9_25 [] (s9_18 x0 r9.2 x2 x3 r9.1))))
  else
  (bif (decide (0≤(Dt.I x2 7))) then
  ((i17 m (decide ((Dt.I x2 7)<r8.1)) 5 [] x1 x4).bind fun r29=>
  (J 0 9 0 (s9_18 x0 r29.2 x2 x3 r29.1) (e9 J m w9_25 [] (s9_18 x0 r29.2 x2 x3 r29.1))))
  else
  ((i17 m false 5 [] x1 x4).bind fun r30=>
  (J 0 9 0 (s9_18 x0 r30.2 x2 x3 r30.1) (e9 J m w9_25 [] (s9_18 x0 r30.2 x2 x3 r30.1))))))
  else
  ((i17 m false 5 [] x1 x4).bind fun r31=>
  (J 0 9 0 (s9_18 x0 r31.2 x2 x3 r31.1) (e9 J m w9_25 [] (s9_18 x0 r31.2 x2 x3 r31.1)))))):=fun J=>by kernel_rfl
 exact(h jn).trans (by
   simp only[jn_eq,i9_j3_eq m]
   rfl)
theorem i9_j1_eq (m:Nat) (x0 x1:List Dt) (x2 x3:Dt) (x4:List Dt):e9 jn m w9_27 [] (s9_18 x0 x1 x2 x3 x4)=i9_j1 m x0 x1 x2 x3 x4:=by
 have h:∀J,e9 J m w9_27 [] (s9_18 x0 x1 x2 x3 x4)=
   (bif (Dt.B x2 3) then
  ((value_Compare m x3 (Dt.fld x2 4)).bind fun r6=>
  ((i17 m (decide (0<r6)) 4 [] x1 x4).bind fun r7=>
  (J 0 7 0 (s9_18 x0 r7.2 x2 x3 r7.1) (e9 J m w9_26 [] (s9_18 x0 r7.2 x2 x3 r7.1)))))
   else
  ((i17 m false 4 [] x1 x4).bind fun r32=>
  (J 0 7 0 (s9_18 x0 r32.2 x2 x3 r32.1) (e9 J m w9_26 [] (s9_18 x0 r32.2 x2 x3 r32.1))))):=fun J=>by kernel_rfl
 exact(h jn).trans (by
   simp only[jn_eq,i9_j2_eq m]
   rfl)
theorem i9_j0_eq (m:Nat) (x0 x1:List Dt) (x2 x3:Dt) (x4:List Dt):e9 jn m w9_28 [] (s9_18 x0 x1 x2 x3 x4)=i9_j0 m x0 x1 x2 x3 x4:=by
 have h:∀J,e9 J m w9_28 [] (s9_18 x0 x1 x2 x3 x4)=
   (bif (Dt.B x2 1) then
  ((value_Compare m x3 (Dt.fld x2 2)).bind fun r4=>
  ((i17 m (decide (r4<0)) 3 [] x1 x4).bind fun r5=>
  (J 0 6 0 (s9_18 x0 r5.2 x2 x3 r5.1) (e9 J m w9_27 [] (s9_18 x0 r5.2 x2 x3 r5.1)))))
   else
  ((i17 m false 3 [] x1 x4).bind fun r33=>
  (J 0 6 0 (s9_18 x0 r33.2 x2 x3 r33.1) (e9 J m w9_27 [] (s9_18 x0 r33.2 x2 x3 r33.1))))):=fun J=>by kernel_rfl
 exact(h jn).trans (by
   simp only[jn_eq,i9_j1_eq m]
   rfl)
theorem i9_eq (m:Nat) (a0 a1:Dt) (a2 a3:List Dt):e9 jn m [] [] ⟨[(.row 0),(.dat 30 a0),(.dat 25 a1),(.row 1)],[(.row 38 a2),(.row 26 a3)],2⟩=i9 (m+1) a0 a1 a2 a3:=by
 have h:∀J,e9 J m [] [] ⟨[(.row 0),(.dat 30 a0),(.dat 25 a1),(.row 1)],[(.row 38 a2),(.row 26 a3)],2⟩=
   ((schema_hasKind m (Dt.I a0 0) (Dt.I a1 0)).bind fun r0=>
  ((i11 m (Bool.not r0) 1 [] a2 a3).bind fun r1=>
  (bif (decide (0<(List.length (Dt.L a0 5):Int))) then
  ((i13 m (Dt.L a0 5) a1).bind fun r2=>
  ((i17 m (Bool.not r2) 2 [] r1.2.2 r1.1).bind fun r3=>
  (J 0 5 0 (s9_18 r1.2.1 r3.2 a0 a1 r3.1) (e9 J m w9_28 [] (s9_18 r1.2.1 r3.2 a0 a1 r3.1)))))
  else
  ((i17 m false 2 [] r1.2.2 r1.1).bind fun r34=>
  (J 0 5 0 (s9_18 r1.2.1 r34.2 a0 a1 r34.1) (e9 J m w9_28 [] (s9_18 r1.2.1 r34.2 a0 a1 r34.1))))))):=fun J=>by kernel_rfl
 refine(h jn).trans ?_
 simp only[jn_eq,i9_j0_eq m]
 rfl
noncomputable def d57 (q:Res):Option (List Dt):=match q with
 |(.dat T0 x0,[])=>bif Nat.beq T0 22 then some x0.toLst else none
 |_=>none
def w57_0:List Nat:=[1,1,0,1,0,1,0]
def w57_1:List Nat:=[1,1,0,1,0,1,0,0,1,1]
def w57_2:List Nat:=[1,1,0,1,0,1,0,0,1]
def w57_3:List Nat:=[1,1,1,0,1,0,1,0]
def w57_4:List Nat:=[1,1,1,0,1,0,1,0,0,1,1]
def w57_5:List Nat:=[1,1,1,0,1,0,1,0,0,1]
def w57_6:List Nat:=[1,1,1,0,1,0,1]
def w57_7:List Nat:=[1,1,0,1,0,1]
theorem d57_sim {b:Res} {r:List Dt} (h:d57 b=some r):Sim Tryd.prog b ((.dat 22 (.lst r)),[]):=by
 unfold d57 at h
 split at h
 ·obtain⟨hc,h2⟩:=bif_some h
  cases h2
  have e0:=beq_eq hc
  subst e0
  exact Sim.of (.of (.dat (.lst Tryd.underlying22)) rfl rfl) .nil
 ·cases h
noncomputable def e57 (J:Nat→Nat→Nat→St→Option (List Dt)→Option (List Dt)) (m:Nat) (p ms:List Nat) (σ:St):=evAt Tryd.prog env (ct m) J (m+1) 60 44 Tryd.f60 d57 p ms σ
noncomputable def l57 (J:Nat→Nat→Nat→St→Option (List Dt)→Option (List Dt)) (m:Nat) (p ms:List Nat) (M:Nat) (σ:St):=loopAt Tryd.prog env (ct m) J (m+1) 60 44 Tryd.f60 d57 p ms M σ
noncomputable def s57_3 (x0:Int) (x1:Dt) (x2:List Dt):St:=⟨tsOf [(1,(.ptr 0 [] 0)),(3,(.row 1)),(4,(.dat 3 (.int x0)))],[(.box 25 (.dat 25 x1)),(.row 22 x2)],0⟩
noncomputable def s57_8 (x0:Int) (x1:Dt) (x2:List Dt):St:=⟨tsOf [(1,(.ptr 0 [] 0)),(3,(.row 1)),(5,(.dat 3 (.int x0)))],[(.box 25 (.dat 25 x1)),(.row 22 x2)],0⟩
noncomputable def s57_9 (x0:List Dt):St:=⟨tsOf [(3,(.row 0))],[(.row 22 x0)],0⟩
noncomputable def s57_4 (x0:Dt) (x1:List Dt):St:=⟨tsOf [(1,(.ptr 0 [] 0)),(3,(.row 1))],[(.box 25 (.dat 25 x0)),(.row 22 x1)],0⟩
theorem ref01_Parts_j3_eq (m:Nat) (M1:Nat) (rec1:Int→Dt→List Dt→Option (List Dt)) (h1:∀(x0:Int) (x1:Dt) (x2:List Dt),l57 jn m w57_0 [] M1 (s57_3 x0 x1 x2)=rec1 x0 x1 x2) (x0:Int) (x1:Dt) (x2:List Dt):e57 jn m w57_1 [M1] (s57_3 x0 x1 x2)=ref01_Parts_j3 m rec1 x0 x1 x2:=by
 have h:∀J,e57 J m w57_1 [M1] (s57_3 x0 x1 x2)=
  (J 1 4 M1 (s57_3 (IntKind.wrap .i64 (x0+1)) x1 x2) (l57 J m w57_0 [] M1 (s57_3 (IntKind.wrap .i64 (x0+1)) x1 x2))):=fun J=>by kernel_rfl
 exact(h jn).trans (by
  simp only[jn_eq,h1]
  rfl)
theorem ref01_Parts_j2_eq (m:Nat) (M1:Nat) (rec1:Int→Dt→List Dt→Option (List Dt)) (h1:∀(x0:Int) (x1:Dt) (x2:List Dt),l57 jn m w57_0 [] M1 (s57_3 x0 x1 x2)=rec1 x0 x1 x2) (x0:Int) (x1:Dt) (x2:List Dt):e57 jn m w57_2 [M1] (s57_3 x0 x1 x2)=ref01_Parts_j2 m rec1 x0 x1 x2:=by
 have h:∀J,e57 J m w57_2 [M1] (s57_3 x0 x1 x2)=
   ((idx (Dt.L x1 3) x0).bind fun v0=>
  ((app x2 [v0]).bind fun v1=>
  (J 0 5 0 (s57_3 x0 x1 v1) (e57 J m w57_1 [M1] (s57_3 x0 x1 v1))))):=fun J=>by kernel_rfl
 exact(h jn).trans (by
   simp only[jn_eq,ref01_Parts_j3_eq m M1 rec1 h1]
   rfl)
theorem ref01_Parts_j8_eq (m:Nat) (M6:Nat) (rec6:Int→Dt→List Dt→Option (List Dt)) (h6:∀(x0:Int) (x1:Dt) (x2:List Dt),l57 jn m w57_3 [] M6 (s57_8 x0 x1 x2)=rec6 x0 x1 x2) (x0:Int) (x1:Dt) (x2:List Dt):e57 jn m w57_4 [M6] (s57_8 x0 x1 x2)=ref01_Parts_j8 m rec6 x0 x1 x2:=by
 have h:∀J,e57 J m w57_4 [M6] (s57_8 x0 x1 x2)=
  (J 1 9 M6 (s57_8 (IntKind.wrap .i64 (x0+1)) x1 x2) (l57 J m w57_3 [] M6 (s57_8 (IntKind.wrap .i64 (x0+1)) x1 x2))):=fun J=>by kernel_rfl
 exact(h jn).trans (by
  simp only[jn_eq,h6]
  rfl)
theorem ref01_Parts_j7_eq (m:Nat) (M6:Nat) (rec6:Int→Dt→List Dt→Option (List Dt)) (h6:∀(x0:Int) (x1:Dt) (x2:List Dt),l57 jn m w57_3 [] M6 (s57_8 x0 x1 x2)=rec6 x0 x1 x2) (x0:Int) (x1:Dt) (x2:List Dt):e57 jn m w57_5 [M6] (s57_8 x0 x1 x2)=ref01_Parts_j7 m rec6 x0 x1 x2:=by
 have h:∀J,e57 J m w57_5 [M6] (s57_8 x0 x1 x2)=
   ((idx (Dt.L x1 4) x0).bind fun v2=>
  ((app x2 [(Dt.fld v2 1)]).bind fun v3=>
  (J 0 10 0 (s57_8 x0 x1 v3) (e57 J m w57_4 [M6] (s57_8 x0 x1 v3))))):=fun J=>by kernel_rfl
 exact(h jn).trans (by
   simp only[jn_eq,ref01_Parts_j8_eq m M6 rec6 h6]
   rfl)
theorem ref01_Parts_j9_eq (m:Nat) (x0:List Dt):e57 jn m [1,1,1,1] [] (s57_9 x0)=ref01_Parts_j9 m x0:=by
 have h:∀J,e57 J m [1,1,1,1] [] (s57_9 x0)=
  some x0:=fun J=>by kernel_rfl
 exact(h jn).trans (rfl)
theorem ref01_Parts_l6_eq (m:Nat):∀(M6:Nat) (x0:Int) (x1:Dt) (x2:List Dt),l57 jn m w57_3 [] M6 (s57_8 x0 x1 x2)=ref01_Parts_l6 m M6 x0 x1 x2
 |0,_,_,_=>rfl
 | M6+1,x0,x1,x2=>by
   have h:∀J,l57 J m w57_3 [] (M6+1) (s57_8 x0 x1 x2)=
   (bif (decide (x0<(List.length (Dt.L x1 4):Int))) then
  (J 0 11 0 (s57_8 x0 x1 x2) (e57 J m w57_5 [M6] (s57_8 x0 x1 x2)))
   else
  (J 0 12 0 (s57_9 x2) (e57 J m [1,1,1,1] [] (s57_9 x2)))):=fun J=>by kernel_rfl
   refine(h jn).trans ?_
   simp only[jn_eq,ref01_Parts_j7_eq m M6 (ref01_Parts_l6 m M6) (fun x0 x1 x2=>ref01_Parts_l6_eq m M6 x0 x1 x2),ref01_Parts_j9_eq m]
   rfl
theorem ref01_Parts_j5_eq (m:Nat) (x0:Int) (x1:Dt) (x2:List Dt):e57 jn m w57_6 [] (s57_8 x0 x1 x2)=ref01_Parts_j5 m x0 x1 x2:=by
 have h:∀J,e57 J m w57_6 [] (s57_8 x0 x1 x2)=
  (J 1 9 (Nat.succ m) (s57_8 x0 x1 x2) (l57 J m w57_3 [] (Nat.succ m) (s57_8 x0 x1 x2))):=fun J=>by kernel_rfl
 exact(h jn).trans (by
  simp only[jn_eq,ref01_Parts_l6_eq m]
  rfl)
theorem ref01_Parts_j4_eq (m:Nat) (x0:Dt) (x1:List Dt):e57 jn m [1,1,1] [] (s57_4 x0 x1)=ref01_Parts_j4 m x0 x1:=by
 have h:∀J,e57 J m [1,1,1] [] (s57_4 x0 x1)=
   (bif ((Dt.I x0 0)==5) then
  (J 0 9 0 (s57_8 0 x0 x1) (e57 J m w57_6 [] (s57_8 0 x0 x1)))
   else
  (J 0 12 0 (s57_9 x1) (e57 J m [1,1,1,1] [] (s57_9 x1)))):=fun J=>by kernel_rfl
 exact(h jn).trans (by
   simp only[jn_eq,ref01_Parts_j5_eq m,ref01_Parts_j9_eq m]
   rfl)
theorem ref01_Parts_l1_eq (m:Nat):∀(M1:Nat) (x0:Int) (x1:Dt) (x2:List Dt),l57 jn m w57_0 [] M1 (s57_3 x0 x1 x2)=ref01_Parts_l1 m M1 x0 x1 x2
 |0,_,_,_=>rfl
 | M1+1,x0,x1,x2=>by
   have h:∀J,l57 J m w57_0 [] (M1+1) (s57_3 x0 x1 x2)=
   (bif (decide (x0<(List.length (Dt.L x1 3):Int))) then
  (J 0 6 0 (s57_3 x0 x1 x2) (e57 J m w57_2 [M1] (s57_3 x0 x1 x2)))
   else
  (J 0 7 0 (s57_4 x1 x2) (e57 J m [1,1,1] [] (s57_4 x1 x2)))):=fun J=>by kernel_rfl
   refine(h jn).trans ?_
   simp only[jn_eq,ref01_Parts_j2_eq m M1 (ref01_Parts_l1 m M1) (fun x0 x1 x2=>ref01_Parts_l1_eq m M1 x0 x1 x2),ref01_Parts_j4_eq m]
   rfl
theorem ref01_Parts_j0_eq (m:Nat) (x0:Int) (x1:Dt) (x2:List Dt):e57 jn m w57_7 [] (s57_3 x0 x1 x2)=ref01_Parts_j0 m x0 x1 x2:=by
 have h:∀J,e57 J m w57_7 [] (s57_3 x0 x1 x2)=
  (J 1 4 (Nat.succ m) (s57_3 x0 x1 x2) (l57 J m w57_0 [] (Nat.succ m) (s57_3 x0 x1 x2))):=fun J=>by kernel_rfl
 exact(h jn).trans (by
  simp only[jn_eq,ref01_Parts_l1_eq m]
  rfl)
theorem ref01_Parts_eq (m:Nat) (a0:Dt):e57 jn m [] [] ⟨[(.dat 25 a0)],[],0⟩=ref01_Parts (m+1) a0:=by
 have h:∀J,e57 J m [] [] ⟨[(.dat 25 a0)],[],0⟩=
   (bif ((Dt.I a0 0)==6) then
  (J 0 4 0 (s57_3 0 a0 []) (e57 J m w57_7 [] (s57_3 0 a0 [])))
   else
  (J 0 7 0 (s57_4 a0 []) (e57 J m [1,1,1] [] (s57_4 a0 [])))):=fun J=>by kernel_rfl
 refine(h jn).trans ?_
 simp only[jn_eq,ref01_Parts_j0_eq m,ref01_Parts_j4_eq m]
 rfl
noncomputable def d49 (q:Res):Option Int:=match q with
 |(.dat T0 x0,[])=>bif Nat.beq T0 3 then some x0.toInt else none
 |_=>none
def w49_0:List Nat:=[1,1,1,1,0,1,0]
def w49_1:List Nat:=[1,1,1,1,0,1,0,0,1,1]
def w49_2:List Nat:=[1,1,1,1,0,1,0,0,1]
def w49_3:List Nat:=[1,1,1,1,1]
def w49_4:List Nat:=[1,1,1,1,0,1]
theorem d49_sim {b:Res} {r:Int} (h:d49 b=some r):Sim Tryd.prog b ((.dat 3 (.int r)),[]):=by
 unfold d49 at h
 split at h
 ·obtain⟨hc,h2⟩:=bif_some h
  cases h2
  have e0:=beq_eq hc
  subst e0
  exact Sim.of (.of (.dat (.int Tryd.underlying3)) rfl rfl) .nil
 ·cases h
noncomputable def e49 (J:Nat→Nat→Nat→St→Option Int→Option Int) (m:Nat) (p ms:List Nat) (σ:St):=evAt Tryd.prog env (ct m) J (m+1) 33 34 Tryd.f33 d49 p ms σ
noncomputable def l49 (J:Nat→Nat→Nat→St→Option Int→Option Int) (m:Nat) (p ms:List Nat) (M:Nat) (σ:St):=loopAt Tryd.prog env (ct m) J (m+1) 33 34 Tryd.f33 d49 p ms M σ
noncomputable def s49_5 (x0:Int) (x1:List Dt) (x2 x3:Int):St:=⟨tsOf [(1,(.dat 3 (.int x0))),(5,(.dat 22 (.lst x1))),(6,(.dat 3 (.int x2))),(7,(.dat 3 (.int x3)))],[],0⟩
noncomputable def s49_6 (x0:Int):St:=⟨tsOf [(6,(.dat 3 (.int x0)))],[],0⟩
noncomputable def s49_1 (x0:Int) (x1:List Dt):St:=⟨tsOf [(1,(.dat 3 (.int x0))),(5,(.dat 22 (.lst x1)))],[],0⟩
noncomputable def s49_0 (x0:Int) (x1:List Dt) (x2:Bool):St:=⟨tsOf [(1,(.dat 3 (.int x0))),(5,(.dat 22 (.lst x1))),(16,(.dat 4 (.bool x2)))],[],0⟩
theorem ref01_levels_j5_eq (m:Nat) (M3:Nat) (rec3:Int→List Dt→Int→Int→Option Int) (h3:∀(x0:Int) (x1:List Dt) (x2 x3:Int),l49 jn m w49_0 [] M3 (s49_5 x0 x1 x2 x3)=rec3 x0 x1 x2 x3) (x0:Int) (x1:List Dt) (x2 x3:Int):e49 jn m w49_1 [M3] (s49_5 x0 x1 x2 x3)=ref01_levels_j5 m (ref01_levels m) rec3 x0 x1 x2 x3:=by
 have h:∀J,e49 J m w49_1 [M3] (s49_5 x0 x1 x2 x3)=
  (J 1 6 M3 (s49_5 x0 x1 x2 (IntKind.wrap .i64 (x3+1))) (l49 J m w49_0 [] M3 (s49_5 x0 x1 x2 (IntKind.wrap .i64 (x3+1))))):=fun J=>by kernel_rfl
 exact(h jn).trans (by
  simp only[jn_eq,h3]
  rfl)
theorem ref01_levels_j4_eq (m:Nat) (M3:Nat) (rec3:Int→List Dt→Int→Int→Option Int) (h3:∀(x0:Int) (x1:List Dt) (x2 x3:Int),l49 jn m w49_0 [] M3 (s49_5 x0 x1 x2 x3)=rec3 x0 x1 x2 x3) (x0:Int) (x1:List Dt) (x2 x3:Int):e49 jn m w49_2 [M3] (s49_5 x0 x1 x2 x3)=ref01_levels_j4 m (ref01_levels m) rec3 x0 x1 x2 x3:=by
 have h:∀J,e49 J m w49_2 [M3] (s49_5 x0 x1 x2 x3)=
   ((idx x1 x3).bind fun v1=>
  ((ref01_levels m v1 (IntKind.wrap .i64 (x0-1))).bind fun r2=>
  (J 0 7 0 (s49_5 x0 x1 (bif (decide (x2<r2)) then r2 else x2) x3) (e49 J m w49_1 [M3] (s49_5 x0 x1 (bif (decide (x2<r2)) then r2 else x2) x3))))):=fun J=>by kernel_rfl
 exact(h jn).trans (by
   simp only[jn_eq,ref01_levels_j5_eq m M3 rec3 h3]
   rfl)
theorem ref01_levels_j6_eq (m:Nat) (x0:Int):e49 jn m w49_3 [] (s49_6 x0)=ref01_levels_j6 m (ref01_levels m) x0:=by
 have h:∀J,e49 J m w49_3 [] (s49_6 x0)=
  some (IntKind.wrap .i64 (x0+1)):=fun J=>by kernel_rfl
 exact(h jn).trans (rfl)
theorem ref01_levels_l3_eq (m:Nat):∀(M3:Nat) (x0:Int) (x1:List Dt) (x2 x3:Int),l49 jn m w49_0 [] M3 (s49_5 x0 x1 x2 x3)=ref01_levels_l3 m (ref01_levels m) M3 x0 x1 x2 x3
 |0,_,_,_,_=>rfl
 | M3+1,x0,x1,x2,x3=>by
   have h:∀J,l49 J m w49_0 [] (M3+1) (s49_5 x0 x1 x2 x3)=
   (bif (decide (x3<(List.length x1:Int))) then
  (J 0 8 0 (s49_5 x0 x1 x2 x3) (e49 J m w49_2 [M3] (s49_5 x0 x1 x2 x3)))
   else
  (J 0 9 0 (s49_6 x2) (e49 J m w49_3 [] (s49_6 x2)))):=fun J=>by kernel_rfl
   refine(h jn).trans ?_
   simp only[jn_eq,ref01_levels_j4_eq m M3 (ref01_levels_l3 m (ref01_levels m) M3) (fun x0 x1 x2 x3=>ref01_levels_l3_eq m M3 x0 x1 x2 x3),ref01_levels_j6_eq m]
   rfl
theorem ref01_levels_j2_eq (m:Nat) (x0:Int) (x1:List Dt) (x2 x3:Int):e49 jn m w49_4 [] (s49_5 x0 x1 x2 x3)=ref01_levels_j2 m (ref01_levels m) x0 x1 x2 x3:=by
 have h:∀J,e49 J m w49_4 [] (s49_5 x0 x1 x2 x3)=
  (J 1 6 (Nat.succ m) (s49_5 x0 x1 x2 x3) (l49 J m w49_0 [] (Nat.succ m) (s49_5 x0 x1 x2 x3))):=fun J=>by kernel_rfl
 exact(h jn).trans (by
  simp only[jn_eq,ref01_levels_l3_eq m]
  rfl)
theorem ref01_levels_j1_eq (m:Nat) (x0:Int) (x1:List Dt):e49 jn m [1,1,1] [] (s49_1 x0 x1)=ref01_levels_j1 m (ref01_levels m) x0 x1:=by
 have h:∀J,e49 J m [1,1,1] [] (s49_1 x0 x1)=
  (J 0 6 0 (s49_5 x0 x1 0 0) (e49 J m w49_4 [] (s49_5 x0 x1 0 0))):=fun J=>by kernel_rfl
 exact(h jn).trans (by
  simp only[jn_eq,ref01_levels_j2_eq m]
  rfl)
theorem ref01_levels_j0_eq (m:Nat) (x0:Int) (x1:List Dt) (x2:Bool):e49 jn m [1,1,0,1] [] (s49_0 x0 x1 x2)=ref01_levels_j0 m (ref01_levels m) x0 x1 x2:=by
 have h:∀J,e49 J m [1,1,0,1] [] (s49_0 x0 x1 x2)=
   (bif x2 then
  some 1
   else
  (J 0 4 0 (s49_1 x0 x1) (e49 J m [1,1,1] [] (s49_1 x0 x1)))):=fun J=>by kernel_rfl
 exact(h jn).trans (by
   simp only[jn_eq,ref01_levels_j1_eq m]
   rfl)
theorem ref01_levels_eq (m:Nat) (a0:Dt) (a1:Int):e49 jn m [] [] ⟨[(.dat 25 a0),(.dat 3 (.int a1))],[],0⟩=ref01_levels (m+1) a0 a1:=by
 have h:∀J,e49 J m [] [] ⟨[(.dat 25 a0),(.dat 3 (.int a1))],[],0⟩=
   ((ref01_Parts m a0).bind fun r0=>
  (bif (decide (a1<2)) then
  (J 0 3 0 (s49_0 a1 r0 true) (e49 J m [1,1,0,1] [] (s49_0 a1 r0 true)))
  else
  (J 0 3 0 (s49_0 a1 r0 ((List.length r0:Int)==0)) (e49 J m [1,1,0,1] [] (s49_0 a1 r0 ((List.length r0:Int)==0)))))):=fun J=>by kernel_rfl
 refine(h jn).trans ?_
 simp only[jn_eq,ref01_levels_j0_eq m]
 rfl
noncomputable def d31 (q:Res):Option Int:=match q with
 |(.dat T0 x0,[])=>bif Nat.beq T0 3 then some x0.toInt else none
 |_=>none
theorem d31_sim {b:Res} {r:Int} (h:d31 b=some r):Sim Tryd.prog b ((.dat 3 (.int r)),[]):=by
 unfold d31 at h
 split at h
 ·obtain⟨hc,h2⟩:=bif_some h
  cases h2
  have e0:=beq_eq hc
  subst e0
  exact Sim.of (.of (.dat (.int Tryd.underlying3)) rfl rfl) .nil
 ·cases h
noncomputable def e31 (J:Nat→Nat→Nat→St→Option Int→Option Int) (m:Nat) (p ms:List Nat) (σ:St):=evAt Tryd.prog env (ct m) J (m+1) 22 5 Tryd.f22 d31 p ms σ
noncomputable def l31 (J:Nat→Nat→Nat→St→Option Int→Option Int) (m:Nat) (p ms:List Nat) (M:Nat) (σ:St):=loopAt Tryd.prog env (ct m) J (m+1) 22 5 Tryd.f22 d31 p ms M σ
theorem ref01_Depth_eq (m:Nat) (a0:Dt):e31 jn m [] [] ⟨[(.dat 25 a0)],[],0⟩=ref01_Depth (m+1) a0:=by
 have h:∀J,e31 J m [] [] ⟨[(.dat 25 a0)],[],0⟩=
   ((ref01_levels m a0 17).bind fun r0=>
  some r0):=fun J=>by kernel_rfl
 refine(h jn).trans ?_
 rfl
noncomputable def d50 (q:Res):Option Int:=match q with
 |(.dat T0 x0,[])=>bif Nat.beq T0 3 then some x0.toInt else none
 |_=>none
def w50_0:List Nat:=[1,1,1,0,1,0]
def w50_1:List Nat:=[1,1,1,0,1,0,0,1,1]
def w50_2:List Nat:=[1,1,1,0,1,0,0,1]
def w50_3:List Nat:=[1,1,1,0,1]
theorem d50_sim {b:Res} {r:Int} (h:d50 b=some r):Sim Tryd.prog b ((.dat 3 (.int r)),[]):=by
 unfold d50 at h
 split at h
 ·obtain⟨hc,h2⟩:=bif_some h
  cases h2
  have e0:=beq_eq hc
  subst e0
  exact Sim.of (.of (.dat (.int Tryd.underlying3)) rfl rfl) .nil
 ·cases h
noncomputable def e50 (J:Nat→Nat→Nat→St→Option Int→Option Int) (m:Nat) (p ms:List Nat) (σ:St):=evAt Tryd.prog env (ct m) J (m+1) 34 32 Tryd.f34 d50 p ms σ
noncomputable def l50 (J:Nat→Nat→Nat→St→Option Int→Option Int) (m:Nat) (p ms:List Nat) (M:Nat) (σ:St):=loopAt Tryd.prog env (ct m) J (m+1) 34 32 Tryd.f34 d50 p ms M σ
noncomputable def s50_3 (x0 x1:Int) (x2:List Dt) (x3:Int):St:=⟨tsOf [(1,(.dat 3 (.int x0))),(5,(.dat 3 (.int x1))),(6,(.dat 22 (.lst x2))),(7,(.dat 3 (.int x3)))],[],0⟩
noncomputable def s50_4 (x0:Int):St:=⟨tsOf [(5,(.dat 3 (.int x0)))],[],0⟩
theorem ref01_count_j3_eq (m:Nat) (M1:Nat) (rec1:Int→Int→List Dt→Int→Option Int) (h1:∀(x0 x1:Int) (x2:List Dt) (x3:Int),l50 jn m w50_0 [] M1 (s50_3 x0 x1 x2 x3)=rec1 x0 x1 x2 x3) (x0 x1:Int) (x2:List Dt) (x3:Int):e50 jn m w50_1 [M1] (s50_3 x0 x1 x2 x3)=ref01_count_j3 m (ref01_count m) rec1 x0 x1 x2 x3:=by
 have h:∀J,e50 J m w50_1 [M1] (s50_3 x0 x1 x2 x3)=
  (J 1 4 M1 (s50_3 x0 x1 x2 (IntKind.wrap .i64 (x3+1))) (l50 J m w50_0 [] M1 (s50_3 x0 x1 x2 (IntKind.wrap .i64 (x3+1))))):=fun J=>by kernel_rfl
 exact(h jn).trans (by
  simp only[jn_eq,h1]
  rfl)
theorem ref01_count_j2_eq (m:Nat) (M1:Nat) (rec1:Int→Int→List Dt→Int→Option Int) (h1:∀(x0 x1:Int) (x2:List Dt) (x3:Int),l50 jn m w50_0 [] M1 (s50_3 x0 x1 x2 x3)=rec1 x0 x1 x2 x3) (x0 x1:Int) (x2:List Dt) (x3:Int):e50 jn m w50_2 [M1] (s50_3 x0 x1 x2 x3)=ref01_count_j2 m (ref01_count m) rec1 x0 x1 x2 x3:=by
 have h:∀J,e50 J m w50_2 [M1] (s50_3 x0 x1 x2 x3)=
   ((idx x2 x3).bind fun v1=>
  ((ref01_count m v1 (IntKind.wrap .i64 (x0-x1))).bind fun r2=>
  (J 0 5 0 (s50_3 x0 (IntKind.wrap .i64 (x1+r2)) x2 x3) (e50 J m w50_1 [M1] (s50_3 x0 (IntKind.wrap .i64 (x1+r2)) x2 x3))))):=fun J=>by kernel_rfl
 exact(h jn).trans (by
   simp only[jn_eq,ref01_count_j3_eq m M1 rec1 h1]
   rfl)
theorem ref01_count_j4_eq (m:Nat) (x0:Int):e50 jn m [1,1,1,1] [] (s50_4 x0)=ref01_count_j4 m (ref01_count m) x0:=by
 have h:∀J,e50 J m [1,1,1,1] [] (s50_4 x0)=
  some x0:=fun J=>by kernel_rfl
 exact(h jn).trans (rfl)
theorem ref01_count_l1_eq (m:Nat):∀(M1:Nat) (x0 x1:Int) (x2:List Dt) (x3:Int),l50 jn m w50_0 [] M1 (s50_3 x0 x1 x2 x3)=ref01_count_l1 m (ref01_count m) M1 x0 x1 x2 x3
 |0,_,_,_,_=>rfl
 | M1+1,x0,x1,x2,x3=>by
   have h:∀J,l50 J m w50_0 [] (M1+1) (s50_3 x0 x1 x2 x3)=
   (bif (decide (x3<(List.length x2:Int))) then
  (bif (decide (x1<x0)) then
  (J 0 6 0 (s50_3 x0 x1 x2 x3) (e50 J m w50_2 [M1] (s50_3 x0 x1 x2 x3)))
  else
  (J 0 7 0 (s50_4 x1) (e50 J m [1,1,1,1] [] (s50_4 x1))))
   else
  (J 0 7 0 (s50_4 x1) (e50 J m [1,1,1,1] [] (s50_4 x1)))):=fun J=>by kernel_rfl
   refine(h jn).trans ?_
   simp only[jn_eq,ref01_count_j2_eq m M1 (ref01_count_l1 m (ref01_count m) M1) (fun x0 x1 x2 x3=>ref01_count_l1_eq m M1 x0 x1 x2 x3),ref01_count_j4_eq m]
   rfl
theorem ref01_count_j0_eq (m:Nat) (x0 x1:Int) (x2:List Dt) (x3:Int):e50 jn m w50_3 [] (s50_3 x0 x1 x2 x3)=ref01_count_j0 m (ref01_count m) x0 x1 x2 x3:=by
 have h:∀J,e50 J m w50_3 [] (s50_3 x0 x1 x2 x3)=
  (J 1 4 (Nat.succ m) (s50_3 x0 x1 x2 x3) (l50 J m w50_0 [] (Nat.succ m) (s50_3 x0 x1 x2 x3))):=fun J=>by kernel_rfl
 exact(h jn).trans (by
  simp only[jn_eq,ref01_count_l1_eq m]
  rfl)
theorem ref01_count_eq (m:Nat) (a0:Dt) (a1:Int):e50 jn m [] [] ⟨[(.dat 25 a0),(.dat 3 (.int a1))],[],0⟩=ref01_count (m+1) a0 a1:=by
 have h:∀J,e50 J m [] [] ⟨[(.dat 25 a0),(.dat 3 (.int a1))],[],0⟩=
   ((ref01_Parts m a0).bind fun r0=>
  (J 0 4 0 (s50_3 a1 1 r0 0) (e50 J m w50_3 [] (s50_3 a1 1 r0 0)))):=fun J=>by kernel_rfl
 refine(h jn).trans ?_
 simp only[jn_eq,ref01_count_j0_eq m]
 rfl
noncomputable def d32 (q:Res):Option Int:=match q with
 |(.dat T0 x0,[])=>bif Nat.beq T0 3 then some x0.toInt else none
 |_=>none
theorem d32_sim {b:Res} {r:Int} (h:d32 b=some r):Sim Tryd.prog b ((.dat 3 (.int r)),[]):=by
 unfold d32 at h
 split at h
 ·obtain⟨hc,h2⟩:=bif_some h
  cases h2
  have e0:=beq_eq hc
  subst e0
  exact Sim.of (.of (.dat (.int Tryd.underlying3)) rfl rfl) .nil
 ·cases h
noncomputable def e32 (J:Nat→Nat→Nat→St→Option Int→Option Int) (m:Nat) (p ms:List Nat) (σ:St):=evAt Tryd.prog env (ct m) J (m+1) 23 5 Tryd.f23 d32 p ms σ
noncomputable def l32 (J:Nat→Nat→Nat→St→Option Int→Option Int) (m:Nat) (p ms:List Nat) (M:Nat) (σ:St):=loopAt Tryd.prog env (ct m) J (m+1) 23 5 Tryd.f23 d32 p ms M σ
theorem ref01_Nodes_eq (m:Nat) (a0:Dt):e32 jn m [] [] ⟨[(.dat 25 a0)],[],0⟩=ref01_Nodes (m+1) a0:=by
 have h:∀J,e32 J m [] [] ⟨[(.dat 25 a0)],[],0⟩=
   ((ref01_count m a0 1025).bind fun r0=>
  some r0):=fun J=>by kernel_rfl
 refine(h jn).trans ?_
 rfl
noncomputable def d58 (q:Res):Option Bool:=match q with
 |(.dat T0 x0,[])=>bif Nat.beq T0 4 then some x0.toBool else none
 |_=>none
def w58_0:List Nat:=[1,1,0,1,0]
def w58_1:List Nat:=[1,1,0,1,0,0,1,1]
def w58_2:List Nat:=[1,1,0,1,0,0,1,0,0,1]
def w58_3:List Nat:=[1,1,0,1,0,0,1]
theorem d58_sim {b:Res} {r:Bool} (h:d58 b=some r):Sim Tryd.prog b ((.dat 4 (.bool r)),[]):=by
 unfold d58 at h
 split at h
 ·obtain⟨hc,h2⟩:=bif_some h
  cases h2
  have e0:=beq_eq hc
  subst e0
  exact Sim.of (.of (.dat (.bool Tryd.underlying4)) rfl rfl) .nil
 ·cases h
noncomputable def e58 (J:Nat→Nat→Nat→St→Option Bool→Option Bool) (m:Nat) (p ms:List Nat) (σ:St):=evAt Tryd.prog env (ct m) J (m+1) 61 33 Tryd.f61 d58 p ms σ
noncomputable def l58 (J:Nat→Nat→Nat→St→Option Bool→Option Bool) (m:Nat) (p ms:List Nat) (M:Nat) (σ:St):=loopAt Tryd.prog env (ct m) J (m+1) 61 33 Tryd.f61 d58 p ms M σ
noncomputable def s58_5 (x0:ByteArray) (x1 x2 x3:Int):St:=⟨tsOf [(0,(.dat 9 (.str x0))),(1,(.dat 3 (.int x1))),(2,(.dat 3 (.int x2))),(7,(.dat 3 (.int x3)))],[],0⟩
noncomputable def s58_4 (x0:ByteArray) (x1 x2 x3:Int) (x4:Bool):St:=⟨tsOf [(0,(.dat 9 (.str x0))),(1,(.dat 3 (.int x1))),(2,(.dat 3 (.int x2))),(7,(.dat 3 (.int x3))),(32,(.dat 4 (.bool x4)))],[],0⟩
noncomputable def s58_6:St:=⟨tsOf [],[],0⟩
noncomputable def s58_0 (x0:ByteArray) (x1 x2:Int):St:=⟨tsOf [(0,(.dat 9 (.str x0))),(1,(.dat 3 (.int x1))),(2,(.dat 3 (.int x2)))],[],0⟩
theorem ref01_tail_j5_eq (m:Nat) (M2:Nat) (rec2:ByteArray→Int→Int→Int→Option Bool) (h2:∀(x0:ByteArray) (x1 x2 x3:Int),l58 jn m w58_0 [] M2 (s58_5 x0 x1 x2 x3)=rec2 x0 x1 x2 x3) (x0:ByteArray) (x1 x2 x3:Int):e58 jn m w58_1 [M2] (s58_5 x0 x1 x2 x3)=ref01_tail_j5 m rec2 x0 x1 x2 x3:=by
 have h:∀J,e58 J m w58_1 [M2] (s58_5 x0 x1 x2 x3)=
  (J 1 4 M2 (s58_5 x0 x1 x2 (IntKind.wrap .i64 (x3+1))) (l58 J m w58_0 [] M2 (s58_5 x0 x1 x2 (IntKind.wrap .i64 (x3+1))))):=fun J=>by kernel_rfl
 exact(h jn).trans (by
  simp only[jn_eq,h2]
  rfl)
theorem ref01_tail_j4_eq (m:Nat) (M2:Nat) (rec2:ByteArray→Int→Int→Int→Option Bool) (h2:∀(x0:ByteArray) (x1 x2 x3:Int),l58 jn m w58_0 [] M2 (s58_5 x0 x1 x2 x3)=rec2 x0 x1 x2 x3) (x0:ByteArray) (x1 x2 x3:Int) (x4:Bool):e58 jn m w58_2 [M2] (s58_4 x0 x1 x2 x3 x4)=ref01_tail_j4 m rec2 x0 x1 x2 x3 x4:=by
 have h:∀J,e58 J m w58_2 [M2] (s58_4 x0 x1 x2 x3 x4)=
   (bif x4 then
  some false
   else
  (J 0 5 0 (s58_5 x0 x1 x2 x3) (e58 J m w58_1 [M2] (s58_5 x0 x1 x2 x3)))):=fun J=>by kernel_rfl
 exact(h jn).trans (by
   simp only[jn_eq,ref01_tail_j5_eq m M2 rec2 h2]
   rfl)
theorem ref01_tail_j3_eq (m:Nat) (M2:Nat) (rec2:ByteArray→Int→Int→Int→Option Bool) (h2:∀(x0:ByteArray) (x1 x2 x3:Int),l58 jn m w58_0 [] M2 (s58_5 x0 x1 x2 x3)=rec2 x0 x1 x2 x3) (x0:ByteArray) (x1 x2 x3:Int):e58 jn m w58_3 [M2] (s58_5 x0 x1 x2 x3)=ref01_tail_j3 m rec2 x0 x1 x2 x3:=by
 have h:∀J,e58 J m w58_3 [M2] (s58_5 x0 x1 x2 x3)=
   ((idxS x0 (IntKind.wrap .i64 (x1+x3))).bind fun v0=>
  (bif (decide (v0<128)) then
  (J 0 7 0 (s58_4 x0 x1 x2 x3 true) (e58 J m w58_2 [M2] (s58_4 x0 x1 x2 x3 true)))
  else
  ((idxS x0 (IntKind.wrap .i64 (x1+x3))).bind fun v1=>
  (J 0 7 0 (s58_4 x0 x1 x2 x3 (decide (191<v1))) (e58 J m w58_2 [M2] (s58_4 x0 x1 x2 x3 (decide (191<v1)))))))):=fun J=>by kernel_rfl
 exact(h jn).trans (by
   simp only[jn_eq,ref01_tail_j4_eq m M2 rec2 h2]
   rfl)
theorem ref01_tail_j6_eq (m:Nat):e58 jn m [1,1,1] [] s58_6=ref01_tail_j6 m:=by
 have h:∀J,e58 J m [1,1,1] [] s58_6=
  some true:=fun J=>by kernel_rfl
 exact(h jn).trans (rfl)
theorem ref01_tail_l2_eq (m:Nat):∀(M2:Nat) (x0:ByteArray) (x1 x2 x3:Int),l58 jn m w58_0 [] M2 (s58_5 x0 x1 x2 x3)=ref01_tail_l2 m M2 x0 x1 x2 x3
 |0,_,_,_,_=>rfl
 | M2+1,x0,x1,x2,x3=>by
   have h:∀J,l58 J m w58_0 [] (M2+1) (s58_5 x0 x1 x2 x3)=
   (bif (decide (x3<x2)) then
  (J 0 6 0 (s58_5 x0 x1 x2 x3) (e58 J m w58_3 [M2] (s58_5 x0 x1 x2 x3)))
   else
  (J 0 8 0 s58_6 (e58 J m [1,1,1] [] s58_6))):=fun J=>by kernel_rfl
   refine(h jn).trans ?_
   simp only[jn_eq,ref01_tail_j3_eq m M2 (ref01_tail_l2 m M2) (fun x0 x1 x2 x3=>ref01_tail_l2_eq m M2 x0 x1 x2 x3),ref01_tail_j6_eq m]
   rfl
theorem ref01_tail_j1_eq (m:Nat) (x0:ByteArray) (x1 x2 x3:Int):e58 jn m [1,1,0,1] [] (s58_5 x0 x1 x2 x3)=ref01_tail_j1 m x0 x1 x2 x3:=by
 have h:∀J,e58 J m [1,1,0,1] [] (s58_5 x0 x1 x2 x3)=
  (J 1 4 (Nat.succ m) (s58_5 x0 x1 x2 x3) (l58 J m w58_0 [] (Nat.succ m) (s58_5 x0 x1 x2 x3))):=fun J=>by kernel_rfl
 exact(h jn).trans (by
  simp only[jn_eq,ref01_tail_l2_eq m]
  rfl)
theorem ref01_tail_j0_eq (m:Nat) (x0:ByteArray) (x1 x2:Int):e58 jn m [1,1] [] (s58_0 x0 x1 x2)=ref01_tail_j0 m x0 x1 x2:=by
 have h:∀J,e58 J m [1,1] [] (s58_0 x0 x1 x2)=
  (J 0 4 0 (s58_5 x0 x1 x2 0) (e58 J m [1,1,0,1] [] (s58_5 x0 x1 x2 0))):=fun J=>by kernel_rfl
 exact(h jn).trans (by
  simp only[jn_eq,ref01_tail_j1_eq m]
  rfl)
theorem ref01_tail_eq (m:Nat) (a0:ByteArray) (a1 a2:Int):e58 jn m [] [] ⟨[(.dat 9 (.str a0)),(.dat 3 (.int a1)),(.dat 3 (.int a2))],[],0⟩=ref01_tail (m+1) a0 a1 a2:=by
 have h:∀J,e58 J m [] [] ⟨[(.dat 9 (.str a0)),(.dat 3 (.int a1)),(.dat 3 (.int a2))],[],0⟩=
   (bif (decide ((ByteArray.size a0:Int)<(IntKind.wrap .i64 (a1+a2)))) then
  some false
   else
  (J 0 3 0 (s58_0 a0 a1 a2) (e58 J m [1,1] [] (s58_0 a0 a1 a2)))):=fun J=>by kernel_rfl
 refine(h jn).trans ?_
 simp only[jn_eq,ref01_tail_j0_eq m]
 rfl
noncomputable def d51 (q:Res):Option Bool:=match q with
 |(.dat T0 x0,[])=>bif Nat.beq T0 4 then some x0.toBool else none
 |_=>none
def w51_0:List Nat:=[1,0,1,0,0,1,0,1,1,1,1,1]
def w51_1:List Nat:=[1,0,1,0,0,1,0,1,1,1,1,0,1]
def w51_2:List Nat:=[1,0,1,0,0,1,0,1,1,1,1]
def w51_3:List Nat:=[1,0,1,0,0,1,0,1,1,1]
def w51_4:List Nat:=[1,0,1,0,0,1,0,1,1,0,0,1,1,1,1,1,1,1]
def w51_5:List Nat:=[1,0,1,0,0,1,0,1,1,0,0,1,1,1,1,1]
def w51_6:List Nat:=[1,0,1,0,0,1,0,1,1,0,0,1,1,1]
def w51_7:List Nat:=[1,0,1,0,0,1]
theorem d51_sim {b:Res} {r:Bool} (h:d51 b=some r):Sim Tryd.prog b ((.dat 4 (.bool r)),[]):=by
 unfold d51 at h
 split at h
 ·obtain⟨hc,h2⟩:=bif_some h
  cases h2
  have e0:=beq_eq hc
  subst e0
  exact Sim.of (.of (.dat (.bool Tryd.underlying4)) rfl rfl) .nil
 ·cases h
noncomputable def e51 (J:Nat→Nat→Nat→St→Option Bool→Option Bool) (m:Nat) (p ms:List Nat) (σ:St):=evAt Tryd.prog env (ct m) J (m+1) 35 89 Tryd.f35 d51 p ms σ
noncomputable def l51 (J:Nat→Nat→Nat→St→Option Bool→Option Bool) (m:Nat) (p ms:List Nat) (M:Nat) (σ:St):=loopAt Tryd.prog env (ct m) J (m+1) 35 89 Tryd.f35 d51 p ms M σ
noncomputable def s51_6 (x0:ByteArray) (x1 x2:Int):St:=⟨tsOf [(0,(.dat 9 (.str x0))),(3,(.dat 3 (.int x1))),(5,(.dat 3 (.int x2)))],[],0⟩
noncomputable def s51_5 (x0:ByteArray) (x1 x2:Int) (x3:Bool):St:=⟨tsOf [(0,(.dat 9 (.str x0))),(3,(.dat 3 (.int x1))),(5,(.dat 3 (.int x2))),(84,(.dat 4 (.bool x3)))],[],0⟩
noncomputable def s51_4 (x0:ByteArray) (x1 x2 x3:Int):St:=⟨tsOf [(0,(.dat 9 (.str x0))),(3,(.dat 3 (.int x1))),(4,(.dat 5 (.int x2))),(5,(.dat 3 (.int x3)))],[],0⟩
noncomputable def s51_9 (x0:ByteArray) (x1 x2:Int) (x3:Bool):St:=⟨tsOf [(0,(.dat 9 (.str x0))),(3,(.dat 3 (.int x1))),(4,(.dat 5 (.int x2))),(30,(.dat 4 (.bool x3)))],[],0⟩
noncomputable def s51_8 (x0:ByteArray) (x1 x2:Int) (x3:Bool):St:=⟨tsOf [(0,(.dat 9 (.str x0))),(3,(.dat 3 (.int x1))),(4,(.dat 5 (.int x2))),(23,(.dat 4 (.bool x3)))],[],0⟩
noncomputable def s51_7 (x0:ByteArray) (x1 x2:Int) (x3:Bool):St:=⟨tsOf [(0,(.dat 9 (.str x0))),(3,(.dat 3 (.int x1))),(4,(.dat 5 (.int x2))),(16,(.dat 4 (.bool x3)))],[],0⟩
noncomputable def s51_2 (x0:ByteArray) (x1:Int):St:=⟨tsOf [(0,(.dat 9 (.str x0))),(3,(.dat 3 (.int x1)))],[],0⟩
noncomputable def s51_10:St:=⟨tsOf [],[],0⟩
theorem ref01_UTF8_j6_eq (m:Nat) (M1:Nat) (rec1:ByteArray→Int→Option Bool) (h1:∀(x0:ByteArray) (x1:Int),l51 jn m [1,0,1,0] [] M1 (s51_2 x0 x1)=rec1 x0 x1) (x0:ByteArray) (x1 x2:Int):e51 jn m w51_0 [M1] (s51_6 x0 x1 x2)=ref01_UTF8_j6 m rec1 x0 x1 x2:=by
 have h:∀J,e51 J m w51_0 [M1] (s51_6 x0 x1 x2)=
  (J 1 2 M1 (s51_2 x0 (IntKind.wrap .i64 ((IntKind.wrap .i64 (x1+x2))+1))) (l51 J m [1,0,1,0] [] M1 (s51_2 x0 (IntKind.wrap .i64 ((IntKind.wrap .i64 (x1+x2))+1))))):=fun J=>by kernel_rfl
 exact(h jn).trans (by
  simp only[jn_eq,h1]
  rfl)
theorem ref01_UTF8_j5_eq (m:Nat) (M1:Nat) (rec1:ByteArray→Int→Option Bool) (h1:∀(x0:ByteArray) (x1:Int),l51 jn m [1,0,1,0] [] M1 (s51_2 x0 x1)=rec1 x0 x1) (x0:ByteArray) (x1 x2:Int) (x3:Bool):e51 jn m w51_1 [M1] (s51_5 x0 x1 x2 x3)=ref01_UTF8_j5 m rec1 x0 x1 x2 x3:=by
 have h:∀J,e51 J m w51_1 [M1] (s51_5 x0 x1 x2 x3)=
   (bif x3 then
  some false
   else
  (J 0 17 0 (s51_6 x0 x1 x2) (e51 J m w51_0 [M1] (s51_6 x0 x1 x2)))):=fun J=>by kernel_rfl
 exact(h jn).trans (by
   simp only[jn_eq,ref01_UTF8_j6_eq m M1 rec1 h1]
   rfl)
theorem ref01_UTF8_j4_eq (m:Nat) (M1:Nat) (rec1:ByteArray→Int→Option Bool) (h1:∀(x0:ByteArray) (x1:Int),l51 jn m [1,0,1,0] [] M1 (s51_2 x0 x1)=rec1 x0 x1) (x0:ByteArray) (x1 x2 x3:Int):e51 jn m w51_2 [M1] (s51_4 x0 x1 x2 x3)=ref01_UTF8_j4 m rec1 x0 x1 x2 x3:=by
 have h:∀J,e51 J m w51_2 [M1] (s51_4 x0 x1 x2 x3)=
   (bif (x2==224) then
  ((idxS x0 (IntKind.wrap .i64 (x1+1))).bind fun v2=>
  (bif (decide (v2<160)) then
  (J 0 16 0 (s51_5 x0 x1 x3 true) (e51 J m w51_1 [M1] (s51_5 x0 x1 x3 true)))
  else
  (bif (x2==237) then
  ((idxS x0 (IntKind.wrap .i64 (x1+1))).bind fun v3=>
  (bif (decide (159<v3)) then
  (J 0 16 0 (s51_5 x0 x1 x3 true) (e51 J m w51_1 [M1] (s51_5 x0 x1 x3 true)))
  else
  (bif (x2==240) then
  ((idxS x0 (IntKind.wrap .i64 (x1+1))).bind fun v4=>
  (bif (decide (v4<144)) then
  (J 0 16 0 (s51_5 x0 x1 x3 true) (e51 J m w51_1 [M1] (s51_5 x0 x1 x3 true)))
  else
  (bif (x2==244) then
  ((idxS x0 (IntKind.wrap .i64 (x1+1))).bind fun v5=>
  (J 0 16 0 (s51_5 x0 x1 x3 (decide (143<v5))) (e51 J m w51_1 [M1] (s51_5 x0 x1 x3 (decide (143<v5))))))
  else
  (J 0 16 0 (s51_5 x0 x1 x3 false) (e51 J m w51_1 [M1] (s51_5 x0 x1 x3 false))))))
  else
  (bif (x2==244) then
  ((idxS x0 (IntKind.wrap .i64 (x1+1))).bind fun v6=>
  (J 0 16 0 (s51_5 x0 x1 x3 (decide (143<v6))) (e51 J m w51_1 [M1] (s51_5 x0 x1 x3 (decide (143<v6))))))
  else
  (J 0 16 0 (s51_5 x0 x1 x3 false) (e51 J m w51_1 [M1] (s51_5 x0 x1 x3 false)))))))
  else
  (bif (x2==240) then
  ((idxS x0 (IntKind.wrap .i64 (x1+1))).bind fun v7=>
  (bif (decide (v7<144)) then
  (J 0 16 0 (s51_5 x0 x1 x3 true) (e51 J m w51_1 [M1] (s51_5 x0 x1 x3 true)))
  else
  (bif (x2==244) then
  ((idxS x0 (IntKind.wrap .i64 (x1+1))).bind fun v8=>
  (J 0 16 0 (s51_5 x0 x1 x3 (decide (143<v8))) (e51 J m w51_1 [M1] (s51_5 x0 x1 x3 (decide (143<v8))))))
  else
  (J 0 16 0 (s51_5 x0 x1 x3 false) (e51 J m w51_1 [M1] (s51_5 x0 x1 x3 false))))))
  else
  (bif (x2==244) then
  ((idxS x0 (IntKind.wrap .i64 (x1+1))).bind fun v9=>
  (J 0 16 0 (s51_5 x0 x1 x3 (decide (143<v9))) (e51 J m w51_1 [M1] (s51_5 x0 x1 x3 (decide (143<v9))))))
  else
  (J 0 16 0 (s51_5 x0 x1 x3 false) (e51 J m w51_1 [M1] (s51_5 x0 x1 x3 false))))))))
   else
  (bif (x2==237) then
  ((idxS x0 (IntKind.wrap .i64 (x1+1))).bind fun v10=>
  (bif (decide (159<v10)) then
  (J 0 16 0 (s51_5 x0 x1 x3 true) (e51 J m w51_1 [M1] (s51_5 x0 x1 x3 true)))
  else
  (bif (x2==240) then
  ((idxS x0 (IntKind.wrap .i64 (x1+1))).bind fun v11=>
  (bif (decide (v11<144)) then
  (J 0 16 0 (s51_5 x0 x1 x3 true) (e51 J m w51_1 [M1] (s51_5 x0 x1 x3 true)))
  else
  (bif (x2==244) then
  ((idxS x0 (IntKind.wrap .i64 (x1+1))).bind fun v12=>
  (J 0 16 0 (s51_5 x0 x1 x3 (decide (143<v12))) (e51 J m w51_1 [M1] (s51_5 x0 x1 x3 (decide (143<v12))))))
  else
  (J 0 16 0 (s51_5 x0 x1 x3 false) (e51 J m w51_1 [M1] (s51_5 x0 x1 x3 false))))))
  else
  (bif (x2==244) then
  ((idxS x0 (IntKind.wrap .i64 (x1+1))).bind fun v13=>
  (J 0 16 0 (s51_5 x0 x1 x3 (decide (143<v13))) (e51 J m w51_1 [M1] (s51_5 x0 x1 x3 (decide (143<v13))))))
  else
  (J 0 16 0 (s51_5 x0 x1 x3 false) (e51 J m w51_1 [M1] (s51_5 x0 x1 x3 false)))))))
  else
  (bif (x2==240) then
  ((idxS x0 (IntKind.wrap .i64 (x1+1))).bind fun v14=>
  (bif (decide (v14<144)) then
  (J 0 16 0 (s51_5 x0 x1 x3 true) (e51 J m w51_1 [M1] (s51_5 x0 x1 x3 true)))
  else
  (bif (x2==244) then
  ((idxS x0 (IntKind.wrap .i64 (x1+1))).bind fun v15=>
  (J 0 16 0 (s51_5 x0 x1 x3 (decide (143<v15))) (e51 J m w51_1 [M1] (s51_5 x0 x1 x3 (decide (143<v15))))))
  else
  (J 0 16 0 (s51_5 x0 x1 x3 false) (e51 J m w51_1 [M1] (s51_5 x0 x1 x3 false))))))
  else
  (bif (x2==244) then
  ((idxS x0 (IntKind.wrap .i64 (x1+1))).bind fun v16=>
  (J 0 16 0 (s51_5 x0 x1 x3 (decide (143<v16))) (e51 J m w51_1 [M1] (s51_5 x0 x1 x3 (decide (143<v16))))))
  else
  (J 0 16 0 (s51_5 x0 x1 x3 false) (e51 J m w51_1 [M1] (s51_5 x0 x1 x3 false))))))):=fun J=>by kernel_rfl
 exact(h jn).trans (by
   simp only[jn_eq,ref01_UTF8_j5_eq m M1 rec1 h1]
   rfl)
theorem ref01_UTF8_j3_eq (m:Nat) (M1:Nat) (rec1:ByteArray→Int→Option Bool) (h1:∀(x0:ByteArray) (x1:Int),l51 jn m [1,0,1,0] [] M1 (s51_2 x0 x1)=rec1 x0 x1) (x0:ByteArray) (x1 x2 x3:Int):e51 jn m w51_3 [M1] (s51_4 x0 x1 x2 x3)=ref01_UTF8_j3 m rec1 x0 x1 x2 x3:=by
 have h:∀J,e51 J m w51_3 [M1] (s51_4 x0 x1 x2 x3)=
   ((ref01_tail m x0 (IntKind.wrap .i64 (x1+1)) x3).bind fun r1=>
  (bif (Bool.not r1) then
  some false
  else
  (J 0 15 0 (s51_4 x0 x1 x2 x3) (e51 J m w51_2 [M1] (s51_4 x0 x1 x2 x3))))):=fun J=>by kernel_rfl
 exact(h jn).trans (by
   simp only[jn_eq,ref01_UTF8_j4_eq m M1 rec1 h1]
   rfl)
theorem ref01_UTF8_j9_eq (m:Nat) (M1:Nat) (rec1:ByteArray→Int→Option Bool) (h1:∀(x0:ByteArray) (x1:Int),l51 jn m [1,0,1,0] [] M1 (s51_2 x0 x1)=rec1 x0 x1) (x0:ByteArray) (x1 x2:Int) (x3:Bool):e51 jn m w51_4 [M1] (s51_9 x0 x1 x2 x3)=ref01_UTF8_j9 m rec1 x0 x1 x2 x3:=by
 have h:∀J,e51 J m w51_4 [M1] (s51_9 x0 x1 x2 x3)=
   (bif x3 then
  (J 0 13 0 (s51_4 x0 x1 x2 3) (e51 J m w51_3 [M1] (s51_4 x0 x1 x2 3)))
   else
  some false):=fun J=>by kernel_rfl
 exact(h jn).trans (by
   simp only[jn_eq,ref01_UTF8_j3_eq m M1 rec1 h1]
   rfl)
theorem ref01_UTF8_j8_eq (m:Nat) (M1:Nat) (rec1:ByteArray→Int→Option Bool) (h1:∀(x0:ByteArray) (x1:Int),l51 jn m [1,0,1,0] [] M1 (s51_2 x0 x1)=rec1 x0 x1) (x0:ByteArray) (x1 x2:Int) (x3:Bool):e51 jn m w51_5 [M1] (s51_8 x0 x1 x2 x3)=ref01_UTF8_j8 m rec1 x0 x1 x2 x3:=by
 have h:∀J,e51 J m w51_5 [M1] (s51_8 x0 x1 x2 x3)=
   (bif x3 then
  (J 0 13 0 (s51_4 x0 x1 x2 2) (e51 J m w51_3 [M1] (s51_4 x0 x1 x2 2)))
   else
  (bif (decide (240≤x2)) then
  (J 0 12 0 (s51_9 x0 x1 x2 (decide (x2≤244))) (e51 J m w51_4 [M1] (s51_9 x0 x1 x2 (decide (x2≤244)))))
  else
  (J 0 12 0 (s51_9 x0 x1 x2 false) (e51 J m w51_4 [M1] (s51_9 x0 x1 x2 false))))):=fun J=>by kernel_rfl
 exact(h jn).trans (by
   simp only[jn_eq,ref01_UTF8_j3_eq m M1 rec1 h1,ref01_UTF8_j9_eq m M1 rec1 h1]
   rfl)
theorem ref01_UTF8_j7_eq (m:Nat) (M1:Nat) (rec1:ByteArray→Int→Option Bool) (h1:∀(x0:ByteArray) (x1:Int),l51 jn m [1,0,1,0] [] M1 (s51_2 x0 x1)=rec1 x0 x1) (x0:ByteArray) (x1 x2:Int) (x3:Bool):e51 jn m w51_6 [M1] (s51_7 x0 x1 x2 x3)=ref01_UTF8_j7 m rec1 x0 x1 x2 x3:=by
 have h:∀J,e51 J m w51_6 [M1] (s51_7 x0 x1 x2 x3)=
   (bif x3 then
  (J 0 13 0 (s51_4 x0 x1 x2 1) (e51 J m w51_3 [M1] (s51_4 x0 x1 x2 1)))
   else
  (bif (decide (224≤x2)) then
  (J 0 10 0 (s51_8 x0 x1 x2 (decide (x2≤239))) (e51 J m w51_5 [M1] (s51_8 x0 x1 x2 (decide (x2≤239)))))
  else
  (J 0 10 0 (s51_8 x0 x1 x2 false) (e51 J m w51_5 [M1] (s51_8 x0 x1 x2 false))))):=fun J=>by kernel_rfl
 exact(h jn).trans (by
   simp only[jn_eq,ref01_UTF8_j3_eq m M1 rec1 h1,ref01_UTF8_j8_eq m M1 rec1 h1]
   rfl)
theorem ref01_UTF8_j2_eq (m:Nat) (M1:Nat) (rec1:ByteArray→Int→Option Bool) (h1:∀(x0:ByteArray) (x1:Int),l51 jn m [1,0,1,0] [] M1 (s51_2 x0 x1)=rec1 x0 x1) (x0:ByteArray) (x1:Int):e51 jn m w51_7 [M1] (s51_2 x0 x1)=ref01_UTF8_j2 m rec1 x0 x1:=by
 have h:∀J,e51 J m w51_7 [M1] (s51_2 x0 x1)=
   ((idxS x0 x1).bind fun v0=>
  (bif (decide (v0<128)) then
  (J 0 13 0 (s51_4 x0 x1 v0 0) (e51 J m w51_3 [M1] (s51_4 x0 x1 v0 0)))
  else
  (bif (decide (194≤v0)) then
  (J 0 8 0 (s51_7 x0 x1 v0 (decide (v0≤223))) (e51 J m w51_6 [M1] (s51_7 x0 x1 v0 (decide (v0≤223)))))
  else
  (J 0 8 0 (s51_7 x0 x1 v0 false) (e51 J m w51_6 [M1] (s51_7 x0 x1 v0 false)))))):=fun J=>by kernel_rfl
 exact(h jn).trans (by
   simp only[jn_eq,ref01_UTF8_j3_eq m M1 rec1 h1,ref01_UTF8_j7_eq m M1 rec1 h1]
   rfl)
theorem ref01_UTF8_j10_eq (m:Nat):e51 jn m [1,1] [] s51_10=ref01_UTF8_j10 m:=by
 have h:∀J,e51 J m [1,1] [] s51_10=
  some true:=fun J=>by kernel_rfl
 exact(h jn).trans (rfl)
theorem ref01_UTF8_l1_eq (m:Nat):∀(M1:Nat) (x0:ByteArray) (x1:Int),l51 jn m [1,0,1,0] [] M1 (s51_2 x0 x1)=ref01_UTF8_l1 m M1 x0 x1
 |0,_,_=>rfl
 | M1+1,x0,x1=>by
   have h:∀J,l51 J m [1,0,1,0] [] (M1+1) (s51_2 x0 x1)=
   (bif (decide (x1<(ByteArray.size x0:Int))) then
  (J 0 3 0 (s51_2 x0 x1) (e51 J m w51_7 [M1] (s51_2 x0 x1)))
   else
  (J 0 18 0 s51_10 (e51 J m [1,1] [] s51_10))):=fun J=>by kernel_rfl
   refine(h jn).trans ?_
   simp only[jn_eq,ref01_UTF8_j2_eq m M1 (ref01_UTF8_l1 m M1) (fun x0 x1=>ref01_UTF8_l1_eq m M1 x0 x1),ref01_UTF8_j10_eq m]
   rfl
theorem ref01_UTF8_j0_eq (m:Nat) (x0:ByteArray) (x1:Int):e51 jn m [1,0,1] [] (s51_2 x0 x1)=ref01_UTF8_j0 m x0 x1:=by
 have h:∀J,e51 J m [1,0,1] [] (s51_2 x0 x1)=
  (J 1 2 (Nat.succ m) (s51_2 x0 x1) (l51 J m [1,0,1,0] [] (Nat.succ m) (s51_2 x0 x1))):=fun J=>by kernel_rfl
 exact(h jn).trans (by
  simp only[jn_eq,ref01_UTF8_l1_eq m]
  rfl)
theorem ref01_UTF8_eq (m:Nat) (a0:ByteArray):e51 jn m [] [] ⟨[(.dat 9 (.str a0))],[],0⟩=ref01_UTF8 (m+1) a0:=by
 have h:∀J,e51 J m [] [] ⟨[(.dat 9 (.str a0))],[],0⟩=
  (J 0 2 0 (s51_2 a0 0) (e51 J m [1,0,1] [] (s51_2 a0 0))):=fun J=>by kernel_rfl
 refine(h jn).trans ?_
 simp only[jn_eq,ref01_UTF8_j0_eq m]
 rfl
noncomputable def d59 (q:Res):Option Bool:=match q with
 |(.dat T0 x0,[])=>bif Nat.beq T0 4 then some x0.toBool else none
 |_=>none
def w59_0:List Nat:=[1,1,0,1,0]
def w59_1:List Nat:=[1,1,0,1,0,0,1,1]
def w59_2:List Nat:=[1,1,0,1,0,0,1,0,0,1]
def w59_3:List Nat:=[1,1,0,1,0,0,1]
theorem d59_sim {b:Res} {r:Bool} (h:d59 b=some r):Sim Tryd.prog b ((.dat 4 (.bool r)),[]):=by
 unfold d59 at h
 split at h
 ·obtain⟨hc,h2⟩:=bif_some h
  cases h2
  have e0:=beq_eq hc
  subst e0
  exact Sim.of (.of (.dat (.bool Tryd.underlying4)) rfl rfl) .nil
 ·cases h
noncomputable def e59 (J:Nat→Nat→Nat→St→Option Bool→Option Bool) (m:Nat) (p ms:List Nat) (σ:St):=evAt Tryd.prog env (ct m) J (m+1) 62 39 Tryd.f62 d59 p ms σ
noncomputable def l59 (J:Nat→Nat→Nat→St→Option Bool→Option Bool) (m:Nat) (p ms:List Nat) (M:Nat) (σ:St):=loopAt Tryd.prog env (ct m) J (m+1) 62 39 Tryd.f62 d59 p ms M σ
noncomputable def s59_6 (x0:ByteArray) (x1:Int):St:=⟨tsOf [(0,(.dat 9 (.str x0))),(3,(.dat 3 (.int x1)))],[],0⟩
noncomputable def s59_5 (x0:ByteArray) (x1:Int) (x2:Bool):St:=⟨tsOf [(0,(.dat 9 (.str x0))),(3,(.dat 3 (.int x1))),(38,(.dat 4 (.bool x2)))],[],0⟩
noncomputable def s59_7:St:=⟨tsOf [],[],0⟩
noncomputable def s59_1 (x0:ByteArray):St:=⟨tsOf [(0,(.dat 9 (.str x0)))],[],0⟩
noncomputable def s59_0 (x0:ByteArray) (x1:Bool):St:=⟨tsOf [(0,(.dat 9 (.str x0))),(16,(.dat 4 (.bool x1)))],[],0⟩
theorem ref01_Name_j6_eq (m:Nat) (M3:Nat) (rec3:ByteArray→Int→Option Bool) (h3:∀(x0:ByteArray) (x1:Int),l59 jn m w59_0 [] M3 (s59_6 x0 x1)=rec3 x0 x1) (x0:ByteArray) (x1:Int):e59 jn m w59_1 [M3] (s59_6 x0 x1)=ref01_Name_j6 m rec3 x0 x1:=by
 have h:∀J,e59 J m w59_1 [M3] (s59_6 x0 x1)=
  (J 1 4 M3 (s59_6 x0 (IntKind.wrap .i64 (x1+1))) (l59 J m w59_0 [] M3 (s59_6 x0 (IntKind.wrap .i64 (x1+1))))):=fun J=>by kernel_rfl
 exact(h jn).trans (by
  simp only[jn_eq,h3]
  rfl)
theorem ref01_Name_j5_eq (m:Nat) (M3:Nat) (rec3:ByteArray→Int→Option Bool) (h3:∀(x0:ByteArray) (x1:Int),l59 jn m w59_0 [] M3 (s59_6 x0 x1)=rec3 x0 x1) (x0:ByteArray) (x1:Int) (x2:Bool):e59 jn m w59_2 [M3] (s59_5 x0 x1 x2)=ref01_Name_j5 m rec3 x0 x1 x2:=by
 have h:∀J,e59 J m w59_2 [M3] (s59_5 x0 x1 x2)=
   (bif x2 then
  some false
   else
  (J 0 5 0 (s59_6 x0 x1) (e59 J m w59_1 [M3] (s59_6 x0 x1)))):=fun J=>by kernel_rfl
 exact(h jn).trans (by
   simp only[jn_eq,ref01_Name_j6_eq m M3 rec3 h3]
   rfl)
theorem ref01_Name_j4_eq (m:Nat) (M3:Nat) (rec3:ByteArray→Int→Option Bool) (h3:∀(x0:ByteArray) (x1:Int),l59 jn m w59_0 [] M3 (s59_6 x0 x1)=rec3 x0 x1) (x0:ByteArray) (x1:Int):e59 jn m w59_3 [M3] (s59_6 x0 x1)=ref01_Name_j4 m rec3 x0 x1:=by
 have h:∀J,e59 J m w59_3 [M3] (s59_6 x0 x1)=
   ((idxS x0 x1).bind fun v0=>
  (bif (decide (v0<33)) then
  (J 0 7 0 (s59_5 x0 x1 true) (e59 J m w59_2 [M3] (s59_5 x0 x1 true)))
  else
  ((idxS x0 x1).bind fun v1=>
  (bif (decide (126<v1)) then
  (J 0 7 0 (s59_5 x0 x1 true) (e59 J m w59_2 [M3] (s59_5 x0 x1 true)))
  else
  ((idxS x0 x1).bind fun v2=>
  (J 0 7 0 (s59_5 x0 x1 (v2==46)) (e59 J m w59_2 [M3] (s59_5 x0 x1 (v2==46))))))))):=fun J=>by kernel_rfl
 exact(h jn).trans (by
   simp only[jn_eq,ref01_Name_j5_eq m M3 rec3 h3]
   rfl)
theorem ref01_Name_j7_eq (m:Nat):e59 jn m [1,1,1] [] s59_7=ref01_Name_j7 m:=by
 have h:∀J,e59 J m [1,1,1] [] s59_7=
  some true:=fun J=>by kernel_rfl
 exact(h jn).trans (rfl)
theorem ref01_Name_l3_eq (m:Nat):∀(M3:Nat) (x0:ByteArray) (x1:Int),l59 jn m w59_0 [] M3 (s59_6 x0 x1)=ref01_Name_l3 m M3 x0 x1
 |0,_,_=>rfl
 | M3+1,x0,x1=>by
   have h:∀J,l59 J m w59_0 [] (M3+1) (s59_6 x0 x1)=
   (bif (decide (x1<(ByteArray.size x0:Int))) then
  (J 0 6 0 (s59_6 x0 x1) (e59 J m w59_3 [M3] (s59_6 x0 x1)))
   else
  (J 0 8 0 s59_7 (e59 J m [1,1,1] [] s59_7))):=fun J=>by kernel_rfl
   refine(h jn).trans ?_
   simp only[jn_eq,ref01_Name_j4_eq m M3 (ref01_Name_l3 m M3) (fun x0 x1=>ref01_Name_l3_eq m M3 x0 x1),ref01_Name_j7_eq m]
   rfl
theorem ref01_Name_j2_eq (m:Nat) (x0:ByteArray) (x1:Int):e59 jn m [1,1,0,1] [] (s59_6 x0 x1)=ref01_Name_j2 m x0 x1:=by
 have h:∀J,e59 J m [1,1,0,1] [] (s59_6 x0 x1)=
  (J 1 4 (Nat.succ m) (s59_6 x0 x1) (l59 J m w59_0 [] (Nat.succ m) (s59_6 x0 x1))):=fun J=>by kernel_rfl
 exact(h jn).trans (by
  simp only[jn_eq,ref01_Name_l3_eq m]
  rfl)
theorem ref01_Name_j1_eq (m:Nat) (x0:ByteArray):e59 jn m [1,1] [] (s59_1 x0)=ref01_Name_j1 m x0:=by
 have h:∀J,e59 J m [1,1] [] (s59_1 x0)=
  (J 0 4 0 (s59_6 x0 0) (e59 J m [1,1,0,1] [] (s59_6 x0 0))):=fun J=>by kernel_rfl
 exact(h jn).trans (by
  simp only[jn_eq,ref01_Name_j2_eq m]
  rfl)
theorem ref01_Name_j0_eq (m:Nat) (x0:ByteArray) (x1:Bool):e59 jn m [1,0,1] [] (s59_0 x0 x1)=ref01_Name_j0 m x0 x1:=by
 have h:∀J,e59 J m [1,0,1] [] (s59_0 x0 x1)=
   (bif x1 then
  some false
   else
  (J 0 3 0 (s59_1 x0) (e59 J m [1,1] [] (s59_1 x0)))):=fun J=>by kernel_rfl
 exact(h jn).trans (by
   simp only[jn_eq,ref01_Name_j1_eq m]
   rfl)
theorem ref01_Name_eq (m:Nat) (a0:ByteArray):e59 jn m [] [] ⟨[(.dat 9 (.str a0))],[],0⟩=ref01_Name (m+1) a0:=by
 have h:∀J,e59 J m [] [] ⟨[(.dat 9 (.str a0))],[],0⟩=
   (bif (decide ((ByteArray.size a0:Int)<1)) then
  (J 0 2 0 (s59_0 a0 true) (e59 J m [1,0,1] [] (s59_0 a0 true)))
   else
  (bif (decide (32<(ByteArray.size a0:Int))) then
  (J 0 2 0 (s59_0 a0 true) (e59 J m [1,0,1] [] (s59_0 a0 true)))
  else
  ((idxS a0 0).bind fun v3=>
  (J 0 2 0 (s59_0 a0 (v3==36)) (e59 J m [1,0,1] [] (s59_0 a0 (v3==36))))))):=fun J=>by kernel_rfl
 refine(h jn).trans ?_
 simp only[jn_eq,ref01_Name_j0_eq m]
 rfl
noncomputable def d60 (q:Res):Option Bool:=match q with
 |(.dat T0 x0,[])=>bif Nat.beq T0 4 then some x0.toBool else none
 |_=>none
def w60_0:List Nat:=[1,1,0,1,0]
def w60_1:List Nat:=[1,1,0,1,0,0,1,1]
def w60_2:List Nat:=[1,1,0,1,0,0,1,0,0,1]
def w60_3:List Nat:=[1,1,0,1,0,0,1]
theorem d60_sim {b:Res} {r:Bool} (h:d60 b=some r):Sim Tryd.prog b ((.dat 4 (.bool r)),[]):=by
 unfold d60 at h
 split at h
 ·obtain⟨hc,h2⟩:=bif_some h
  cases h2
  have e0:=beq_eq hc
  subst e0
  exact Sim.of (.of (.dat (.bool Tryd.underlying4)) rfl rfl) .nil
 ·cases h
noncomputable def e60 (J:Nat→Nat→Nat→St→Option Bool→Option Bool) (m:Nat) (p ms:List Nat) (σ:St):=evAt Tryd.prog env (ct m) J (m+1) 63 28 Tryd.f63 d60 p ms σ
noncomputable def l60 (J:Nat→Nat→Nat→St→Option Bool→Option Bool) (m:Nat) (p ms:List Nat) (M:Nat) (σ:St):=loopAt Tryd.prog env (ct m) J (m+1) 63 28 Tryd.f63 d60 p ms M σ
noncomputable def s60_6 (x0:ByteArray) (x1:Int):St:=⟨tsOf [(0,(.dat 9 (.str x0))),(3,(.dat 3 (.int x1)))],[],0⟩
noncomputable def s60_5 (x0:ByteArray) (x1:Int) (x2:Bool):St:=⟨tsOf [(0,(.dat 9 (.str x0))),(3,(.dat 3 (.int x1))),(27,(.dat 4 (.bool x2)))],[],0⟩
noncomputable def s60_7:St:=⟨tsOf [],[],0⟩
noncomputable def s60_1 (x0:ByteArray):St:=⟨tsOf [(0,(.dat 9 (.str x0)))],[],0⟩
noncomputable def s60_0 (x0:ByteArray) (x1:Bool):St:=⟨tsOf [(0,(.dat 9 (.str x0))),(11,(.dat 4 (.bool x1)))],[],0⟩
theorem ref01_wide_j6_eq (m:Nat) (M3:Nat) (rec3:ByteArray→Int→Option Bool) (h3:∀(x0:ByteArray) (x1:Int),l60 jn m w60_0 [] M3 (s60_6 x0 x1)=rec3 x0 x1) (x0:ByteArray) (x1:Int):e60 jn m w60_1 [M3] (s60_6 x0 x1)=ref01_wide_j6 m rec3 x0 x1:=by
 have h:∀J,e60 J m w60_1 [M3] (s60_6 x0 x1)=
  (J 1 4 M3 (s60_6 x0 (IntKind.wrap .i64 (x1+1))) (l60 J m w60_0 [] M3 (s60_6 x0 (IntKind.wrap .i64 (x1+1))))):=fun J=>by kernel_rfl
 exact(h jn).trans (by
  simp only[jn_eq,h3]
  rfl)
theorem ref01_wide_j5_eq (m:Nat) (M3:Nat) (rec3:ByteArray→Int→Option Bool) (h3:∀(x0:ByteArray) (x1:Int),l60 jn m w60_0 [] M3 (s60_6 x0 x1)=rec3 x0 x1) (x0:ByteArray) (x1:Int) (x2:Bool):e60 jn m w60_2 [M3] (s60_5 x0 x1 x2)=ref01_wide_j5 m rec3 x0 x1 x2:=by
 have h:∀J,e60 J m w60_2 [M3] (s60_5 x0 x1 x2)=
   (bif x2 then
  some false
   else
  (J 0 5 0 (s60_6 x0 x1) (e60 J m w60_1 [M3] (s60_6 x0 x1)))):=fun J=>by kernel_rfl
 exact(h jn).trans (by
   simp only[jn_eq,ref01_wide_j6_eq m M3 rec3 h3]
   rfl)
theorem ref01_wide_j4_eq (m:Nat) (M3:Nat) (rec3:ByteArray→Int→Option Bool) (h3:∀(x0:ByteArray) (x1:Int),l60 jn m w60_0 [] M3 (s60_6 x0 x1)=rec3 x0 x1) (x0:ByteArray) (x1:Int):e60 jn m w60_3 [M3] (s60_6 x0 x1)=ref01_wide_j4 m rec3 x0 x1:=by
 have h:∀J,e60 J m w60_3 [M3] (s60_6 x0 x1)=
   ((idxS x0 x1).bind fun v0=>
  (bif (decide (v0<32)) then
  (J 0 7 0 (s60_5 x0 x1 true) (e60 J m w60_2 [M3] (s60_5 x0 x1 true)))
  else
  ((idxS x0 x1).bind fun v1=>
  (J 0 7 0 (s60_5 x0 x1 (decide (126<v1))) (e60 J m w60_2 [M3] (s60_5 x0 x1 (decide (126<v1)))))))):=fun J=>by kernel_rfl
 exact(h jn).trans (by
   simp only[jn_eq,ref01_wide_j5_eq m M3 rec3 h3]
   rfl)
theorem ref01_wide_j7_eq (m:Nat):e60 jn m [1,1,1] [] s60_7=ref01_wide_j7 m:=by
 have h:∀J,e60 J m [1,1,1] [] s60_7=
  some true:=fun J=>by kernel_rfl
 exact(h jn).trans (rfl)
theorem ref01_wide_l3_eq (m:Nat):∀(M3:Nat) (x0:ByteArray) (x1:Int),l60 jn m w60_0 [] M3 (s60_6 x0 x1)=ref01_wide_l3 m M3 x0 x1
 |0,_,_=>rfl
 | M3+1,x0,x1=>by
   have h:∀J,l60 J m w60_0 [] (M3+1) (s60_6 x0 x1)=
   (bif (decide (x1<(ByteArray.size x0:Int))) then
  (J 0 6 0 (s60_6 x0 x1) (e60 J m w60_3 [M3] (s60_6 x0 x1)))
   else
  (J 0 8 0 s60_7 (e60 J m [1,1,1] [] s60_7))):=fun J=>by kernel_rfl
   refine(h jn).trans ?_
   simp only[jn_eq,ref01_wide_j4_eq m M3 (ref01_wide_l3 m M3) (fun x0 x1=>ref01_wide_l3_eq m M3 x0 x1),ref01_wide_j7_eq m]
   rfl
theorem ref01_wide_j2_eq (m:Nat) (x0:ByteArray) (x1:Int):e60 jn m [1,1,0,1] [] (s60_6 x0 x1)=ref01_wide_j2 m x0 x1:=by
 have h:∀J,e60 J m [1,1,0,1] [] (s60_6 x0 x1)=
  (J 1 4 (Nat.succ m) (s60_6 x0 x1) (l60 J m w60_0 [] (Nat.succ m) (s60_6 x0 x1))):=fun J=>by kernel_rfl
 exact(h jn).trans (by
  simp only[jn_eq,ref01_wide_l3_eq m]
  rfl)
theorem ref01_wide_j1_eq (m:Nat) (x0:ByteArray):e60 jn m [1,1] [] (s60_1 x0)=ref01_wide_j1 m x0:=by
 have h:∀J,e60 J m [1,1] [] (s60_1 x0)=
  (J 0 4 0 (s60_6 x0 0) (e60 J m [1,1,0,1] [] (s60_6 x0 0))):=fun J=>by kernel_rfl
 exact(h jn).trans (by
  simp only[jn_eq,ref01_wide_j2_eq m]
  rfl)
theorem ref01_wide_j0_eq (m:Nat) (x0:ByteArray) (x1:Bool):e60 jn m [1,0,1] [] (s60_0 x0 x1)=ref01_wide_j0 m x0 x1:=by
 have h:∀J,e60 J m [1,0,1] [] (s60_0 x0 x1)=
   (bif x1 then
  some false
   else
  (J 0 3 0 (s60_1 x0) (e60 J m [1,1] [] (s60_1 x0)))):=fun J=>by kernel_rfl
 exact(h jn).trans (by
   simp only[jn_eq,ref01_wide_j1_eq m]
   rfl)
theorem ref01_wide_eq (m:Nat) (a0:ByteArray):e60 jn m [] [] ⟨[(.dat 9 (.str a0))],[],0⟩=ref01_wide (m+1) a0:=by
 have h:∀J,e60 J m [] [] ⟨[(.dat 9 (.str a0))],[],0⟩=
   (bif (decide ((ByteArray.size a0:Int)<1)) then
  (J 0 2 0 (s60_0 a0 true) (e60 J m [1,0,1] [] (s60_0 a0 true)))
   else
  (J 0 2 0 (s60_0 a0 (decide (128<(ByteArray.size a0:Int)))) (e60 J m [1,0,1] [] (s60_0 a0 (decide (128<(ByteArray.size a0:Int))))))):=fun J=>by kernel_rfl
 refine(h jn).trans ?_
 simp only[jn_eq,ref01_wide_j0_eq m]
 rfl
noncomputable def d33 (q:Res):Option Bool:=match q with
 |(.dat T0 x0,[])=>bif Nat.beq T0 4 then some x0.toBool else none
 |_=>none
def w33_0:List Nat:=[1,1,1,1,1,1,0,1,0]
def w33_1:List Nat:=[1,1,1,1,1,1,0,1,0,0,1,1]
def w33_2:List Nat:=[1,1,1,1,1,1,0,1,0,0,1]
def w33_3:List Nat:=[1,1,1,1,1,1,1]
def w33_4:List Nat:=[1,1,1,1,1,1,0,1]
def w33_5:List Nat:=[1,1,1,1,1,1]
def w33_6:List Nat:=[1,1,1,1,1]
def w33_7:List Nat:=[1,1,1,1,0,1]
theorem d33_sim {b:Res} {r:Bool} (h:d33 b=some r):Sim Tryd.prog b ((.dat 4 (.bool r)),[]):=by
 unfold d33 at h
 split at h
 ·obtain⟨hc,h2⟩:=bif_some h
  cases h2
  have e0:=beq_eq hc
  subst e0
  exact Sim.of (.of (.dat (.bool Tryd.underlying4)) rfl rfl) .nil
 ·cases h
noncomputable def e33 (J:Nat→Nat→Nat→St→Option Bool→Option Bool) (m:Nat) (p ms:List Nat) (σ:St):=evAt Tryd.prog env (ct m) J (m+1) 24 138 Tryd.f24 d33 p ms σ
noncomputable def l33 (J:Nat→Nat→Nat→St→Option Bool→Option Bool) (m:Nat) (p ms:List Nat) (M:Nat) (σ:St):=loopAt Tryd.prog env (ct m) J (m+1) 24 138 Tryd.f24 d33 p ms M σ
noncomputable def s33_10 (x0:Bool) (x1:Int) (x2:Dt):St:=⟨tsOf [(1,(.dat 4 (.bool x0))),(2,(.ptr 0 [] 0)),(7,(.dat 3 (.int x1)))],[(.box 25 (.dat 25 x2))],0⟩
noncomputable def s33_11 (x0:Bool) (x1:Dt):St:=⟨tsOf [(1,(.dat 4 (.bool x0))),(2,(.ptr 0 [] 0))],[(.box 25 (.dat 25 x1))],0⟩
noncomputable def s33_4 (x0 x1:Bool) (x2:Dt):St:=⟨tsOf [(1,(.dat 4 (.bool x0))),(2,(.ptr 0 [] 0)),(79,(.dat 4 (.bool x1)))],[(.box 25 (.dat 25 x2))],0⟩
noncomputable def s33_3 (x0 x1 x2:Bool) (x3:Dt):St:=⟨tsOf [(1,(.dat 4 (.bool x0))),(2,(.ptr 0 [] 0)),(5,(.dat 4 (.bool x1))),(6,(.dat 4 (.bool x2)))],[(.box 25 (.dat 25 x3))],0⟩
noncomputable def s33_2 (x0 x1:Bool) (x2:Dt):St:=⟨tsOf [(1,(.dat 4 (.bool x0))),(2,(.ptr 0 [] 0)),(5,(.dat 4 (.bool x1)))],[(.box 25 (.dat 25 x2))],0⟩
noncomputable def s33_0 (x0 x1:Bool) (x2:Dt):St:=⟨tsOf [(1,(.dat 4 (.bool x0))),(2,(.ptr 0 [] 0)),(27,(.dat 4 (.bool x1)))],[(.box 25 (.dat 25 x2))],0⟩
theorem ref01_formed_j10_eq (m:Nat) (M8:Nat) (rec8:Bool→Int→Dt→Option Bool) (h8:∀(x0:Bool) (x1:Int) (x2:Dt),l33 jn m w33_0 [] M8 (s33_10 x0 x1 x2)=rec8 x0 x1 x2) (x0:Bool) (x1:Int) (x2:Dt):e33 jn m w33_1 [M8] (s33_10 x0 x1 x2)=ref01_formed_j10 m (ref01_formed m) (ref01_fields m) rec8 x0 x1 x2:=by
 have h:∀J,e33 J m w33_1 [M8] (s33_10 x0 x1 x2)=
  (J 1 19 M8 (s33_10 x0 (IntKind.wrap .i64 (x1+1)) x2) (l33 J m w33_0 [] M8 (s33_10 x0 (IntKind.wrap .i64 (x1+1)) x2))):=fun J=>by kernel_rfl
 exact(h jn).trans (by
  simp only[jn_eq,h8]
  rfl)
theorem ref01_formed_j9_eq (m:Nat) (M8:Nat) (rec8:Bool→Int→Dt→Option Bool) (h8:∀(x0:Bool) (x1:Int) (x2:Dt),l33 jn m w33_0 [] M8 (s33_10 x0 x1 x2)=rec8 x0 x1 x2) (x0:Bool) (x1:Int) (x2:Dt):e33 jn m w33_2 [M8] (s33_10 x0 x1 x2)=ref01_formed_j9 m (ref01_formed m) (ref01_fields m) rec8 x0 x1 x2:=by
 have h:∀J,e33 J m w33_2 [M8] (s33_10 x0 x1 x2)=
   ((idx (Dt.L x2 3) x1).bind fun v1=>
  ((ref01_formed m v1 x0).bind fun r2=>
  (bif (Bool.not r2) then
  some false
  else
  (J 0 20 0 (s33_10 x0 x1 x2) (e33 J m w33_1 [M8] (s33_10 x0 x1 x2)))))):=fun J=>by kernel_rfl
 exact(h jn).trans (by
   simp only[jn_eq,ref01_formed_j10_eq m M8 rec8 h8]
   rfl)
theorem ref01_formed_j11_eq (m:Nat) (x0:Bool) (x1:Dt):e33 jn m w33_3 [] (s33_11 x0 x1)=ref01_formed_j11 m (ref01_formed m) (ref01_fields m) x0 x1:=by
 have h:∀J,e33 J m w33_3 [] (s33_11 x0 x1)=
   ((ref01_fields m x1 x0).bind fun r3=>
  some r3):=fun J=>by kernel_rfl
 exact(h jn).trans (rfl)
theorem ref01_formed_l8_eq (m:Nat):∀(M8:Nat) (x0:Bool) (x1:Int) (x2:Dt),l33 jn m w33_0 [] M8 (s33_10 x0 x1 x2)=ref01_formed_l8 m (ref01_formed m) (ref01_fields m) M8 x0 x1 x2
 |0,_,_,_=>rfl
 | M8+1,x0,x1,x2=>by
   have h:∀J,l33 J m w33_0 [] (M8+1) (s33_10 x0 x1 x2)=
   (bif (decide (x1<(List.length (Dt.L x2 3):Int))) then
  (J 0 21 0 (s33_10 x0 x1 x2) (e33 J m w33_2 [M8] (s33_10 x0 x1 x2)))
   else
  (J 0 23 0 (s33_11 x0 x2) (e33 J m w33_3 [] (s33_11 x0 x2)))):=fun J=>by kernel_rfl
   refine(h jn).trans ?_
   simp only[jn_eq,ref01_formed_j9_eq m M8 (ref01_formed_l8 m (ref01_formed m) (ref01_fields m) M8) (fun x0 x1 x2=>ref01_formed_l8_eq m M8 x0 x1 x2),ref01_formed_j11_eq m]
   rfl
theorem ref01_formed_j7_eq (m:Nat) (x0:Bool) (x1:Int) (x2:Dt):e33 jn m w33_4 [] (s33_10 x0 x1 x2)=ref01_formed_j7 m (ref01_formed m) (ref01_fields m) x0 x1 x2:=by
 have h:∀J,e33 J m w33_4 [] (s33_10 x0 x1 x2)=
  (J 1 19 (Nat.succ m) (s33_10 x0 x1 x2) (l33 J m w33_0 [] (Nat.succ m) (s33_10 x0 x1 x2))):=fun J=>by kernel_rfl
 exact(h jn).trans (by
  simp only[jn_eq,ref01_formed_l8_eq m]
  rfl)
theorem ref01_formed_j6_eq (m:Nat) (x0:Bool) (x1:Dt):e33 jn m w33_5 [] (s33_11 x0 x1)=ref01_formed_j6 m (ref01_formed m) (ref01_fields m) x0 x1:=by
 have h:∀J,e33 J m w33_5 [] (s33_11 x0 x1)=
  (J 0 19 0 (s33_10 x0 0 x1) (e33 J m w33_4 [] (s33_10 x0 0 x1))):=fun J=>by kernel_rfl
 exact(h jn).trans (by
  simp only[jn_eq,ref01_formed_j7_eq m]
  rfl)
theorem ref01_formed_j5_eq (m:Nat) (x0:Bool) (x1:Dt):e33 jn m w33_6 [] (s33_11 x0 x1)=ref01_formed_j5 m (ref01_formed m) (ref01_fields m) x0 x1:=by
 have h:∀J,e33 J m w33_6 [] (s33_11 x0 x1)=
   (bif ((Dt.I x1 0)==9) then
  (bif ((Dt.I x1 1)==0) then
  some true
  else
  some ((Dt.I x1 1)==1))
   else
  (bif ((Dt.I x1 0)==10) then
  some (decide (0≤(Dt.I x1 1)))
  else
  (bif ((Dt.I x1 0)==4) then
  (bif (decide ((ByteArray.size (Dt.S x1 2):Int)≤4096)) then
  ((ref01_UTF8 m (Dt.S x1 2)).bind fun r0=>
  some r0)
  else
  some false)
  else
  (bif ((Dt.I x1 0)==7) then
  some (decide ((ByteArray.size (Dt.S x1 2):Int)≤4096))
  else
  (bif ((Dt.I x1 0)==8) then
  some ((ByteArray.size (Dt.S x1 2):Int)==12)
  else
  (J 0 18 0 (s33_11 x0 x1) (e33 J m w33_5 [] (s33_11 x0 x1)))))))):=fun J=>by kernel_rfl
 exact(h jn).trans (by
   simp only[jn_eq,ref01_formed_j6_eq m]
   rfl)
theorem ref01_formed_j4_eq (m:Nat) (x0 x1:Bool) (x2:Dt):e33 jn m w33_7 [] (s33_4 x0 x1 x2)=ref01_formed_j4 m (ref01_formed m) (ref01_fields m) x0 x1 x2:=by
 have h:∀J,e33 J m w33_7 [] (s33_4 x0 x1 x2)=
   (bif x1 then
  some false
   else
  (J 0 7 0 (s33_11 x0 x2) (e33 J m w33_6 [] (s33_11 x0 x2)))):=fun J=>by kernel_rfl
 exact(h jn).trans (by
   simp only[jn_eq,ref01_formed_j5_eq m]
   rfl)
theorem ref01_formed_j3_eq (m:Nat) (x0 x1 x2:Bool) (x3:Dt):e33 jn m [1,1,1,1] [] (s33_3 x0 x1 x2 x3)=ref01_formed_j3 m (ref01_formed m) (ref01_fields m) x0 x1 x2 x3:=by
 have h:∀J,e33 J m [1,1,1,1] [] (s33_3 x0 x1 x2 x3)=
   (bif (Bool.not x1) then
  (bif (Bool.not ((ByteArray.toList (Dt.S x3 2))==[])) then
  (J 0 6 0 (s33_4 x0 true x3) (e33 J m w33_7 [] (s33_4 x0 true x3)))
  else
  (bif (Bool.not x2) then
  (bif ((Dt.I x3 1) !=0) then
  (J 0 6 0 (s33_4 x0 true x3) (e33 J m w33_7 [] (s33_4 x0 true x3)))
  else
  (bif (decide ((Dt.I x3 0)<1)) then
  (J 0 6 0 (s33_4 x0 true x3) (e33 J m w33_7 [] (s33_4 x0 true x3)))
  else
  (J 0 6 0 (s33_4 x0 (decide (11<(Dt.I x3 0))) x3) (e33 J m w33_7 [] (s33_4 x0 (decide (11<(Dt.I x3 0))) x3)))))
  else
  (bif (decide ((Dt.I x3 0)<1)) then
  (J 0 6 0 (s33_4 x0 true x3) (e33 J m w33_7 [] (s33_4 x0 true x3)))
  else
  (J 0 6 0 (s33_4 x0 (decide (11<(Dt.I x3 0))) x3) (e33 J m w33_7 [] (s33_4 x0 (decide (11<(Dt.I x3 0))) x3))))))
   else
  (bif (Bool.not x2) then
  (bif ((Dt.I x3 1) !=0) then
  (J 0 6 0 (s33_4 x0 true x3) (e33 J m w33_7 [] (s33_4 x0 true x3)))
  else
  (bif (decide ((Dt.I x3 0)<1)) then
  (J 0 6 0 (s33_4 x0 true x3) (e33 J m w33_7 [] (s33_4 x0 true x3)))
  else
  (J 0 6 0 (s33_4 x0 (decide (11<(Dt.I x3 0))) x3) (e33 J m w33_7 [] (s33_4 x0 (decide (11<(Dt.I x3 0))) x3)))))
  else
  (bif (decide ((Dt.I x3 0)<1)) then
  (J 0 6 0 (s33_4 x0 true x3) (e33 J m w33_7 [] (s33_4 x0 true x3)))
  else
  (J 0 6 0 (s33_4 x0 (decide (11<(Dt.I x3 0))) x3) (e33 J m w33_7 [] (s33_4 x0 (decide (11<(Dt.I x3 0))) x3)))))):=fun J=>by kernel_rfl
 exact(h jn).trans (by
   simp only[jn_eq,ref01_formed_j4_eq m]
   rfl)
theorem ref01_formed_j2_eq (m:Nat) (x0 x1:Bool) (x2:Dt):e33 jn m [1,1,1] [] (s33_2 x0 x1 x2)=ref01_formed_j2 m (ref01_formed m) (ref01_fields m) x0 x1 x2:=by
 have h:∀J,e33 J m [1,1,1] [] (s33_2 x0 x1 x2)=
   (bif ((Dt.I x2 0)==3) then
  (J 0 5 0 (s33_3 x0 x1 true x2) (e33 J m [1,1,1,1] [] (s33_3 x0 x1 true x2)))
   else
  (bif ((Dt.I x2 0)==9) then
  (J 0 5 0 (s33_3 x0 x1 true x2) (e33 J m [1,1,1,1] [] (s33_3 x0 x1 true x2)))
  else
  (J 0 5 0 (s33_3 x0 x1 ((Dt.I x2 0)==10) x2) (e33 J m [1,1,1,1] [] (s33_3 x0 x1 ((Dt.I x2 0)==10) x2))))):=fun J=>by kernel_rfl
 exact(h jn).trans (by
   simp only[jn_eq,ref01_formed_j3_eq m]
   rfl)
theorem ref01_formed_j1_eq (m:Nat) (x0:Bool) (x1:Dt):e33 jn m [1,1] [] (s33_11 x0 x1)=ref01_formed_j1 m (ref01_formed m) (ref01_fields m) x0 x1:=by
 have h:∀J,e33 J m [1,1] [] (s33_11 x0 x1)=
   (bif ((Dt.I x1 0)==4) then
  (J 0 4 0 (s33_2 x0 true x1) (e33 J m [1,1,1] [] (s33_2 x0 true x1)))
   else
  (bif ((Dt.I x1 0)==7) then
  (J 0 4 0 (s33_2 x0 true x1) (e33 J m [1,1,1] [] (s33_2 x0 true x1)))
  else
  (J 0 4 0 (s33_2 x0 ((Dt.I x1 0)==8) x1) (e33 J m [1,1,1] [] (s33_2 x0 ((Dt.I x1 0)==8) x1))))):=fun J=>by kernel_rfl
 exact(h jn).trans (by
   simp only[jn_eq,ref01_formed_j2_eq m]
   rfl)
theorem ref01_formed_j0_eq (m:Nat) (x0 x1:Bool) (x2:Dt):e33 jn m [1,0,1] [] (s33_0 x0 x1 x2)=ref01_formed_j0 m (ref01_formed m) (ref01_fields m) x0 x1 x2:=by
 have h:∀J,e33 J m [1,0,1] [] (s33_0 x0 x1 x2)=
   (bif x1 then
  some false
   else
  (J 0 3 0 (s33_11 x0 x2) (e33 J m [1,1] [] (s33_11 x0 x2)))):=fun J=>by kernel_rfl
 exact(h jn).trans (by
   simp only[jn_eq,ref01_formed_j1_eq m]
   rfl)
theorem ref01_formed_eq (m:Nat) (a0:Dt) (a1:Bool):e33 jn m [] [] ⟨[(.dat 25 a0),(.dat 4 (.bool a1))],[],0⟩=ref01_formed (m+1) a0 a1:=by
 have h:∀J,e33 J m [] [] ⟨[(.dat 25 a0),(.dat 4 (.bool a1))],[],0⟩=
   (bif ((Dt.I a0 0) !=6) then
  (bif (decide (0<(List.length (Dt.L a0 3):Int))) then
  (J 0 2 0 (s33_0 a1 true a0) (e33 J m [1,0,1] [] (s33_0 a1 true a0)))
  else
  (bif ((Dt.I a0 0) !=5) then
  (J 0 2 0 (s33_0 a1 (decide (0<(List.length (Dt.L a0 4):Int))) a0) (e33 J m [1,0,1] [] (s33_0 a1 (decide (0<(List.length (Dt.L a0 4):Int))) a0)))
  else
  (J 0 2 0 (s33_0 a1 false a0) (e33 J m [1,0,1] [] (s33_0 a1 false a0)))))
   else
  (bif ((Dt.I a0 0) !=5) then
  (J 0 2 0 (s33_0 a1 (decide (0<(List.length (Dt.L a0 4):Int))) a0) (e33 J m [1,0,1] [] (s33_0 a1 (decide (0<(List.length (Dt.L a0 4):Int))) a0)))
  else
  (J 0 2 0 (s33_0 a1 false a0) (e33 J m [1,0,1] [] (s33_0 a1 false a0))))):=fun J=>by kernel_rfl
 refine(h jn).trans ?_
 simp only[jn_eq,ref01_formed_j0_eq m]
 rfl
noncomputable def d52 (q:Res):Option Bool:=match q with
 |(.dat T0 x0,[])=>bif Nat.beq T0 4 then some x0.toBool else none
 |_=>none
def w52_0:List Nat:=[1,0,1,0,0,1,0,0,1,1,1,0]
def w52_1:List Nat:=[1,0,1,0,0,1,0,0,1,1,1,0,0,1,1]
def w52_2:List Nat:=[1,0,1,0,0,1,0,0,1,1,1,0,0,1]
def w52_3:List Nat:=[1,0,1,0,0,1,1]
def w52_4:List Nat:=[1,0,1,0,0,1,0,0,1,1,1]
def w52_5:List Nat:=[1,0,1,0,0,1,0,0,1,1]
def w52_6:List Nat:=[1,0,1,0,0,1,0,0,1,0,1]
def w52_7:List Nat:=[1,0,1,0,0,1]
theorem d52_sim {b:Res} {r:Bool} (h:d52 b=some r):Sim Tryd.prog b ((.dat 4 (.bool r)),[]):=by
 unfold d52 at h
 split at h
 ·obtain⟨hc,h2⟩:=bif_some h
  cases h2
  have e0:=beq_eq hc
  subst e0
  exact Sim.of (.of (.dat (.bool Tryd.underlying4)) rfl rfl) .nil
 ·cases h
noncomputable def e52 (J:Nat→Nat→Nat→St→Option Bool→Option Bool) (m:Nat) (p ms:List Nat) (σ:St):=evAt Tryd.prog env (ct m) J (m+1) 36 58 Tryd.f36 d52 p ms σ
noncomputable def l52 (J:Nat→Nat→Nat→St→Option Bool→Option Bool) (m:Nat) (p ms:List Nat) (M:Nat) (σ:St):=loopAt Tryd.prog env (ct m) J (m+1) 36 58 Tryd.f36 d52 p ms M σ
noncomputable def s52_8 (x0:Bool) (x1 x2:Int) (x3 x4:Dt):St:=⟨tsOf [(1,(.dat 4 (.bool x0))),(2,(.ptr 0 [] 0)),(5,(.dat 3 (.int x1))),(6,(.ptr 1 [] 0)),(7,(.dat 3 (.int x2)))],[(.box 25 (.dat 25 x3)),(.box 56 (.dat 56 x4))],0⟩
noncomputable def s52_9 (x0:Bool) (x1:Int) (x2:Dt):St:=⟨tsOf [(1,(.dat 4 (.bool x0))),(2,(.ptr 0 [] 0)),(5,(.dat 3 (.int x1)))],[(.box 25 (.dat 25 x2))],0⟩
noncomputable def s52_4 (x0:Bool) (x1:Int) (x2 x3:Dt):St:=⟨tsOf [(1,(.dat 4 (.bool x0))),(2,(.ptr 0 [] 0)),(5,(.dat 3 (.int x1))),(6,(.ptr 1 [] 0))],[(.box 25 (.dat 25 x2)),(.box 56 (.dat 56 x3))],0⟩
noncomputable def s52_3 (x0:Bool) (x1:Int) (x2:Bool) (x3 x4:Dt):St:=⟨tsOf [(1,(.dat 4 (.bool x0))),(2,(.ptr 0 [] 0)),(5,(.dat 3 (.int x1))),(6,(.ptr 1 [] 0)),(43,(.dat 4 (.bool x2)))],[(.box 25 (.dat 25 x3)),(.box 56 (.dat 56 x4))],0⟩
noncomputable def s52_10:St:=⟨tsOf [],[],0⟩
theorem ref01_fields_j8_eq (m:Nat) (M1:Nat) (rec1:Bool→Int→Dt→Option Bool) (h1:∀(x0:Bool) (x1:Int) (x2:Dt),l52 jn m [1,0,1,0] [] M1 (s52_9 x0 x1 x2)=rec1 x0 x1 x2) (M6:Nat) (rec6:Bool→Int→Int→Dt→Dt→Option Bool) (h6:∀(x0:Bool) (x1 x2:Int) (x3 x4:Dt),l52 jn m w52_0 [M1] M6 (s52_8 x0 x1 x2 x3 x4)=rec6 x0 x1 x2 x3 x4) (x0:Bool) (x1 x2:Int) (x3 x4:Dt):e52 jn m w52_1 [M1,M6] (s52_8 x0 x1 x2 x3 x4)=ref01_fields_j8 m (ref01_formed m) rec1 rec6 x0 x1 x2 x3 x4:=by
 have h:∀J,e52 J m w52_1 [M1,M6] (s52_8 x0 x1 x2 x3 x4)=
  (J 1 8 M6 (s52_8 x0 x1 (IntKind.wrap .i64 (x2+1)) x3 x4) (l52 J m w52_0 [M1] M6 (s52_8 x0 x1 (IntKind.wrap .i64 (x2+1)) x3 x4))):=fun J=>by kernel_rfl
 exact(h jn).trans (by
  simp only[jn_eq,h6]
  rfl)
theorem ref01_fields_j7_eq (m:Nat) (M1:Nat) (rec1:Bool→Int→Dt→Option Bool) (h1:∀(x0:Bool) (x1:Int) (x2:Dt),l52 jn m [1,0,1,0] [] M1 (s52_9 x0 x1 x2)=rec1 x0 x1 x2) (M6:Nat) (rec6:Bool→Int→Int→Dt→Dt→Option Bool) (h6:∀(x0:Bool) (x1 x2:Int) (x3 x4:Dt),l52 jn m w52_0 [M1] M6 (s52_8 x0 x1 x2 x3 x4)=rec6 x0 x1 x2 x3 x4) (x0:Bool) (x1 x2:Int) (x3 x4:Dt):e52 jn m w52_2 [M1,M6] (s52_8 x0 x1 x2 x3 x4)=ref01_fields_j7 m (ref01_formed m) rec1 rec6 x0 x1 x2 x3 x4:=by
 have h:∀J,e52 J m w52_2 [M1,M6] (s52_8 x0 x1 x2 x3 x4)=
   ((idx (Dt.L x3 4) x2).bind fun v2=>
  (bif ((ByteArray.toList (Dt.S v2 0))==(ByteArray.toList (Dt.S x4 0))) then
  some false
  else
  (J 0 9 0 (s52_8 x0 x1 x2 x3 x4) (e52 J m w52_1 [M1,M6] (s52_8 x0 x1 x2 x3 x4))))):=fun J=>by kernel_rfl
 exact(h jn).trans (by
   simp only[jn_eq,ref01_fields_j8_eq m M1 rec1 h1 M6 rec6 h6]
   rfl)
theorem ref01_fields_j9_eq (m:Nat) (M1:Nat) (rec1:Bool→Int→Dt→Option Bool) (h1:∀(x0:Bool) (x1:Int) (x2:Dt),l52 jn m [1,0,1,0] [] M1 (s52_9 x0 x1 x2)=rec1 x0 x1 x2) (x0:Bool) (x1:Int) (x2:Dt):e52 jn m w52_3 [M1] (s52_9 x0 x1 x2)=ref01_fields_j9 m (ref01_formed m) rec1 x0 x1 x2:=by
 have h:∀J,e52 J m w52_3 [M1] (s52_9 x0 x1 x2)=
  (J 1 2 M1 (s52_9 x0 (IntKind.wrap .i64 (x1+1)) x2) (l52 J m [1,0,1,0] [] M1 (s52_9 x0 (IntKind.wrap .i64 (x1+1)) x2))):=fun J=>by kernel_rfl
 exact(h jn).trans (by
  simp only[jn_eq,h1]
  rfl)
theorem ref01_fields_l6_eq (m:Nat) (M1:Nat) (rec1:Bool→Int→Dt→Option Bool) (h1:∀(x0:Bool) (x1:Int) (x2:Dt),l52 jn m [1,0,1,0] [] M1 (s52_9 x0 x1 x2)=rec1 x0 x1 x2):∀(M6:Nat) (x0:Bool) (x1 x2:Int) (x3 x4:Dt),l52 jn m w52_0 [M1] M6 (s52_8 x0 x1 x2 x3 x4)=ref01_fields_l6 m (ref01_formed m) rec1 M6 x0 x1 x2 x3 x4
 |0,_,_,_,_,_=>rfl
 | M6+1,x0,x1,x2,x3,x4=>by
   have h:∀J,l52 J m w52_0 [M1] (M6+1) (s52_8 x0 x1 x2 x3 x4)=
   (bif (decide (x2<x1)) then
  (J 0 10 0 (s52_8 x0 x1 x2 x3 x4) (e52 J m w52_2 [M1,M6] (s52_8 x0 x1 x2 x3 x4)))
   else
  (J 0 3 0 (s52_9 x0 x1 x3) (e52 J m w52_3 [M1] (s52_9 x0 x1 x3)))):=fun J=>by kernel_rfl
   refine(h jn).trans ?_
   simp only[jn_eq,ref01_fields_j7_eq m M1 rec1 h1 M6 (ref01_fields_l6 m (ref01_formed m) rec1 M6) (fun x0 x1 x2 x3 x4=>ref01_fields_l6_eq m M1 rec1 h1 M6 x0 x1 x2 x3 x4),ref01_fields_j9_eq m M1 rec1 h1]
   rfl
theorem ref01_fields_j5_eq (m:Nat) (M1:Nat) (rec1:Bool→Int→Dt→Option Bool) (h1:∀(x0:Bool) (x1:Int) (x2:Dt),l52 jn m [1,0,1,0] [] M1 (s52_9 x0 x1 x2)=rec1 x0 x1 x2) (x0:Bool) (x1 x2:Int) (x3 x4:Dt):e52 jn m w52_4 [M1] (s52_8 x0 x1 x2 x3 x4)=ref01_fields_j5 m (ref01_formed m) rec1 x0 x1 x2 x3 x4:=by
 have h:∀J,e52 J m w52_4 [M1] (s52_8 x0 x1 x2 x3 x4)=
  (J 1 8 (Nat.succ m) (s52_8 x0 x1 x2 x3 x4) (l52 J m w52_0 [M1] (Nat.succ m) (s52_8 x0 x1 x2 x3 x4))):=fun J=>by kernel_rfl
 exact(h jn).trans (by
  simp only[jn_eq,ref01_fields_l6_eq m M1 rec1 h1]
  rfl)
theorem ref01_fields_j4_eq (m:Nat) (M1:Nat) (rec1:Bool→Int→Dt→Option Bool) (h1:∀(x0:Bool) (x1:Int) (x2:Dt),l52 jn m [1,0,1,0] [] M1 (s52_9 x0 x1 x2)=rec1 x0 x1 x2) (x0:Bool) (x1:Int) (x2 x3:Dt):e52 jn m w52_5 [M1] (s52_4 x0 x1 x2 x3)=ref01_fields_j4 m (ref01_formed m) rec1 x0 x1 x2 x3:=by
 have h:∀J,e52 J m w52_5 [M1] (s52_4 x0 x1 x2 x3)=
  (J 0 8 0 (s52_8 x0 x1 0 x2 x3) (e52 J m w52_4 [M1] (s52_8 x0 x1 0 x2 x3))):=fun J=>by kernel_rfl
 exact(h jn).trans (by
  simp only[jn_eq,ref01_fields_j5_eq m M1 rec1 h1]
  rfl)
theorem ref01_fields_j3_eq (m:Nat) (M1:Nat) (rec1:Bool→Int→Dt→Option Bool) (h1:∀(x0:Bool) (x1:Int) (x2:Dt),l52 jn m [1,0,1,0] [] M1 (s52_9 x0 x1 x2)=rec1 x0 x1 x2) (x0:Bool) (x1:Int) (x2:Bool) (x3 x4:Dt):e52 jn m w52_6 [M1] (s52_3 x0 x1 x2 x3 x4)=ref01_fields_j3 m (ref01_formed m) rec1 x0 x1 x2 x3 x4:=by
 have h:∀J,e52 J m w52_6 [M1] (s52_3 x0 x1 x2 x3 x4)=
   (bif x2 then
  some false
   else
  (J 0 7 0 (s52_4 x0 x1 x3 x4) (e52 J m w52_5 [M1] (s52_4 x0 x1 x3 x4)))):=fun J=>by kernel_rfl
 exact(h jn).trans (by
   simp only[jn_eq,ref01_fields_j4_eq m M1 rec1 h1]
   rfl)
theorem ref01_fields_j2_eq (m:Nat) (M1:Nat) (rec1:Bool→Int→Dt→Option Bool) (h1:∀(x0:Bool) (x1:Int) (x2:Dt),l52 jn m [1,0,1,0] [] M1 (s52_9 x0 x1 x2)=rec1 x0 x1 x2) (x0:Bool) (x1:Int) (x2:Dt):e52 jn m w52_7 [M1] (s52_9 x0 x1 x2)=ref01_fields_j2 m (ref01_formed m) rec1 x0 x1 x2:=by
 have h:∀J,e52 J m w52_7 [M1] (s52_9 x0 x1 x2)=
   ((idx (Dt.L x2 4) x1).bind fun v0=>
  (bif x0 then
  ((ref01_Name m (Dt.S v0 0)).bind fun r1=>
  (bif (Bool.not r1) then
  (J 0 6 0 (s52_3 x0 x1 true x2 v0) (e52 J m w52_6 [M1] (s52_3 x0 x1 true x2 v0)))
  else
  (bif (Bool.not x0) then
  ((ref01_wide m (Dt.S v0 0)).bind fun r3=>
  (bif (Bool.not r3) then
  (J 0 6 0 (s52_3 x0 x1 true x2 v0) (e52 J m w52_6 [M1] (s52_3 x0 x1 true x2 v0)))
  else
  ((ref01_formed m (Dt.fld v0 1) x0).bind fun r4=>
  (J 0 6 0 (s52_3 x0 x1 (Bool.not r4) x2 v0) (e52 J m w52_6 [M1] (s52_3 x0 x1 (Bool.not r4) x2 v0))))))
  else
  ((ref01_formed m (Dt.fld v0 1) x0).bind fun r5=>
  (J 0 6 0 (s52_3 x0 x1 (Bool.not r5) x2 v0) (e52 J m w52_6 [M1] (s52_3 x0 x1 (Bool.not r5) x2 v0)))))))
  else
  (bif (Bool.not x0) then
  ((ref01_wide m (Dt.S v0 0)).bind fun r6=>
  (bif (Bool.not r6) then
  (J 0 6 0 (s52_3 x0 x1 true x2 v0) (e52 J m w52_6 [M1] (s52_3 x0 x1 true x2 v0)))
  else
  ((ref01_formed m (Dt.fld v0 1) x0).bind fun r7=>
  (J 0 6 0 (s52_3 x0 x1 (Bool.not r7) x2 v0) (e52 J m w52_6 [M1] (s52_3 x0 x1 (Bool.not r7) x2 v0))))))
  else
  ((ref01_formed m (Dt.fld v0 1) x0).bind fun r8=>
  (J 0 6 0 (s52_3 x0 x1 (Bool.not r8) x2 v0) (e52 J m w52_6 [M1] (s52_3 x0 x1 (Bool.not r8) x2 v0))))))):=fun J=>by kernel_rfl
 exact(h jn).trans (by
   simp only[jn_eq,ref01_fields_j3_eq m M1 rec1 h1]
   rfl)
theorem ref01_fields_j10_eq (m:Nat):e52 jn m [1,1] [] s52_10=ref01_fields_j10 m (ref01_formed m):=by
 have h:∀J,e52 J m [1,1] [] s52_10=
  some true:=fun J=>by kernel_rfl
 exact(h jn).trans (rfl)
theorem ref01_fields_l1_eq (m:Nat):∀(M1:Nat) (x0:Bool) (x1:Int) (x2:Dt),l52 jn m [1,0,1,0] [] M1 (s52_9 x0 x1 x2)=ref01_fields_l1 m (ref01_formed m) M1 x0 x1 x2
 |0,_,_,_=>rfl
 | M1+1,x0,x1,x2=>by
   have h:∀J,l52 J m [1,0,1,0] [] (M1+1) (s52_9 x0 x1 x2)=
   (bif (decide (x1<(List.length (Dt.L x2 4):Int))) then
  (J 0 4 0 (s52_9 x0 x1 x2) (e52 J m w52_7 [M1] (s52_9 x0 x1 x2)))
   else
  (J 0 12 0 s52_10 (e52 J m [1,1] [] s52_10))):=fun J=>by kernel_rfl
   refine(h jn).trans ?_
   simp only[jn_eq,ref01_fields_j2_eq m M1 (ref01_fields_l1 m (ref01_formed m) M1) (fun x0 x1 x2=>ref01_fields_l1_eq m M1 x0 x1 x2),ref01_fields_j10_eq m]
   rfl
theorem ref01_fields_j0_eq (m:Nat) (x0:Bool) (x1:Int) (x2:Dt):e52 jn m [1,0,1] [] (s52_9 x0 x1 x2)=ref01_fields_j0 m (ref01_formed m) x0 x1 x2:=by
 have h:∀J,e52 J m [1,0,1] [] (s52_9 x0 x1 x2)=
  (J 1 2 (Nat.succ m) (s52_9 x0 x1 x2) (l52 J m [1,0,1,0] [] (Nat.succ m) (s52_9 x0 x1 x2))):=fun J=>by kernel_rfl
 exact(h jn).trans (by
  simp only[jn_eq,ref01_fields_l1_eq m]
  rfl)
theorem ref01_fields_eq (m:Nat) (a0:Dt) (a1:Bool):e52 jn m [] [] ⟨[(.dat 25 a0),(.dat 4 (.bool a1))],[],0⟩=ref01_fields (m+1) a0 a1:=by
 have h:∀J,e52 J m [] [] ⟨[(.dat 25 a0),(.dat 4 (.bool a1))],[],0⟩=
  (J 0 2 0 (s52_9 a1 0 a0) (e52 J m [1,0,1] [] (s52_9 a1 0 a0))):=fun J=>by kernel_rfl
 refine(h jn).trans ?_
 simp only[jn_eq,ref01_fields_j0_eq m]
 rfl
noncomputable def d6 (q:Res):Option Bool:=match q with
 |(.dat T0 x0,[])=>bif Nat.beq T0 4 then some x0.toBool else none
 |_=>none
theorem d6_sim {b:Res} {r:Bool} (h:d6 b=some r):Sim Tryd.prog b ((.dat 4 (.bool r)),[]):=by
 unfold d6 at h
 split at h
 ·obtain⟨hc,h2⟩:=bif_some h
  cases h2
  have e0:=beq_eq hc
  subst e0
  exact Sim.of (.of (.dat (.bool Tryd.underlying4)) rfl rfl) .nil
 ·cases h
noncomputable def e6 (J:Nat→Nat→Nat→St→Option Bool→Option Bool) (m:Nat) (p ms:List Nat) (σ:St):=evAt Tryd.prog env (ct m) J (m+1) 12 15 Tryd.f12 d6 p ms σ
noncomputable def l6 (J:Nat→Nat→Nat→St→Option Bool→Option Bool) (m:Nat) (p ms:List Nat) (M:Nat) (σ:St):=loopAt Tryd.prog env (ct m) J (m+1) 12 15 Tryd.f12 d6 p ms M σ
theorem ref01_Valid_eq (m:Nat) (a0:Dt):e6 jn m [] [] ⟨[(.dat 25 a0)],[],0⟩=ref01_Valid (m+1) a0:=by
 have h:∀J,e6 J m [] [] ⟨[(.dat 25 a0)],[],0⟩=
   ((ref01_Depth m a0).bind fun r0=>
  (bif (decide (r0≤16)) then
  ((ref01_Nodes m a0).bind fun r1=>
  (bif (decide (r1≤1024)) then
  ((ref01_formed m a0 true).bind fun r2=>
  some r2)
  else
  some false))
  else
  some false)):=fun J=>by kernel_rfl
 refine(h jn).trans ?_
 rfl
noncomputable def d61 (q:Res):Option Int:=match q with
 |(.dat T0 x0,[])=>bif Nat.beq T0 3 then some x0.toInt else none
 |_=>none
theorem d61_sim {b:Res} {r:Int} (h:d61 b=some r):Sim Tryd.prog b ((.dat 3 (.int r)),[]):=by
 unfold d61 at h
 split at h
 ·obtain⟨hc,h2⟩:=bif_some h
  cases h2
  have e0:=beq_eq hc
  subst e0
  exact Sim.of (.of (.dat (.int Tryd.underlying3)) rfl rfl) .nil
 ·cases h
noncomputable def e61 (J:Nat→Nat→Nat→St→Option Int→Option Int) (m:Nat) (p ms:List Nat) (σ:St):=evAt Tryd.prog env (ct m) J (m+1) 72 14 Tryd.f72 d61 p ms σ
noncomputable def l61 (J:Nat→Nat→Nat→St→Option Int→Option Int) (m:Nat) (p ms:List Nat) (M:Nat) (σ:St):=loopAt Tryd.prog env (ct m) J (m+1) 72 14 Tryd.f72 d61 p ms M σ
noncomputable def s61_0 (x0:Dt) (x1 x2:Int):St:=⟨tsOf [(2,(.ptr 0 [] 0)),(3,(.ptr 1 [] 0)),(5,(.ptr 2 [] 0))],[(.box 25 (.dat 25 x0)),(.box 3 (.dat 3 (.int x1))),(.box 3 (.dat 3 (.int x2)))],0⟩
theorem value_nodes_j0_eq (m:Nat) (x0:Dt) (x1 x2:Int):e61 jn m [1,1,1] [] (s61_0 x0 x1 x2)=value_nodes_j0 m (i65 m) x0 x1 x2:=by
 have h:∀J,e61 J m [1,1,1] [] (s61_0 x0 x1 x2)=
   ((i65 m x0 x2 x1).bind fun r0=>
  some r0.1):=fun J=>by kernel_rfl
 exact(h jn).trans (rfl)
theorem value_nodes_eq (m:Nat) (a0:Dt) (a1:Int):e61 jn m [] [] ⟨[(.dat 25 a0),(.dat 3 (.int a1))],[],0⟩=value_nodes (m+1) a0 a1:=by
 have h:∀J,e61 J m [] [] ⟨[(.dat 25 a0),(.dat 3 (.int a1))],[],0⟩=
   (bif (1==a1) then
  some 1
   else
  (J 0 4 0 (s61_0 a0 a1 1) (e61 J m [1,1,1] [] (s61_0 a0 a1 1)))):=fun J=>by kernel_rfl
 refine(h jn).trans ?_
 simp only[jn_eq,value_nodes_j0_eq m]
 rfl
noncomputable def d65 (q:Res):Option (Int×Int):=match q with
 |(.tup [],[.box T0 (.dat T1 x1),.box T2 (.dat T3 x3)])=>bif (Nat.beq T0 3&&(Nat.beq T1 3&&(Nat.beq T2 3&&Nat.beq T3 3))) then some (x1.toInt,x3.toInt) else none
 |_=>none
def w65_0:List Nat:=[1,1,0,1,0,1,0]
def w65_1:List Nat:=[1,1,0,1,0,1,0,0,1,1,1]
def w65_2:List Nat:=[1,1,0,1,0,1,0,0,1,1]
def w65_3:List Nat:=[1,1,0,1,0,1]
def w65_4:List Nat:=[1,1,0,1,1,1,0,1,0]
def w65_5:List Nat:=[1,1,0,1,1,1,0,1,0,0,1,1,1]
def w65_6:List Nat:=[1,1,0,1,1,1,0,1,0,0,1,1]
def w65_7:List Nat:=[1,1,0,1,1,1,0,1]
theorem d65_sim {b:Res} {r:Int×Int} (h:d65 b=some r):Sim Tryd.prog b ((.tup []),[(.box 3 (.dat 3 (.int r.1))),(.box 3 (.dat 3 (.int r.2)))]):=by
 unfold d65 at h
 split at h
 ·obtain⟨hc,h2⟩:=bif_some h
  cases h2
  have e0:=beq_eq (and_l hc)
  have e1:=beq_eq (and_l (and_r hc))
  have e2:=beq_eq (and_l (and_r (and_r hc)))
  have e3:=beq_eq (and_r (and_r (and_r hc)))
  subst e0 e1 e2 e3
  exact Sim.of (.tup .nil) (.cons (.box (.dat (.int Tryd.underlying3))) (.cons (.box (.dat (.int Tryd.underlying3))) .nil))
 ·cases h
noncomputable def e65 (J:Nat→Nat→Nat→St→Option (Int×Int)→Option (Int×Int)) (m:Nat) (p ms:List Nat) (σ:St):=evAt Tryd.prog env (ct m) J (m+1) 85 39 Tryd.f85 d65 p ms σ
noncomputable def l65 (J:Nat→Nat→Nat→St→Option (Int×Int)→Option (Int×Int)) (m:Nat) (p ms:List Nat) (M:Nat) (σ:St):=loopAt Tryd.prog env (ct m) J (m+1) 85 39 Tryd.f85 d65 p ms M σ
noncomputable def s65_3 (x0:List Dt) (x1 x2 x3 x4:Int):St:=⟨tsOf [(1,(.fn 86 [(.ptr 0 [] 0),(.ptr 1 [] 0)])),(13,(.dat 22 (.lst x0))),(14,(.dat 3 (.int x1))),(15,(.dat 3 (.int x2)))],[(.box 3 (.dat 3 (.int x3))),(.box 3 (.dat 3 (.int x4)))],2⟩
noncomputable def s65_7 (x0:List Dt) (x1 x2 x3 x4:Int):St:=⟨tsOf [(1,(.fn 86 [(.ptr 0 [] 0),(.ptr 1 [] 0)])),(27,(.dat 23 (.lst x0))),(28,(.dat 3 (.int x1))),(29,(.dat 3 (.int x2)))],[(.box 3 (.dat 3 (.int x3))),(.box 3 (.dat 3 (.int x4)))],2⟩
theorem i65_j3_eq (m:Nat) (M1:Nat) (rec1:List Dt→Int→Int→Int→Int→Option (Int×Int)) (h1:∀(x0:List Dt) (x1 x2 x3 x4:Int),l65 jn m w65_0 [] M1 (s65_3 x0 x1 x2 x3 x4)=rec1 x0 x1 x2 x3 x4) (x0:List Dt) (x1 x2 x3 x4:Int):e65 jn m w65_1 [M1] (s65_3 x0 x1 x2 x3 x4)=i65_j3 m (i66 m) rec1 x0 x1 x2 x3 x4:=by
 have h:∀J,e65 J m w65_1 [M1] (s65_3 x0 x1 x2 x3 x4)=
  (J 1 4 M1 (s65_3 x0 x1 (IntKind.wrap .i64 (x2+1)) x3 x4) (l65 J m w65_0 [] M1 (s65_3 x0 x1 (IntKind.wrap .i64 (x2+1)) x3 x4))):=fun J=>by kernel_rfl
 exact(h jn).trans (by
  simp only[jn_eq,h1]
  rfl)
theorem i65_j2_eq (m:Nat) (M1:Nat) (rec1:List Dt→Int→Int→Int→Int→Option (Int×Int)) (h1:∀(x0:List Dt) (x1 x2 x3 x4:Int),l65 jn m w65_0 [] M1 (s65_3 x0 x1 x2 x3 x4)=rec1 x0 x1 x2 x3 x4) (x0:List Dt) (x1 x2 x3 x4:Int):e65 jn m w65_2 [M1] (s65_3 x0 x1 x2 x3 x4)=i65_j2 m (i66 m) rec1 x0 x1 x2 x3 x4:=by
 have h:∀J,e65 J m w65_2 [M1] (s65_3 x0 x1 x2 x3 x4)=
   ((idx x0 x2).bind fun v0=>
  ((i66 m v0 x3 x4).bind fun r1=>
  (bif (Bool.not r1.1) then
  some (r1.2.1,r1.2.2)
  else
  (J 0 7 0 (s65_3 x0 x1 x2 r1.2.1 r1.2.2) (e65 J m w65_1 [M1] (s65_3 x0 x1 x2 r1.2.1 r1.2.2)))))):=fun J=>by kernel_rfl
 exact(h jn).trans (by
   simp only[jn_eq,i65_j3_eq m M1 rec1 h1]
   rfl)
theorem i65_l1_eq (m:Nat):∀(M1:Nat) (x0:List Dt) (x1 x2 x3 x4:Int),l65 jn m w65_0 [] M1 (s65_3 x0 x1 x2 x3 x4)=i65_l1 m (i66 m) M1 x0 x1 x2 x3 x4
 |0,_,_,_,_,_=>rfl
 | M1+1,x0,x1,x2,x3,x4=>by
   have h:∀J,l65 J m w65_0 [] (M1+1) (s65_3 x0 x1 x2 x3 x4)=
   (bif (decide (x2<x1)) then
  (J 0 5 0 (s65_3 x0 x1 x2 x3 x4) (e65 J m w65_2 [M1] (s65_3 x0 x1 x2 x3 x4)))
   else
  some (x3,x4)):=fun J=>by kernel_rfl
   refine(h jn).trans ?_
   simp only[jn_eq,i65_j2_eq m M1 (i65_l1 m (i66 m) M1) (fun x0 x1 x2 x3 x4=>i65_l1_eq m M1 x0 x1 x2 x3 x4)]
   rfl
theorem i65_j0_eq (m:Nat) (x0:List Dt) (x1 x2 x3 x4:Int):e65 jn m w65_3 [] (s65_3 x0 x1 x2 x3 x4)=i65_j0 m (i66 m) x0 x1 x2 x3 x4:=by
 have h:∀J,e65 J m w65_3 [] (s65_3 x0 x1 x2 x3 x4)=
  (J 1 4 (Nat.succ m) (s65_3 x0 x1 x2 x3 x4) (l65 J m w65_0 [] (Nat.succ m) (s65_3 x0 x1 x2 x3 x4))):=fun J=>by kernel_rfl
 exact(h jn).trans (by
  simp only[jn_eq,i65_l1_eq m]
  rfl)
theorem i65_j7_eq (m:Nat) (M5:Nat) (rec5:List Dt→Int→Int→Int→Int→Option (Int×Int)) (h5:∀(x0:List Dt) (x1 x2 x3 x4:Int),l65 jn m w65_4 [] M5 (s65_7 x0 x1 x2 x3 x4)=rec5 x0 x1 x2 x3 x4) (x0:List Dt) (x1 x2 x3 x4:Int):e65 jn m w65_5 [M5] (s65_7 x0 x1 x2 x3 x4)=i65_j7 m (i66 m) rec5 x0 x1 x2 x3 x4:=by
 have h:∀J,e65 J m w65_5 [M5] (s65_7 x0 x1 x2 x3 x4)=
  (J 1 10 M5 (s65_7 x0 x1 (IntKind.wrap .i64 (x2+1)) x3 x4) (l65 J m w65_4 [] M5 (s65_7 x0 x1 (IntKind.wrap .i64 (x2+1)) x3 x4))):=fun J=>by kernel_rfl
 exact(h jn).trans (by
  simp only[jn_eq,h5]
  rfl)
theorem i65_j6_eq (m:Nat) (M5:Nat) (rec5:List Dt→Int→Int→Int→Int→Option (Int×Int)) (h5:∀(x0:List Dt) (x1 x2 x3 x4:Int),l65 jn m w65_4 [] M5 (s65_7 x0 x1 x2 x3 x4)=rec5 x0 x1 x2 x3 x4) (x0:List Dt) (x1 x2 x3 x4:Int):e65 jn m w65_6 [M5] (s65_7 x0 x1 x2 x3 x4)=i65_j6 m (i66 m) rec5 x0 x1 x2 x3 x4:=by
 have h:∀J,e65 J m w65_6 [M5] (s65_7 x0 x1 x2 x3 x4)=
   ((idx x0 x2).bind fun v2=>
  ((i66 m (Dt.fld v2 1) x3 x4).bind fun r3=>
  (bif (Bool.not r3.1) then
  some (r3.2.1,r3.2.2)
  else
  (J 0 13 0 (s65_7 x0 x1 x2 r3.2.1 r3.2.2) (e65 J m w65_5 [M5] (s65_7 x0 x1 x2 r3.2.1 r3.2.2)))))):=fun J=>by kernel_rfl
 exact(h jn).trans (by
   simp only[jn_eq,i65_j7_eq m M5 rec5 h5]
   rfl)
theorem i65_l5_eq (m:Nat):∀(M5:Nat) (x0:List Dt) (x1 x2 x3 x4:Int),l65 jn m w65_4 [] M5 (s65_7 x0 x1 x2 x3 x4)=i65_l5 m (i66 m) M5 x0 x1 x2 x3 x4
 |0,_,_,_,_,_=>rfl
 | M5+1,x0,x1,x2,x3,x4=>by
   have h:∀J,l65 J m w65_4 [] (M5+1) (s65_7 x0 x1 x2 x3 x4)=
   (bif (decide (x2<x1)) then
  (J 0 11 0 (s65_7 x0 x1 x2 x3 x4) (e65 J m w65_6 [M5] (s65_7 x0 x1 x2 x3 x4)))
   else
  some (x3,x4)):=fun J=>by kernel_rfl
   refine(h jn).trans ?_
   simp only[jn_eq,i65_j6_eq m M5 (i65_l5 m (i66 m) M5) (fun x0 x1 x2 x3 x4=>i65_l5_eq m M5 x0 x1 x2 x3 x4)]
   rfl
theorem i65_j4_eq (m:Nat) (x0:List Dt) (x1 x2 x3 x4:Int):e65 jn m w65_7 [] (s65_7 x0 x1 x2 x3 x4)=i65_j4 m (i66 m) x0 x1 x2 x3 x4:=by
 have h:∀J,e65 J m w65_7 [] (s65_7 x0 x1 x2 x3 x4)=
  (J 1 10 (Nat.succ m) (s65_7 x0 x1 x2 x3 x4) (l65 J m w65_4 [] (Nat.succ m) (s65_7 x0 x1 x2 x3 x4))):=fun J=>by kernel_rfl
 exact(h jn).trans (by
  simp only[jn_eq,i65_l5_eq m]
  rfl)
theorem i65_eq (m:Nat) (a0:Dt) (a1 a2:Int):e65 jn m [] [] ⟨[(.dat 25 a0),(.fn 86 [(.ptr 0 [] 0),(.ptr 1 [] 0)])],[(.box 3 (.dat 3 (.int a1))),(.box 3 (.dat 3 (.int a2)))],2⟩=i65 (m+1) a0 a1 a2:=by
 have h:∀J,e65 J m [] [] ⟨[(.dat 25 a0),(.fn 86 [(.ptr 0 [] 0),(.ptr 1 [] 0)])],[(.box 3 (.dat 3 (.int a1))),(.box 3 (.dat 3 (.int a2)))],2⟩=
   (bif ((Dt.I a0 0)==6) then
  (J 0 4 0 (s65_3 (Dt.L a0 3) (List.length (Dt.L a0 3):Int) 0 a1 a2) (e65 J m w65_3 [] (s65_3 (Dt.L a0 3) (List.length (Dt.L a0 3):Int) 0 a1 a2)))
   else
  (bif ((Dt.I a0 0)==5) then
  (J 0 10 0 (s65_7 (Dt.L a0 4) (List.length (Dt.L a0 4):Int) 0 a1 a2) (e65 J m w65_7 [] (s65_7 (Dt.L a0 4) (List.length (Dt.L a0 4):Int) 0 a1 a2)))
  else
  some (a1,a2))):=fun J=>by kernel_rfl
 refine(h jn).trans ?_
 simp only[jn_eq,i65_j0_eq m,i65_j4_eq m]
 rfl
noncomputable def d66 (q:Res):Option (Bool×Int×Int):=match q with
 |(.dat T0 x0,[.box T1 (.dat T2 x2),.box T3 (.dat T4 x4)])=>bif (Nat.beq T0 4&&(Nat.beq T1 3&&(Nat.beq T2 3&&(Nat.beq T3 3&&Nat.beq T4 3)))) then some (x0.toBool,x2.toInt,x4.toInt) else none
 |_=>none
theorem d66_sim {b:Res} {r:Bool×Int×Int} (h:d66 b=some r):Sim Tryd.prog b ((.dat 4 (.bool r.1)),[(.box 3 (.dat 3 (.int r.2.1))),(.box 3 (.dat 3 (.int r.2.2)))]):=by
 unfold d66 at h
 split at h
 ·obtain⟨hc,h2⟩:=bif_some h
  cases h2
  have e0:=beq_eq (and_l hc)
  have e1:=beq_eq (and_l (and_r hc))
  have e2:=beq_eq (and_l (and_r (and_r hc)))
  have e3:=beq_eq (and_l (and_r (and_r (and_r hc))))
  have e4:=beq_eq (and_r (and_r (and_r (and_r hc))))
  subst e0 e1 e2 e3 e4
  exact Sim.of (.of (.dat (.bool Tryd.underlying4)) rfl rfl) (.cons (.box (.dat (.int Tryd.underlying3))) (.cons (.box (.dat (.int Tryd.underlying3))) .nil))
 ·cases h
noncomputable def e66 (J:Nat→Nat→Nat→St→Option (Bool×Int×Int)→Option (Bool×Int×Int)) (m:Nat) (p ms:List Nat) (σ:St):=evAt Tryd.prog env (ct m) J (m+1) 86 15 Tryd.f86 d66 p ms σ
noncomputable def l66 (J:Nat→Nat→Nat→St→Option (Bool×Int×Int)→Option (Bool×Int×Int)) (m:Nat) (p ms:List Nat) (M:Nat) (σ:St):=loopAt Tryd.prog env (ct m) J (m+1) 86 15 Tryd.f86 d66 p ms M σ
theorem i66_eq (m:Nat) (a0:Dt) (a1 a2:Int):e66 jn m [] [] ⟨[(.dat 25 a0),(.ptr 0 [] 0),(.ptr 1 [] 0)],[(.box 3 (.dat 3 (.int a1))),(.box 3 (.dat 3 (.int a2)))],2⟩=i66 (m+1) a0 a1 a2:=by
 have h:∀J,e66 J m [] [] ⟨[(.dat 25 a0),(.ptr 0 [] 0),(.ptr 1 [] 0)],[(.box 3 (.dat 3 (.int a1))),(.box 3 (.dat 3 (.int a2)))],2⟩=
   ((value_nodes m a0 (IntKind.wrap .i64 (a2-a1))).bind fun r0=>
  some ((decide ((IntKind.wrap .i64 (a1+r0))<a2)),(IntKind.wrap .i64 (a1+r0)),a2)):=fun J=>by kernel_rfl
 refine(h jn).trans ?_
 rfl
noncomputable def d54 (q:Res):Option Int:=match q with
 |(.dat T0 x0,[])=>bif Nat.beq T0 3 then some x0.toInt else none
 |_=>none
theorem d54_sim {b:Res} {r:Int} (h:d54 b=some r):Sim Tryd.prog b ((.dat 3 (.int r)),[]):=by
 unfold d54 at h
 split at h
 ·obtain⟨hc,h2⟩:=bif_some h
  cases h2
  have e0:=beq_eq hc
  subst e0
  exact Sim.of (.of (.dat (.int Tryd.underlying3)) rfl rfl) .nil
 ·cases h
noncomputable def e54 (J:Nat→Nat→Nat→St→Option Int→Option Int) (m:Nat) (p ms:List Nat) (σ:St):=evAt Tryd.prog env (ct m) J (m+1) 51 5 Tryd.f51 d54 p ms σ
noncomputable def l54 (J:Nat→Nat→Nat→St→Option Int→Option Int) (m:Nat) (p ms:List Nat) (M:Nat) (σ:St):=loopAt Tryd.prog env (ct m) J (m+1) 51 5 Tryd.f51 d54 p ms M σ
theorem value_Nodes_eq (m:Nat) (a0:Dt):e54 jn m [] [] ⟨[(.dat 25 a0)],[],0⟩=value_Nodes (m+1) a0:=by
 have h:∀J,e54 J m [] [] ⟨[(.dat 25 a0)],[],0⟩=
   ((value_nodes m a0 1025).bind fun r0=>
  some r0):=fun J=>by kernel_rfl
 refine(h jn).trans ?_
 rfl
noncomputable def d62 (q:Res):Option Int:=match q with
 |(.dat T0 x0,[])=>bif Nat.beq T0 3 then some x0.toInt else none
 |_=>none
theorem d62_sim {b:Res} {r:Int} (h:d62 b=some r):Sim Tryd.prog b ((.dat 3 (.int r)),[]):=by
 unfold d62 at h
 split at h
 ·obtain⟨hc,h2⟩:=bif_some h
  cases h2
  have e0:=beq_eq hc
  subst e0
  exact Sim.of (.of (.dat (.int Tryd.underlying3)) rfl rfl) .nil
 ·cases h
noncomputable def e62 (J:Nat→Nat→Nat→St→Option Int→Option Int) (m:Nat) (p ms:List Nat) (σ:St):=evAt Tryd.prog env (ct m) J (m+1) 73 13 Tryd.f73 d62 p ms σ
noncomputable def l62 (J:Nat→Nat→Nat→St→Option Int→Option Int) (m:Nat) (p ms:List Nat) (M:Nat) (σ:St):=loopAt Tryd.prog env (ct m) J (m+1) 73 13 Tryd.f73 d62 p ms M σ
noncomputable def s62_0 (x0:Dt) (x1:Int):St:=⟨tsOf [(2,(.ptr 0 [] 0)),(3,(.ptr 1 [] 0))],[(.box 25 (.dat 25 x0)),(.box 3 (.dat 3 (.int x1)))],0⟩
theorem value_depth_j0_eq (m:Nat) (x0:Dt) (x1:Int):e62 jn m [1,1] [] (s62_0 x0 x1)=value_depth_j0 m (i67 m) x0 x1:=by
 have h:∀J,e62 J m [1,1] [] (s62_0 x0 x1)=
   ((i67 m x0 0 x1).bind fun r0=>
  some (IntKind.wrap .i64 (1+r0.1))):=fun J=>by kernel_rfl
 exact(h jn).trans (rfl)
theorem value_depth_eq (m:Nat) (a0:Dt) (a1:Int):e62 jn m [] [] ⟨[(.dat 25 a0),(.dat 3 (.int a1))],[],0⟩=value_depth (m+1) a0 a1:=by
 have h:∀J,e62 J m [] [] ⟨[(.dat 25 a0),(.dat 3 (.int a1))],[],0⟩=
   (bif (a1==1) then
  some 1
   else
  (J 0 3 0 (s62_0 a0 a1) (e62 J m [1,1] [] (s62_0 a0 a1)))):=fun J=>by kernel_rfl
 refine(h jn).trans ?_
 simp only[jn_eq,value_depth_j0_eq m]
 rfl
noncomputable def d67 (q:Res):Option (Int×Int):=match q with
 |(.tup [],[.box T0 (.dat T1 x1),.box T2 (.dat T3 x3)])=>bif (Nat.beq T0 3&&(Nat.beq T1 3&&(Nat.beq T2 3&&Nat.beq T3 3))) then some (x1.toInt,x3.toInt) else none
 |_=>none
def w67_0:List Nat:=[1,1,0,1,0,1,0]
def w67_1:List Nat:=[1,1,0,1,0,1,0,0,1,1,1]
def w67_2:List Nat:=[1,1,0,1,0,1,0,0,1,1]
def w67_3:List Nat:=[1,1,0,1,0,1]
def w67_4:List Nat:=[1,1,0,1,1,1,0,1,0]
def w67_5:List Nat:=[1,1,0,1,1,1,0,1,0,0,1,1,1]
def w67_6:List Nat:=[1,1,0,1,1,1,0,1,0,0,1,1]
def w67_7:List Nat:=[1,1,0,1,1,1,0,1]
theorem d67_sim {b:Res} {r:Int×Int} (h:d67 b=some r):Sim Tryd.prog b ((.tup []),[(.box 3 (.dat 3 (.int r.1))),(.box 3 (.dat 3 (.int r.2)))]):=by
 unfold d67 at h
 split at h
 ·obtain⟨hc,h2⟩:=bif_some h
  cases h2
  have e0:=beq_eq (and_l hc)
  have e1:=beq_eq (and_l (and_r hc))
  have e2:=beq_eq (and_l (and_r (and_r hc)))
  have e3:=beq_eq (and_r (and_r (and_r hc)))
  subst e0 e1 e2 e3
  exact Sim.of (.tup .nil) (.cons (.box (.dat (.int Tryd.underlying3))) (.cons (.box (.dat (.int Tryd.underlying3))) .nil))
 ·cases h
noncomputable def e67 (J:Nat→Nat→Nat→St→Option (Int×Int)→Option (Int×Int)) (m:Nat) (p ms:List Nat) (σ:St):=evAt Tryd.prog env (ct m) J (m+1) 85 39 Tryd.f85 d67 p ms σ
noncomputable def l67 (J:Nat→Nat→Nat→St→Option (Int×Int)→Option (Int×Int)) (m:Nat) (p ms:List Nat) (M:Nat) (σ:St):=loopAt Tryd.prog env (ct m) J (m+1) 85 39 Tryd.f85 d67 p ms M σ
noncomputable def s67_3 (x0:List Dt) (x1 x2 x3 x4:Int):St:=⟨tsOf [(1,(.fn 87 [(.ptr 0 [] 0),(.ptr 1 [] 0)])),(13,(.dat 22 (.lst x0))),(14,(.dat 3 (.int x1))),(15,(.dat 3 (.int x2)))],[(.box 3 (.dat 3 (.int x3))),(.box 3 (.dat 3 (.int x4)))],2⟩
noncomputable def s67_7 (x0:List Dt) (x1 x2 x3 x4:Int):St:=⟨tsOf [(1,(.fn 87 [(.ptr 0 [] 0),(.ptr 1 [] 0)])),(27,(.dat 23 (.lst x0))),(28,(.dat 3 (.int x1))),(29,(.dat 3 (.int x2)))],[(.box 3 (.dat 3 (.int x3))),(.box 3 (.dat 3 (.int x4)))],2⟩
theorem i67_j3_eq (m:Nat) (M1:Nat) (rec1:List Dt→Int→Int→Int→Int→Option (Int×Int)) (h1:∀(x0:List Dt) (x1 x2 x3 x4:Int),l67 jn m w67_0 [] M1 (s67_3 x0 x1 x2 x3 x4)=rec1 x0 x1 x2 x3 x4) (x0:List Dt) (x1 x2 x3 x4:Int):e67 jn m w67_1 [M1] (s67_3 x0 x1 x2 x3 x4)=i67_j3 m (i68 m) rec1 x0 x1 x2 x3 x4:=by
 have h:∀J,e67 J m w67_1 [M1] (s67_3 x0 x1 x2 x3 x4)=
  (J 1 4 M1 (s67_3 x0 x1 (IntKind.wrap .i64 (x2+1)) x3 x4) (l67 J m w67_0 [] M1 (s67_3 x0 x1 (IntKind.wrap .i64 (x2+1)) x3 x4))):=fun J=>by kernel_rfl
 exact(h jn).trans (by
  simp only[jn_eq,h1]
  rfl)
theorem i67_j2_eq (m:Nat) (M1:Nat) (rec1:List Dt→Int→Int→Int→Int→Option (Int×Int)) (h1:∀(x0:List Dt) (x1 x2 x3 x4:Int),l67 jn m w67_0 [] M1 (s67_3 x0 x1 x2 x3 x4)=rec1 x0 x1 x2 x3 x4) (x0:List Dt) (x1 x2 x3 x4:Int):e67 jn m w67_2 [M1] (s67_3 x0 x1 x2 x3 x4)=i67_j2 m (i68 m) rec1 x0 x1 x2 x3 x4:=by
 have h:∀J,e67 J m w67_2 [M1] (s67_3 x0 x1 x2 x3 x4)=
   ((idx x0 x2).bind fun v0=>
  ((i68 m v0 x3 x4).bind fun r1=>
  (bif (Bool.not r1.1) then
  some (r1.2.1,r1.2.2)
  else
  (J 0 7 0 (s67_3 x0 x1 x2 r1.2.1 r1.2.2) (e67 J m w67_1 [M1] (s67_3 x0 x1 x2 r1.2.1 r1.2.2)))))):=fun J=>by kernel_rfl
 exact(h jn).trans (by
   simp only[jn_eq,i67_j3_eq m M1 rec1 h1]
   rfl)
theorem i67_l1_eq (m:Nat):∀(M1:Nat) (x0:List Dt) (x1 x2 x3 x4:Int),l67 jn m w67_0 [] M1 (s67_3 x0 x1 x2 x3 x4)=i67_l1 m (i68 m) M1 x0 x1 x2 x3 x4
 |0,_,_,_,_,_=>rfl
 | M1+1,x0,x1,x2,x3,x4=>by
   have h:∀J,l67 J m w67_0 [] (M1+1) (s67_3 x0 x1 x2 x3 x4)=
   (bif (decide (x2<x1)) then
  (J 0 5 0 (s67_3 x0 x1 x2 x3 x4) (e67 J m w67_2 [M1] (s67_3 x0 x1 x2 x3 x4)))
   else
  some (x3,x4)):=fun J=>by kernel_rfl
   refine(h jn).trans ?_
   simp only[jn_eq,i67_j2_eq m M1 (i67_l1 m (i68 m) M1) (fun x0 x1 x2 x3 x4=>i67_l1_eq m M1 x0 x1 x2 x3 x4)]
   rfl
theorem i67_j0_eq (m:Nat) (x0:List Dt) (x1 x2 x3 x4:Int):e67 jn m w67_3 [] (s67_3 x0 x1 x2 x3 x4)=i67_j0 m (i68 m) x0 x1 x2 x3 x4:=by
 have h:∀J,e67 J m w67_3 [] (s67_3 x0 x1 x2 x3 x4)=
  (J 1 4 (Nat.succ m) (s67_3 x0 x1 x2 x3 x4) (l67 J m w67_0 [] (Nat.succ m) (s67_3 x0 x1 x2 x3 x4))):=fun J=>by kernel_rfl
 exact(h jn).trans (by
  simp only[jn_eq,i67_l1_eq m]
  rfl)
theorem i67_j7_eq (m:Nat) (M5:Nat) (rec5:List Dt→Int→Int→Int→Int→Option (Int×Int)) (h5:∀(x0:List Dt) (x1 x2 x3 x4:Int),l67 jn m w67_4 [] M5 (s67_7 x0 x1 x2 x3 x4)=rec5 x0 x1 x2 x3 x4) (x0:List Dt) (x1 x2 x3 x4:Int):e67 jn m w67_5 [M5] (s67_7 x0 x1 x2 x3 x4)=i67_j7 m (i68 m) rec5 x0 x1 x2 x3 x4:=by
 have h:∀J,e67 J m w67_5 [M5] (s67_7 x0 x1 x2 x3 x4)=
  (J 1 10 M5 (s67_7 x0 x1 (IntKind.wrap .i64 (x2+1)) x3 x4) (l67 J m w67_4 [] M5 (s67_7 x0 x1 (IntKind.wrap .i64 (x2+1)) x3 x4))):=fun J=>by kernel_rfl
 exact(h jn).trans (by
  simp only[jn_eq,h5]
  rfl)
theorem i67_j6_eq (m:Nat) (M5:Nat) (rec5:List Dt→Int→Int→Int→Int→Option (Int×Int)) (h5:∀(x0:List Dt) (x1 x2 x3 x4:Int),l67 jn m w67_4 [] M5 (s67_7 x0 x1 x2 x3 x4)=rec5 x0 x1 x2 x3 x4) (x0:List Dt) (x1 x2 x3 x4:Int):e67 jn m w67_6 [M5] (s67_7 x0 x1 x2 x3 x4)=i67_j6 m (i68 m) rec5 x0 x1 x2 x3 x4:=by
 have h:∀J,e67 J m w67_6 [M5] (s67_7 x0 x1 x2 x3 x4)=
   ((idx x0 x2).bind fun v2=>
  ((i68 m (Dt.fld v2 1) x3 x4).bind fun r3=>
  (bif (Bool.not r3.1) then
  some (r3.2.1,r3.2.2)
  else
  (J 0 13 0 (s67_7 x0 x1 x2 r3.2.1 r3.2.2) (e67 J m w67_5 [M5] (s67_7 x0 x1 x2 r3.2.1 r3.2.2)))))):=fun J=>by kernel_rfl
 exact(h jn).trans (by
   simp only[jn_eq,i67_j7_eq m M5 rec5 h5]
   rfl)
theorem i67_l5_eq (m:Nat):∀(M5:Nat) (x0:List Dt) (x1 x2 x3 x4:Int),l67 jn m w67_4 [] M5 (s67_7 x0 x1 x2 x3 x4)=i67_l5 m (i68 m) M5 x0 x1 x2 x3 x4
 |0,_,_,_,_,_=>rfl
 | M5+1,x0,x1,x2,x3,x4=>by
   have h:∀J,l67 J m w67_4 [] (M5+1) (s67_7 x0 x1 x2 x3 x4)=
   (bif (decide (x2<x1)) then
  (J 0 11 0 (s67_7 x0 x1 x2 x3 x4) (e67 J m w67_6 [M5] (s67_7 x0 x1 x2 x3 x4)))
   else
  some (x3,x4)):=fun J=>by kernel_rfl
   refine(h jn).trans ?_
   simp only[jn_eq,i67_j6_eq m M5 (i67_l5 m (i68 m) M5) (fun x0 x1 x2 x3 x4=>i67_l5_eq m M5 x0 x1 x2 x3 x4)]
   rfl
theorem i67_j4_eq (m:Nat) (x0:List Dt) (x1 x2 x3 x4:Int):e67 jn m w67_7 [] (s67_7 x0 x1 x2 x3 x4)=i67_j4 m (i68 m) x0 x1 x2 x3 x4:=by
 have h:∀J,e67 J m w67_7 [] (s67_7 x0 x1 x2 x3 x4)=
  (J 1 10 (Nat.succ m) (s67_7 x0 x1 x2 x3 x4) (l67 J m w67_4 [] (Nat.succ m) (s67_7 x0 x1 x2 x3 x4))):=fun J=>by kernel_rfl
 exact(h jn).trans (by
  simp only[jn_eq,i67_l5_eq m]
  rfl)
theorem i67_eq (m:Nat) (a0:Dt) (a1 a2:Int):e67 jn m [] [] ⟨[(.dat 25 a0),(.fn 87 [(.ptr 0 [] 0),(.ptr 1 [] 0)])],[(.box 3 (.dat 3 (.int a1))),(.box 3 (.dat 3 (.int a2)))],2⟩=i67 (m+1) a0 a1 a2:=by
 have h:∀J,e67 J m [] [] ⟨[(.dat 25 a0),(.fn 87 [(.ptr 0 [] 0),(.ptr 1 [] 0)])],[(.box 3 (.dat 3 (.int a1))),(.box 3 (.dat 3 (.int a2)))],2⟩=
   (bif ((Dt.I a0 0)==6) then
  (J 0 4 0 (s67_3 (Dt.L a0 3) (List.length (Dt.L a0 3):Int) 0 a1 a2) (e67 J m w67_3 [] (s67_3 (Dt.L a0 3) (List.length (Dt.L a0 3):Int) 0 a1 a2)))
   else
  (bif ((Dt.I a0 0)==5) then
  (J 0 10 0 (s67_7 (Dt.L a0 4) (List.length (Dt.L a0 4):Int) 0 a1 a2) (e67 J m w67_7 [] (s67_7 (Dt.L a0 4) (List.length (Dt.L a0 4):Int) 0 a1 a2)))
  else
  some (a1,a2))):=fun J=>by kernel_rfl
 refine(h jn).trans ?_
 simp only[jn_eq,i67_j0_eq m,i67_j4_eq m]
 rfl
noncomputable def d68 (q:Res):Option (Bool×Int×Int):=match q with
 |(.dat T0 x0,[.box T1 (.dat T2 x2),.box T3 (.dat T4 x4)])=>bif (Nat.beq T0 4&&(Nat.beq T1 3&&(Nat.beq T2 3&&(Nat.beq T3 3&&Nat.beq T4 3)))) then some (x0.toBool,x2.toInt,x4.toInt) else none
 |_=>none
theorem d68_sim {b:Res} {r:Bool×Int×Int} (h:d68 b=some r):Sim Tryd.prog b ((.dat 4 (.bool r.1)),[(.box 3 (.dat 3 (.int r.2.1))),(.box 3 (.dat 3 (.int r.2.2)))]):=by
 unfold d68 at h
 split at h
 ·obtain⟨hc,h2⟩:=bif_some h
  cases h2
  have e0:=beq_eq (and_l hc)
  have e1:=beq_eq (and_l (and_r hc))
  have e2:=beq_eq (and_l (and_r (and_r hc)))
  have e3:=beq_eq (and_l (and_r (and_r (and_r hc))))
  have e4:=beq_eq (and_r (and_r (and_r (and_r hc))))
  subst e0 e1 e2 e3 e4
  exact Sim.of (.of (.dat (.bool Tryd.underlying4)) rfl rfl) (.cons (.box (.dat (.int Tryd.underlying3))) (.cons (.box (.dat (.int Tryd.underlying3))) .nil))
 ·cases h
noncomputable def e68 (J:Nat→Nat→Nat→St→Option (Bool×Int×Int)→Option (Bool×Int×Int)) (m:Nat) (p ms:List Nat) (σ:St):=evAt Tryd.prog env (ct m) J (m+1) 87 15 Tryd.f87 d68 p ms σ
noncomputable def l68 (J:Nat→Nat→Nat→St→Option (Bool×Int×Int)→Option (Bool×Int×Int)) (m:Nat) (p ms:List Nat) (M:Nat) (σ:St):=loopAt Tryd.prog env (ct m) J (m+1) 87 15 Tryd.f87 d68 p ms M σ
theorem i68_eq (m:Nat) (a0:Dt) (a1 a2:Int):e68 jn m [] [] ⟨[(.dat 25 a0),(.ptr 0 [] 0),(.ptr 1 [] 0)],[(.box 3 (.dat 3 (.int a1))),(.box 3 (.dat 3 (.int a2)))],2⟩=i68 (m+1) a0 a1 a2:=by
 have h:∀J,e68 J m [] [] ⟨[(.dat 25 a0),(.ptr 0 [] 0),(.ptr 1 [] 0)],[(.box 3 (.dat 3 (.int a1))),(.box 3 (.dat 3 (.int a2)))],2⟩=
   ((value_depth m a0 (IntKind.wrap .i64 (a2-1))).bind fun r0=>
  some ((decide ((bif (decide (a1<r0)) then r0 else a1)<(IntKind.wrap .i64 (a2-1)))),(bif (decide (a1<r0)) then r0 else a1),a2)):=fun J=>by kernel_rfl
 refine(h jn).trans ?_
 rfl
noncomputable def d55 (q:Res):Option Int:=match q with
 |(.dat T0 x0,[])=>bif Nat.beq T0 3 then some x0.toInt else none
 |_=>none
theorem d55_sim {b:Res} {r:Int} (h:d55 b=some r):Sim Tryd.prog b ((.dat 3 (.int r)),[]):=by
 unfold d55 at h
 split at h
 ·obtain⟨hc,h2⟩:=bif_some h
  cases h2
  have e0:=beq_eq hc
  subst e0
  exact Sim.of (.of (.dat (.int Tryd.underlying3)) rfl rfl) .nil
 ·cases h
noncomputable def e55 (J:Nat→Nat→Nat→St→Option Int→Option Int) (m:Nat) (p ms:List Nat) (σ:St):=evAt Tryd.prog env (ct m) J (m+1) 52 5 Tryd.f52 d55 p ms σ
noncomputable def l55 (J:Nat→Nat→Nat→St→Option Int→Option Int) (m:Nat) (p ms:List Nat) (M:Nat) (σ:St):=loopAt Tryd.prog env (ct m) J (m+1) 52 5 Tryd.f52 d55 p ms M σ
theorem value_Depth_eq (m:Nat) (a0:Dt):e55 jn m [] [] ⟨[(.dat 25 a0)],[],0⟩=value_Depth (m+1) a0:=by
 have h:∀J,e55 J m [] [] ⟨[(.dat 25 a0)],[],0⟩=
   ((value_depth m a0 17).bind fun r0=>
  some r0):=fun J=>by kernel_rfl
 refine(h jn).trans ?_
 rfl
noncomputable def d69 (q:Res):Option Bool:=match q with
 |(.dat T0 x0,[])=>bif Nat.beq T0 4 then some x0.toBool else none
 |_=>none
def w69_0:List Nat:=[1,1,0,1,0]
def w69_1:List Nat:=[1,1,0,1,0,0,1,1,1]
def w69_2:List Nat:=[1,1,0,1,0,0,1,1,0,0,1,1]
def w69_3:List Nat:=[1,1,0,1,0,0,1,1]
theorem d69_sim {b:Res} {r:Bool} (h:d69 b=some r):Sim Tryd.prog b ((.dat 4 (.bool r)),[]):=by
 unfold d69 at h
 split at h
 ·obtain⟨hc,h2⟩:=bif_some h
  cases h2
  have e0:=beq_eq hc
  subst e0
  exact Sim.of (.of (.dat (.bool Tryd.underlying4)) rfl rfl) .nil
 ·cases h
noncomputable def e69 (J:Nat→Nat→Nat→St→Option Bool→Option Bool) (m:Nat) (p ms:List Nat) (σ:St):=evAt Tryd.prog env (ct m) J (m+1) 99 39 Tryd.f99 d69 p ms σ
noncomputable def l69 (J:Nat→Nat→Nat→St→Option Bool→Option Bool) (m:Nat) (p ms:List Nat) (M:Nat) (σ:St):=loopAt Tryd.prog env (ct m) J (m+1) 99 39 Tryd.f99 d69 p ms M σ
noncomputable def s69_6 (x0:ByteArray) (x1 x2:Int):St:=⟨tsOf [(0,(.dat 9 (.str x0))),(18,(.dat 3 (.int x1))),(19,(.dat 3 (.int x2)))],[],0⟩
noncomputable def s69_5 (x0:ByteArray) (x1 x2:Int) (x3:Bool):St:=⟨tsOf [(0,(.dat 9 (.str x0))),(18,(.dat 3 (.int x1))),(19,(.dat 3 (.int x2))),(37,(.dat 4 (.bool x3)))],[],0⟩
noncomputable def s69_7:St:=⟨tsOf [],[],0⟩
noncomputable def s69_1 (x0:ByteArray):St:=⟨tsOf [(0,(.dat 9 (.str x0)))],[],0⟩
noncomputable def s69_0 (x0:ByteArray) (x1:Bool):St:=⟨tsOf [(0,(.dat 9 (.str x0))),(16,(.dat 4 (.bool x1)))],[],0⟩
theorem value_isName_j6_eq (m:Nat) (M3:Nat) (rec3:ByteArray→Int→Int→Option Bool) (h3:∀(x0:ByteArray) (x1 x2:Int),l69 jn m w69_0 [] M3 (s69_6 x0 x1 x2)=rec3 x0 x1 x2) (x0:ByteArray) (x1 x2:Int):e69 jn m w69_1 [M3] (s69_6 x0 x1 x2)=value_isName_j6 m rec3 x0 x1 x2:=by
 have h:∀J,e69 J m w69_1 [M3] (s69_6 x0 x1 x2)=
  (J 1 4 M3 (s69_6 x0 x1 (IntKind.wrap .i64 (x2+1))) (l69 J m w69_0 [] M3 (s69_6 x0 x1 (IntKind.wrap .i64 (x2+1))))):=fun J=>by kernel_rfl
 exact(h jn).trans (by
  simp only[jn_eq,h3]
  rfl)
theorem value_isName_j5_eq (m:Nat) (M3:Nat) (rec3:ByteArray→Int→Int→Option Bool) (h3:∀(x0:ByteArray) (x1 x2:Int),l69 jn m w69_0 [] M3 (s69_6 x0 x1 x2)=rec3 x0 x1 x2) (x0:ByteArray) (x1 x2:Int) (x3:Bool):e69 jn m w69_2 [M3] (s69_5 x0 x1 x2 x3)=value_isName_j5 m rec3 x0 x1 x2 x3:=by
 have h:∀J,e69 J m w69_2 [M3] (s69_5 x0 x1 x2 x3)=
   (bif x3 then
  some false
   else
  (J 0 8 0 (s69_6 x0 x1 x2) (e69 J m w69_1 [M3] (s69_6 x0 x1 x2)))):=fun J=>by kernel_rfl
 exact(h jn).trans (by
   simp only[jn_eq,value_isName_j6_eq m M3 rec3 h3]
   rfl)
theorem value_isName_j4_eq (m:Nat) (M3:Nat) (rec3:ByteArray→Int→Int→Option Bool) (h3:∀(x0:ByteArray) (x1 x2:Int),l69 jn m w69_0 [] M3 (s69_6 x0 x1 x2)=rec3 x0 x1 x2) (x0:ByteArray) (x1 x2:Int):e69 jn m w69_3 [M3] (s69_6 x0 x1 x2)=value_isName_j4 m rec3 x0 x1 x2:=by
 have h:∀J,e69 J m w69_3 [M3] (s69_6 x0 x1 x2)=
   ((idxS x0 x2).bind fun v0=>
  (bif (decide (v0<33)) then
  (J 0 7 0 (s69_5 x0 x1 x2 true) (e69 J m w69_2 [M3] (s69_5 x0 x1 x2 true)))
  else
  ((idxS x0 x2).bind fun v1=>
  (bif (decide (126<v1)) then
  (J 0 7 0 (s69_5 x0 x1 x2 true) (e69 J m w69_2 [M3] (s69_5 x0 x1 x2 true)))
  else
  ((idxS x0 x2).bind fun v2=>
  (J 0 7 0 (s69_5 x0 x1 x2 (v2==46)) (e69 J m w69_2 [M3] (s69_5 x0 x1 x2 (v2==46))))))))):=fun J=>by kernel_rfl
 exact(h jn).trans (by
   simp only[jn_eq,value_isName_j5_eq m M3 rec3 h3]
   rfl)
theorem value_isName_j7_eq (m:Nat):e69 jn m [1,1,1] [] s69_7=value_isName_j7 m:=by
 have h:∀J,e69 J m [1,1,1] [] s69_7=
  some true:=fun J=>by kernel_rfl
 exact(h jn).trans (rfl)
theorem value_isName_l3_eq (m:Nat):∀(M3:Nat) (x0:ByteArray) (x1 x2:Int),l69 jn m w69_0 [] M3 (s69_6 x0 x1 x2)=value_isName_l3 m M3 x0 x1 x2
 |0,_,_,_=>rfl
 | M3+1,x0,x1,x2=>by
   have h:∀J,l69 J m w69_0 [] (M3+1) (s69_6 x0 x1 x2)=
   (bif (decide (x2<x1)) then
  (J 0 5 0 (s69_6 x0 x1 x2) (e69 J m w69_3 [M3] (s69_6 x0 x1 x2)))
   else
  (J 0 9 0 s69_7 (e69 J m [1,1,1] [] s69_7))):=fun J=>by kernel_rfl
   refine(h jn).trans ?_
   simp only[jn_eq,value_isName_j4_eq m M3 (value_isName_l3 m M3) (fun x0 x1 x2=>value_isName_l3_eq m M3 x0 x1 x2),value_isName_j7_eq m]
   rfl
theorem value_isName_j2_eq (m:Nat) (x0:ByteArray) (x1 x2:Int):e69 jn m [1,1,0,1] [] (s69_6 x0 x1 x2)=value_isName_j2 m x0 x1 x2:=by
 have h:∀J,e69 J m [1,1,0,1] [] (s69_6 x0 x1 x2)=
  (J 1 4 (Nat.succ m) (s69_6 x0 x1 x2) (l69 J m w69_0 [] (Nat.succ m) (s69_6 x0 x1 x2))):=fun J=>by kernel_rfl
 exact(h jn).trans (by
  simp only[jn_eq,value_isName_l3_eq m]
  rfl)
theorem value_isName_j1_eq (m:Nat) (x0:ByteArray):e69 jn m [1,1] [] (s69_1 x0)=value_isName_j1 m x0:=by
 have h:∀J,e69 J m [1,1] [] (s69_1 x0)=
  (J 0 4 0 (s69_6 x0 (ByteArray.size x0:Int) 0) (e69 J m [1,1,0,1] [] (s69_6 x0 (ByteArray.size x0:Int) 0))):=fun J=>by kernel_rfl
 exact(h jn).trans (by
  simp only[jn_eq,value_isName_j2_eq m]
  rfl)
theorem value_isName_j0_eq (m:Nat) (x0:ByteArray) (x1:Bool):e69 jn m [1,0,1] [] (s69_0 x0 x1)=value_isName_j0 m x0 x1:=by
 have h:∀J,e69 J m [1,0,1] [] (s69_0 x0 x1)=
   (bif x1 then
  some false
   else
  (J 0 3 0 (s69_1 x0) (e69 J m [1,1] [] (s69_1 x0)))):=fun J=>by kernel_rfl
 exact(h jn).trans (by
   simp only[jn_eq,value_isName_j1_eq m]
   rfl)
theorem value_isName_eq (m:Nat) (a0:ByteArray):e69 jn m [] [] ⟨[(.dat 9 (.str a0))],[],0⟩=value_isName (m+1) a0:=by
 have h:∀J,e69 J m [] [] ⟨[(.dat 9 (.str a0))],[],0⟩=
   (bif (decide ((ByteArray.size a0:Int)<1)) then
  (J 0 2 0 (s69_0 a0 true) (e69 J m [1,0,1] [] (s69_0 a0 true)))
   else
  (bif (decide (32<(ByteArray.size a0:Int))) then
  (J 0 2 0 (s69_0 a0 true) (e69 J m [1,0,1] [] (s69_0 a0 true)))
  else
  ((idxS a0 0).bind fun v3=>
  (J 0 2 0 (s69_0 a0 (v3==36)) (e69 J m [1,0,1] [] (s69_0 a0 (v3==36))))))):=fun J=>by kernel_rfl
 refine(h jn).trans ?_
 simp only[jn_eq,value_isName_j0_eq m]
 rfl
noncomputable def d56 (q:Res):Option Bool:=match q with
 |(.dat T0 x0,[])=>bif Nat.beq T0 4 then some x0.toBool else none
 |_=>none
def w56_0:List Nat:=[1,1,1,1,1,0,1,0,1,1,1,1,1,1,1,1,1,1,1,1,1,0,0,1,0]
def w56_1:List Nat:=[1,1,1,1,1,0,1,0,1,1,1,1,1,1,1,1,1,1,1,1,1,0,0,1,0,0,1,1,1]
def w56_2:List Nat:=[1,1,1,1,1,0,1,0,1,1,1,1,1,1,1,1,1,1,1,1,1,0,0,1,0,0,1,1]
def w56_3:List Nat:=[1,1,1,1,1,0,1,0,1,1,1,1,1,1,1,1,1,1,1,1,1,0,1]
def w56_4:List Nat:=[1,1,1,1,1,0,1,0,1,1,1,1,1,1,1,1,1,1,1,1,1,0,0,1]
def w56_5:List Nat:=[1,1,1,1,1,1]
def w56_6:List Nat:=[1,1,1,1,1,0,1,0,1]
def w56_7:List Nat:=[1,1,1,1,1]
def w56_8:List Nat:=[1,1,1,1,0,1]
def w56_9:List Nat:=[1,1,1,0,1]
theorem d56_sim {b:Res} {r:Bool} (h:d56 b=some r):Sim Tryd.prog b ((.dat 4 (.bool r)),[]):=by
 unfold d56 at h
 split at h
 ·obtain⟨hc,h2⟩:=bif_some h
  cases h2
  have e0:=beq_eq hc
  subst e0
  exact Sim.of (.of (.dat (.bool Tryd.underlying4)) rfl rfl) .nil
 ·cases h
noncomputable def e56 (J:Nat→Nat→Nat→St→Option Bool→Option Bool) (m:Nat) (p ms:List Nat) (σ:St):=evAt Tryd.prog env (ct m) J (m+1) 75 132 Tryd.f75 d56 p ms σ
noncomputable def l56 (J:Nat→Nat→Nat→St→Option Bool→Option Bool) (m:Nat) (p ms:List Nat) (M:Nat) (σ:St):=loopAt Tryd.prog env (ct m) J (m+1) 75 132 Tryd.f75 d56 p ms M σ
noncomputable def s56_10 (x0:List Dt) (x1 x2:Int):St:=⟨tsOf [(117,(.dat 22 (.lst x0))),(118,(.dat 3 (.int x1))),(119,(.dat 3 (.int x2)))],[],0⟩
noncomputable def s56_11:St:=⟨tsOf [],[],0⟩
noncomputable def s56_6 (x0:Int) (x1:Bool) (x2:Dt):St:=⟨tsOf [(1,(.ptr 0 [] 0)),(70,(.dat 3 (.int x0))),(71,(.dat 4 (.bool x1)))],[(.box 25 (.dat 25 x2))],0⟩
noncomputable def s56_5 (x0:Dt):St:=⟨tsOf [(1,(.ptr 0 [] 0))],[(.box 25 (.dat 25 x0))],0⟩
noncomputable def s56_4 (x0:Bool) (x1:Dt):St:=⟨tsOf [(1,(.ptr 0 [] 0)),(68,(.dat 4 (.bool x0)))],[(.box 25 (.dat 25 x1))],0⟩
noncomputable def s56_2 (x0:Bool) (x1:Dt):St:=⟨tsOf [(1,(.ptr 0 [] 0)),(48,(.dat 4 (.bool x0)))],[(.box 25 (.dat 25 x1))],0⟩
noncomputable def s56_1 (x0 x1:Bool) (x2:Dt):St:=⟨tsOf [(1,(.ptr 0 [] 0)),(3,(.dat 4 (.bool x0))),(4,(.dat 4 (.bool x1)))],[(.box 25 (.dat 25 x2))],0⟩
noncomputable def s56_0 (x0:Bool) (x1:Dt):St:=⟨tsOf [(1,(.ptr 0 [] 0)),(3,(.dat 4 (.bool x0)))],[(.box 25 (.dat 25 x1))],0⟩
theorem value_sound_j10_eq (m:Nat) (M8:Nat) (rec8:List Dt→Int→Int→Option Bool) (h8:∀(x0:List Dt) (x1 x2:Int),l56 jn m w56_0 [] M8 (s56_10 x0 x1 x2)=rec8 x0 x1 x2) (x0:List Dt) (x1 x2:Int):e56 jn m w56_1 [M8] (s56_10 x0 x1 x2)=value_sound_j10 m (value_sound m) (value_soundFields m) rec8 x0 x1 x2:=by
 have h:∀J,e56 J m w56_1 [M8] (s56_10 x0 x1 x2)=
  (J 1 25 M8 (s56_10 x0 x1 (IntKind.wrap .i64 (x2+1))) (l56 J m w56_0 [] M8 (s56_10 x0 x1 (IntKind.wrap .i64 (x2+1))))):=fun J=>by kernel_rfl
 exact(h jn).trans (by
  simp only[jn_eq,h8]
  rfl)
theorem value_sound_j9_eq (m:Nat) (M8:Nat) (rec8:List Dt→Int→Int→Option Bool) (h8:∀(x0:List Dt) (x1 x2:Int),l56 jn m w56_0 [] M8 (s56_10 x0 x1 x2)=rec8 x0 x1 x2) (x0:List Dt) (x1 x2:Int):e56 jn m w56_2 [M8] (s56_10 x0 x1 x2)=value_sound_j9 m (value_sound m) (value_soundFields m) rec8 x0 x1 x2:=by
 have h:∀J,e56 J m w56_2 [M8] (s56_10 x0 x1 x2)=
   ((idx x0 x2).bind fun v1=>
  ((value_sound m v1).bind fun r2=>
  (bif (Bool.not r2) then
  some false
  else
  (J 0 29 0 (s56_10 x0 x1 x2) (e56 J m w56_1 [M8] (s56_10 x0 x1 x2)))))):=fun J=>by kernel_rfl
 exact(h jn).trans (by
   simp only[jn_eq,value_sound_j10_eq m M8 rec8 h8]
   rfl)
theorem value_sound_j11_eq (m:Nat):e56 jn m w56_3 [] s56_11=value_sound_j11 m (value_sound m) (value_soundFields m):=by
 have h:∀J,e56 J m w56_3 [] s56_11=
  some true:=fun J=>by kernel_rfl
 exact(h jn).trans (rfl)
theorem value_sound_l8_eq (m:Nat):∀(M8:Nat) (x0:List Dt) (x1 x2:Int),l56 jn m w56_0 [] M8 (s56_10 x0 x1 x2)=value_sound_l8 m (value_sound m) (value_soundFields m) M8 x0 x1 x2
 |0,_,_,_=>rfl
 | M8+1,x0,x1,x2=>by
   have h:∀J,l56 J m w56_0 [] (M8+1) (s56_10 x0 x1 x2)=
   (bif (decide (x2<x1)) then
  (J 0 26 0 (s56_10 x0 x1 x2) (e56 J m w56_2 [M8] (s56_10 x0 x1 x2)))
   else
  (J 0 30 0 s56_11 (e56 J m w56_3 [] s56_11))):=fun J=>by kernel_rfl
   refine(h jn).trans ?_
   simp only[jn_eq,value_sound_j9_eq m M8 (value_sound_l8 m (value_sound m) (value_soundFields m) M8) (fun x0 x1 x2=>value_sound_l8_eq m M8 x0 x1 x2),value_sound_j11_eq m]
   rfl
theorem value_sound_j7_eq (m:Nat) (x0:List Dt) (x1 x2:Int):e56 jn m w56_4 [] (s56_10 x0 x1 x2)=value_sound_j7 m (value_sound m) (value_soundFields m) x0 x1 x2:=by
 have h:∀J,e56 J m w56_4 [] (s56_10 x0 x1 x2)=
  (J 1 25 (Nat.succ m) (s56_10 x0 x1 x2) (l56 J m w56_0 [] (Nat.succ m) (s56_10 x0 x1 x2))):=fun J=>by kernel_rfl
 exact(h jn).trans (by
  simp only[jn_eq,value_sound_l8_eq m]
  rfl)
theorem value_sound_j12_eq (m:Nat):e56 jn m w56_5 [] s56_11=value_sound_j12 m (value_sound m) (value_soundFields m):=by
 have h:∀J,e56 J m w56_5 [] s56_11=
  some false:=fun J=>by kernel_rfl
 exact(h jn).trans (rfl)
theorem value_sound_j6_eq (m:Nat) (x0:Int) (x1:Bool) (x2:Dt):e56 jn m w56_6 [] (s56_6 x0 x1 x2)=value_sound_j6 m (value_sound m) (value_soundFields m) x0 x1 x2:=by
 have h:∀J,e56 J m w56_6 [] (s56_6 x0 x1 x2)=
   (bif x1 then
  some true
   else
  (bif (x0==9) then
  (bif ((Dt.I x2 1)==0) then
  some true
  else
  some ((Dt.I x2 1)==1))
  else
  (bif (x0==10) then
  some (decide (0≤(Dt.I x2 1)))
  else
  (bif (x0==4) then
  (bif (decide ((ByteArray.size (Dt.S x2 2):Int)≤4096)) then
  ((utf8_ValidString (Dt.S x2 2)).bind fun r0=>
  some r0)
  else
  some false)
  else
  (bif (x0==7) then
  some (decide ((ByteArray.size (Dt.S x2 2):Int)≤4096))
  else
  (bif (x0==8) then
  some ((ByteArray.size (Dt.S x2 2):Int)==12)
  else
  (bif (x0==6) then
  (J 0 25 0 (s56_10 (Dt.L x2 3) (List.length (Dt.L x2 3):Int) 0) (e56 J m w56_4 [] (s56_10 (Dt.L x2 3) (List.length (Dt.L x2 3):Int) 0)))
  else
  (bif (x0==5) then
  ((value_soundFields m (Dt.L x2 4)).bind fun r3=>
  some r3)
  else
  (J 0 33 0 s56_11 (e56 J m w56_5 [] s56_11)))))))))):=fun J=>by kernel_rfl
 exact(h jn).trans (by
   simp only[jn_eq,value_sound_j7_eq m,value_sound_j12_eq m]
   rfl)
theorem value_sound_j5_eq (m:Nat) (x0:Dt):e56 jn m w56_7 [] (s56_5 x0)=value_sound_j5 m (value_sound m) (value_soundFields m) x0:=by
 have h:∀J,e56 J m w56_7 [] (s56_5 x0)=
   (bif ((Dt.I x0 0)==1) then
  (J 0 12 0 (s56_6 (Dt.I x0 0) ((Dt.I x0 0)==1) x0) (e56 J m w56_6 [] (s56_6 (Dt.I x0 0) ((Dt.I x0 0)==1) x0)))
   else
  (bif ((Dt.I x0 0)==2) then
  (J 0 12 0 (s56_6 (Dt.I x0 0) ((Dt.I x0 0)==2) x0) (e56 J m w56_6 [] (s56_6 (Dt.I x0 0) ((Dt.I x0 0)==2) x0)))
  else
  (bif ((Dt.I x0 0)==11) then
  (J 0 12 0 (s56_6 (Dt.I x0 0) ((Dt.I x0 0)==11) x0) (e56 J m w56_6 [] (s56_6 (Dt.I x0 0) ((Dt.I x0 0)==11) x0)))
  else
  (J 0 12 0 (s56_6 (Dt.I x0 0) ((Dt.I x0 0)==3) x0) (e56 J m w56_6 [] (s56_6 (Dt.I x0 0) ((Dt.I x0 0)==3) x0)))))):=fun J=>by kernel_rfl
 exact(h jn).trans (by
   simp only[jn_eq,value_sound_j6_eq m]
   rfl)
theorem value_sound_j4_eq (m:Nat) (x0:Bool) (x1:Dt):e56 jn m w56_8 [] (s56_4 x0 x1)=value_sound_j4 m (value_sound m) (value_soundFields m) x0 x1:=by
 have h:∀J,e56 J m w56_8 [] (s56_4 x0 x1)=
   (bif x0 then
  some false
   else
  (J 0 7 0 (s56_5 x1) (e56 J m w56_7 [] (s56_5 x1)))):=fun J=>by kernel_rfl
 exact(h jn).trans (by
   simp only[jn_eq,value_sound_j5_eq m]
   rfl)
theorem value_sound_j3_eq (m:Nat) (x0:Dt):e56 jn m [1,1,1,1] [] (s56_5 x0)=value_sound_j3 m (value_sound m) (value_soundFields m) x0:=by
 have h:∀J,e56 J m [1,1,1,1] [] (s56_5 x0)=
   (bif ((Dt.I x0 0) !=6) then
  (bif (decide (0<(List.length (Dt.L x0 3):Int))) then
  (J 0 6 0 (s56_4 true x0) (e56 J m w56_8 [] (s56_4 true x0)))
  else
  (bif ((Dt.I x0 0) !=5) then
  (J 0 6 0 (s56_4 (decide (0<(List.length (Dt.L x0 4):Int))) x0) (e56 J m w56_8 [] (s56_4 (decide (0<(List.length (Dt.L x0 4):Int))) x0)))
  else
  (J 0 6 0 (s56_4 false x0) (e56 J m w56_8 [] (s56_4 false x0)))))
   else
  (bif ((Dt.I x0 0) !=5) then
  (J 0 6 0 (s56_4 (decide (0<(List.length (Dt.L x0 4):Int))) x0) (e56 J m w56_8 [] (s56_4 (decide (0<(List.length (Dt.L x0 4):Int))) x0)))
  else
  (J 0 6 0 (s56_4 false x0) (e56 J m w56_8 [] (s56_4 false x0))))):=fun J=>by kernel_rfl
 exact(h jn).trans (by
   simp only[jn_eq,value_sound_j4_eq m]
   rfl)
theorem value_sound_j2_eq (m:Nat) (x0:Bool) (x1:Dt):e56 jn m w56_9 [] (s56_2 x0 x1)=value_sound_j2 m (value_sound m) (value_soundFields m) x0 x1:=by
 have h:∀J,e56 J m w56_9 [] (s56_2 x0 x1)=
   (bif x0 then
  some false
   else
  (J 0 5 0 (s56_5 x1) (e56 J m [1,1,1,1] [] (s56_5 x1)))):=fun J=>by kernel_rfl
 exact(h jn).trans (by
   simp only[jn_eq,value_sound_j3_eq m]
   rfl)
theorem value_sound_j1_eq (m:Nat) (x0 x1:Bool) (x2:Dt):e56 jn m [1,1,1] [] (s56_1 x0 x1 x2)=value_sound_j1 m (value_sound m) (value_soundFields m) x0 x1 x2:=by
 have h:∀J,e56 J m [1,1,1] [] (s56_1 x0 x1 x2)=
   (bif (Bool.not x0) then
  (bif ((Dt.I x2 1) !=0) then
  (J 0 4 0 (s56_2 true x2) (e56 J m w56_9 [] (s56_2 true x2)))
  else
  (bif (Bool.not x1) then
  (J 0 4 0 (s56_2 (Bool.not ((ByteArray.toList (Dt.S x2 2))==[])) x2) (e56 J m w56_9 [] (s56_2 (Bool.not ((ByteArray.toList (Dt.S x2 2))==[])) x2)))
  else
  (J 0 4 0 (s56_2 false x2) (e56 J m w56_9 [] (s56_2 false x2)))))
   else
  (bif (Bool.not x1) then
  (J 0 4 0 (s56_2 (Bool.not ((ByteArray.toList (Dt.S x2 2))==[])) x2) (e56 J m w56_9 [] (s56_2 (Bool.not ((ByteArray.toList (Dt.S x2 2))==[])) x2)))
  else
  (J 0 4 0 (s56_2 false x2) (e56 J m w56_9 [] (s56_2 false x2))))):=fun J=>by kernel_rfl
 exact(h jn).trans (by
   simp only[jn_eq,value_sound_j2_eq m]
   rfl)
theorem value_sound_j0_eq (m:Nat) (x0:Bool) (x1:Dt):e56 jn m [1,1] [] (s56_0 x0 x1)=value_sound_j0 m (value_sound m) (value_soundFields m) x0 x1:=by
 have h:∀J,e56 J m [1,1] [] (s56_0 x0 x1)=
   (bif ((Dt.I x1 0)==4) then
  (J 0 3 0 (s56_1 x0 true x1) (e56 J m [1,1,1] [] (s56_1 x0 true x1)))
   else
  (bif ((Dt.I x1 0)==7) then
  (J 0 3 0 (s56_1 x0 true x1) (e56 J m [1,1,1] [] (s56_1 x0 true x1)))
  else
  (J 0 3 0 (s56_1 x0 ((Dt.I x1 0)==8) x1) (e56 J m [1,1,1] [] (s56_1 x0 ((Dt.I x1 0)==8) x1))))):=fun J=>by kernel_rfl
 exact(h jn).trans (by
   simp only[jn_eq,value_sound_j1_eq m]
   rfl)
theorem value_sound_eq (m:Nat) (a0:Dt):e56 jn m [] [] ⟨[(.dat 25 a0)],[],0⟩=value_sound (m+1) a0:=by
 have h:∀J,e56 J m [] [] ⟨[(.dat 25 a0)],[],0⟩=
   (bif ((Dt.I a0 0)==3) then
  (J 0 2 0 (s56_0 true a0) (e56 J m [1,1] [] (s56_0 true a0)))
   else
  (bif ((Dt.I a0 0)==9) then
  (J 0 2 0 (s56_0 true a0) (e56 J m [1,1] [] (s56_0 true a0)))
  else
  (J 0 2 0 (s56_0 ((Dt.I a0 0)==10) a0) (e56 J m [1,1] [] (s56_0 ((Dt.I a0 0)==10) a0))))):=fun J=>by kernel_rfl
 refine(h jn).trans ?_
 simp only[jn_eq,value_sound_j0_eq m]
 rfl
noncomputable def d64 (q:Res):Option Bool:=match q with
 |(.dat T0 x0,[])=>bif Nat.beq T0 4 then some x0.toBool else none
 |_=>none
def w64_0:List Nat:=[1,1,0,1,0]
def w64_1:List Nat:=[1,1,0,1,0,0,1,1,1]
def w64_2:List Nat:=[1,1,0,1,0,0,1,1,0,0,1,1]
def w64_3:List Nat:=[1,1,0,1,0,0,1,1,0,0,1,0,1]
def w64_4:List Nat:=[1,1,0,1,0,0,1,1]
theorem d64_sim {b:Res} {r:Bool} (h:d64 b=some r):Sim Tryd.prog b ((.dat 4 (.bool r)),[]):=by
 unfold d64 at h
 split at h
 ·obtain⟨hc,h2⟩:=bif_some h
  cases h2
  have e0:=beq_eq hc
  subst e0
  exact Sim.of (.of (.dat (.bool Tryd.underlying4)) rfl rfl) .nil
 ·cases h
noncomputable def e64 (J:Nat→Nat→Nat→St→Option Bool→Option Bool) (m:Nat) (p ms:List Nat) (σ:St):=evAt Tryd.prog env (ct m) J (m+1) 89 33 Tryd.f89 d64 p ms σ
noncomputable def l64 (J:Nat→Nat→Nat→St→Option Bool→Option Bool) (m:Nat) (p ms:List Nat) (M:Nat) (σ:St):=loopAt Tryd.prog env (ct m) J (m+1) 89 33 Tryd.f89 d64 p ms M σ
noncomputable def s64_5 (x0:List Dt) (x1 x2:Int) (x3:List Dt):St:=⟨tsOf [(3,(.row 0)),(7,(.dat 23 (.lst x0))),(8,(.dat 3 (.int x1))),(9,(.dat 3 (.int x2)))],[(.map 89 x3)],0⟩
noncomputable def s64_4 (x0:List Dt) (x1 x2:Int) (x3:List Dt) (x4:Dt):St:=⟨tsOf [(3,(.row 0)),(5,(.ptr 1 [] 0)),(7,(.dat 23 (.lst x0))),(8,(.dat 3 (.int x1))),(9,(.dat 3 (.int x2)))],[(.map 89 x3),(.box 56 (.dat 56 x4))],0⟩
noncomputable def s64_3 (x0:List Dt) (x1 x2:Int) (x3:Bool) (x4:List Dt) (x5:Dt):St:=⟨tsOf [(3,(.row 0)),(5,(.ptr 1 [] 0)),(7,(.dat 23 (.lst x0))),(8,(.dat 3 (.int x1))),(9,(.dat 3 (.int x2))),(28,(.dat 4 (.bool x3)))],[(.map 89 x4),(.box 56 (.dat 56 x5))],0⟩
noncomputable def s64_6:St:=⟨tsOf [],[],0⟩
theorem value_soundFields_j5_eq (m:Nat) (M1:Nat) (rec1:List Dt→Int→Int→List Dt→Option Bool) (h1:∀(x0:List Dt) (x1 x2:Int) (x3:List Dt),l64 jn m w64_0 [] M1 (s64_5 x0 x1 x2 x3)=rec1 x0 x1 x2 x3) (x0:List Dt) (x1 x2:Int) (x3:List Dt):e64 jn m w64_1 [M1] (s64_5 x0 x1 x2 x3)=value_soundFields_j5 m (value_sound m) rec1 x0 x1 x2 x3:=by
 have h:∀J,e64 J m w64_1 [M1] (s64_5 x0 x1 x2 x3)=
  (J 1 3 M1 (s64_5 x0 x1 (IntKind.wrap .i64 (x2+1)) x3) (l64 J m w64_0 [] M1 (s64_5 x0 x1 (IntKind.wrap .i64 (x2+1)) x3))):=fun J=>by kernel_rfl
 exact(h jn).trans (by
  simp only[jn_eq,h1]
  rfl)
theorem value_soundFields_j4_eq (m:Nat) (M1:Nat) (rec1:List Dt→Int→Int→List Dt→Option Bool) (h1:∀(x0:List Dt) (x1 x2:Int) (x3:List Dt),l64 jn m w64_0 [] M1 (s64_5 x0 x1 x2 x3)=rec1 x0 x1 x2 x3) (x0:List Dt) (x1 x2:Int) (x3:List Dt) (x4:Dt):e64 jn m w64_2 [M1] (s64_4 x0 x1 x2 x3 x4)=value_soundFields_j4 m (value_sound m) rec1 x0 x1 x2 x3 x4:=by
 have h:∀J,e64 J m w64_2 [M1] (s64_4 x0 x1 x2 x3 x4)=
  (J 0 8 0 (s64_5 x0 x1 x2 (mput x3 (Dt.S x4 0) (Dt.bool true))) (e64 J m w64_1 [M1] (s64_5 x0 x1 x2 (mput x3 (Dt.S x4 0) (Dt.bool true))))):=fun J=>by kernel_rfl
 exact(h jn).trans (by
  simp only[jn_eq,value_soundFields_j5_eq m M1 rec1 h1]
  rfl)
theorem value_soundFields_j3_eq (m:Nat) (M1:Nat) (rec1:List Dt→Int→Int→List Dt→Option Bool) (h1:∀(x0:List Dt) (x1 x2:Int) (x3:List Dt),l64 jn m w64_0 [] M1 (s64_5 x0 x1 x2 x3)=rec1 x0 x1 x2 x3) (x0:List Dt) (x1 x2:Int) (x3:Bool) (x4:List Dt) (x5:Dt):e64 jn m w64_3 [M1] (s64_3 x0 x1 x2 x3 x4 x5)=value_soundFields_j3 m (value_sound m) rec1 x0 x1 x2 x3 x4 x5:=by
 have h:∀J,e64 J m w64_3 [M1] (s64_3 x0 x1 x2 x3 x4 x5)=
   (bif x3 then
  some false
   else
  (J 0 7 0 (s64_4 x0 x1 x2 x4 x5) (e64 J m w64_2 [M1] (s64_4 x0 x1 x2 x4 x5)))):=fun J=>by kernel_rfl
 exact(h jn).trans (by
   simp only[jn_eq,value_soundFields_j4_eq m M1 rec1 h1]
   rfl)
theorem value_soundFields_j2_eq (m:Nat) (M1:Nat) (rec1:List Dt→Int→Int→List Dt→Option Bool) (h1:∀(x0:List Dt) (x1 x2:Int) (x3:List Dt),l64 jn m w64_0 [] M1 (s64_5 x0 x1 x2 x3)=rec1 x0 x1 x2 x3) (x0:List Dt) (x1 x2:Int) (x3:List Dt):e64 jn m w64_4 [M1] (s64_5 x0 x1 x2 x3)=value_soundFields_j2 m (value_sound m) rec1 x0 x1 x2 x3:=by
 have h:∀J,e64 J m w64_4 [M1] (s64_5 x0 x1 x2 x3)=
   ((idx x0 x2).bind fun v0=>
  ((value_isName m (Dt.S v0 0)).bind fun r1=>
  (bif (Bool.not r1) then
  (J 0 6 0 (s64_3 x0 x1 x2 true x3 v0) (e64 J m w64_3 [M1] (s64_3 x0 x1 x2 true x3 v0)))
  else
  (bif (Dt.toBool (mgetD x3 (Dt.S v0 0) (Dt.bool false))) then
  (J 0 6 0 (s64_3 x0 x1 x2 true x3 v0) (e64 J m w64_3 [M1] (s64_3 x0 x1 x2 true x3 v0)))
  else
  ((value_sound m (Dt.fld v0 1)).bind fun r2=>
  (J 0 6 0 (s64_3 x0 x1 x2 (Bool.not r2) x3 v0) (e64 J m w64_3 [M1] (s64_3 x0 x1 x2 (Bool.not r2) x3 v0)))))))):=fun J=>by kernel_rfl
 exact(h jn).trans (by
   simp only[jn_eq,value_soundFields_j3_eq m M1 rec1 h1]
   rfl)
theorem value_soundFields_j6_eq (m:Nat):e64 jn m [1,1,1] [] s64_6=value_soundFields_j6 m (value_sound m):=by
 have h:∀J,e64 J m [1,1,1] [] s64_6=
  some true:=fun J=>by kernel_rfl
 exact(h jn).trans (rfl)
theorem value_soundFields_l1_eq (m:Nat):∀(M1:Nat) (x0:List Dt) (x1 x2:Int) (x3:List Dt),l64 jn m w64_0 [] M1 (s64_5 x0 x1 x2 x3)=value_soundFields_l1 m (value_sound m) M1 x0 x1 x2 x3
 |0,_,_,_,_=>rfl
 | M1+1,x0,x1,x2,x3=>by
   have h:∀J,l64 J m w64_0 [] (M1+1) (s64_5 x0 x1 x2 x3)=
   (bif (decide (x2<x1)) then
  (J 0 4 0 (s64_5 x0 x1 x2 x3) (e64 J m w64_4 [M1] (s64_5 x0 x1 x2 x3)))
   else
  (J 0 9 0 s64_6 (e64 J m [1,1,1] [] s64_6))):=fun J=>by kernel_rfl
   refine(h jn).trans ?_
   simp only[jn_eq,value_soundFields_j2_eq m M1 (value_soundFields_l1 m (value_sound m) M1) (fun x0 x1 x2 x3=>value_soundFields_l1_eq m M1 x0 x1 x2 x3),value_soundFields_j6_eq m]
   rfl
theorem value_soundFields_j0_eq (m:Nat) (x0:List Dt) (x1 x2:Int) (x3:List Dt):e64 jn m [1,1,0,1] [] (s64_5 x0 x1 x2 x3)=value_soundFields_j0 m (value_sound m) x0 x1 x2 x3:=by
 have h:∀J,e64 J m [1,1,0,1] [] (s64_5 x0 x1 x2 x3)=
  (J 1 3 (Nat.succ m) (s64_5 x0 x1 x2 x3) (l64 J m w64_0 [] (Nat.succ m) (s64_5 x0 x1 x2 x3))):=fun J=>by kernel_rfl
 exact(h jn).trans (by
  simp only[jn_eq,value_soundFields_l1_eq m]
  rfl)
theorem value_soundFields_eq (m:Nat) (a0:List Dt):e64 jn m [] [] ⟨[(.dat 23 (.lst a0))],[],0⟩=value_soundFields (m+1) a0:=by
 have h:∀J,e64 J m [] [] ⟨[(.dat 23 (.lst a0))],[],0⟩=
  (J 0 3 0 (s64_5 a0 (List.length a0:Int) 0 []) (e64 J m [1,1,0,1] [] (s64_5 a0 (List.length a0:Int) 0 []))):=fun J=>by kernel_rfl
 refine(h jn).trans ?_
 simp only[jn_eq,value_soundFields_j0_eq m]
 rfl
noncomputable def d48 (q:Res):Option Bool:=match q with
 |(.dat T0 x0,[])=>bif Nat.beq T0 4 then some x0.toBool else none
 |_=>none
theorem d48_sim {b:Res} {r:Bool} (h:d48 b=some r):Sim Tryd.prog b ((.dat 4 (.bool r)),[]):=by
 unfold d48 at h
 split at h
 ·obtain⟨hc,h2⟩:=bif_some h
  cases h2
  have e0:=beq_eq hc
  subst e0
  exact Sim.of (.of (.dat (.bool Tryd.underlying4)) rfl rfl) .nil
 ·cases h
noncomputable def e48 (J:Nat→Nat→Nat→St→Option Bool→Option Bool) (m:Nat) (p ms:List Nat) (σ:St):=evAt Tryd.prog env (ct m) J (m+1) 54 15 Tryd.f54 d48 p ms σ
noncomputable def l48 (J:Nat→Nat→Nat→St→Option Bool→Option Bool) (m:Nat) (p ms:List Nat) (M:Nat) (σ:St):=loopAt Tryd.prog env (ct m) J (m+1) 54 15 Tryd.f54 d48 p ms M σ
theorem value_Valid_eq (m:Nat) (a0:Dt):e48 jn m [] [] ⟨[(.dat 25 a0)],[],0⟩=value_Valid (m+1) a0:=by
 have h:∀J,e48 J m [] [] ⟨[(.dat 25 a0)],[],0⟩=
   ((value_Nodes m a0).bind fun r0=>
  (bif (decide (r0≤1024)) then
  ((value_Depth m a0).bind fun r1=>
  (bif (decide (r1≤16)) then
  ((value_sound m a0).bind fun r2=>
  some r2)
  else
  some false))
  else
  some false)):=fun J=>by kernel_rfl
 refine(h jn).trans ?_
 rfl
noncomputable def d47 (q:Res):Option Bool:=match q with
 |(.dat T0 x0,[])=>bif Nat.beq T0 4 then some x0.toBool else none
 |_=>none
theorem d47_sim {b:Res} {r:Bool} (h:d47 b=some r):Sim Tryd.prog b ((.dat 4 (.bool r)),[]):=by
 unfold d47 at h
 split at h
 ·obtain⟨hc,h2⟩:=bif_some h
  cases h2
  have e0:=beq_eq hc
  subst e0
  exact Sim.of (.of (.dat (.bool Tryd.underlying4)) rfl rfl) .nil
 ·cases h
noncomputable def e47 (J:Nat→Nat→Nat→St→Option Bool→Option Bool) (m:Nat) (p ms:List Nat) (σ:St):=evAt Tryd.prog env (ct m) J (m+1) 57 33 Tryd.f57 d47 p ms σ
noncomputable def l47 (J:Nat→Nat→Nat→St→Option Bool→Option Bool) (m:Nat) (p ms:List Nat) (M:Nat) (σ:St):=loopAt Tryd.prog env (ct m) J (m+1) 57 33 Tryd.f57 d47 p ms M σ
noncomputable def s47_0 (x0:Dt):St:=⟨tsOf [(3,(.ptr 0 [] 0))],[(.box 25 (.dat 25 x0))],0⟩
theorem schema_bound_j0_eq (m:Nat) (x0:Dt):e47 jn m [1,1] [] (s47_0 x0)=schema_bound_j0 m x0:=by
 have h:∀J,e47 J m [1,1] [] (s47_0 x0)=
   (bif ((Dt.I x0 0)==0) then
  (bif ((Dt.I x0 1)==0) then
  (bif ((ByteArray.toList (Dt.S x0 2))==[]) then
  (bif ((List.length (Dt.L x0 3):Int)==0) then
  some ((List.length (Dt.L x0 4):Int)==0)
  else
  some false)
  else
  some false)
  else
  some false)
   else
  some false):=fun J=>by kernel_rfl
 exact(h jn).trans (rfl)
theorem schema_bound_eq (m:Nat) (a0:Bool) (a1:Dt):e47 jn m [] [] ⟨[(.dat 4 (.bool a0)),(.dat 25 a1)],[],0⟩=schema_bound (m+1) a0 a1:=by
 have h:∀J,e47 J m [] [] ⟨[(.dat 4 (.bool a0)),(.dat 25 a1)],[],0⟩=
   (bif a0 then
  ((value_Valid m a1).bind fun r0=>
  some r0)
   else
  (J 0 3 0 (s47_0 a1) (e47 J m [1,1] [] (s47_0 a1)))):=fun J=>by kernel_rfl
 refine(h jn).trans ?_
 simp only[jn_eq,schema_bound_j0_eq m]
 rfl
noncomputable def d30 (q:Res):Option Int:=match q with
 |(.dat T0 x0,[])=>bif Nat.beq T0 33 then some x0.toInt else none
 |_=>none
def w30_0:List Nat:=[1,1,0,1,0]
def w30_1:List Nat:=[1,1,0,1,0,0,1,1,1]
def w30_2:List Nat:=[1,1,0,1,0,0,1,1,0,0,1,1]
def w30_3:List Nat:=[1,1,0,1,0,0,1,1,0,0,1,0,1]
def w30_4:List Nat:=[1,1,0,1,0,0,1,1]
def w30_5:List Nat:=[1,1,1,1,0,1,0]
def w30_6:List Nat:=[1,1,1,1,0,1,0,0,1,1,1]
def w30_7:List Nat:=[1,1,1,1,0,1,0,0,1,1,0,0,1,1]
def w30_8:List Nat:=[1,1,1,1,0,1,0,0,1,1,0,0,1,0,1]
def w30_9:List Nat:=[1,1,1,1,0,1,0,0,1,1]
def w30_10:List Nat:=[1,1,1,1,1,1,1,0,1,0]
def w30_11:List Nat:=[1,1,1,1,1,1,1,0,1,0,0,1,1,1]
def w30_12:List Nat:=[1,1,1,1,1,1,1,0,1,0,0,1,1]
def w30_13:List Nat:=[1,1,1,1,1,1,1,1]
def w30_14:List Nat:=[1,1,1,1,1,1,1,0,1]
def w30_15:List Nat:=[1,1,1,1,1,1,1]
def w30_16:List Nat:=[1,1,1,1,1,1,0,1]
def w30_17:List Nat:=[1,1,1,1,1,1]
def w30_18:List Nat:=[1,1,1,1,1,0,1]
def w30_19:List Nat:=[1,1,1,1,1]
def w30_20:List Nat:=[1,1,1,1,0,1]
theorem d30_sim {b:Res} {r:Int} (h:d30 b=some r):Sim Tryd.prog b ((.dat 33 (.int r)),[]):=by
 unfold d30 at h
 split at h
 ·obtain⟨hc,h2⟩:=bif_some h
  cases h2
  have e0:=beq_eq hc
  subst e0
  exact Sim.of (.of (.dat (.int Tryd.underlying33)) rfl rfl) .nil
 ·cases h
noncomputable def e30 (J:Nat→Nat→Nat→St→Option Int→Option Int) (m:Nat) (p ms:List Nat) (σ:St):=evAt Tryd.prog env (ct m) J (m+1) 31 97 Tryd.f31 d30 p ms σ
noncomputable def l30 (J:Nat→Nat→Nat→St→Option Int→Option Int) (m:Nat) (p ms:List Nat) (M:Nat) (σ:St):=loopAt Tryd.prog env (ct m) J (m+1) 31 97 Tryd.f31 d30 p ms M σ
noncomputable def s30_5 (x0:List Dt) (x1 x2:Int) (x3:Dt) (x4:List Dt):St:=⟨tsOf [(1,(.ptr 0 [] 0)),(3,(.row 1)),(13,(.dat 26 (.lst x0))),(14,(.dat 3 (.int x1))),(15,(.dat 3 (.int x2)))],[(.box 30 (.dat 30 x3)),(.map 89 x4)],0⟩
noncomputable def s30_4 (x0:ByteArray) (x1:List Dt) (x2 x3:Int) (x4:Dt) (x5:List Dt):St:=⟨tsOf [(1,(.ptr 0 [] 0)),(3,(.row 1)),(5,(.dat 9 (.str x0))),(13,(.dat 26 (.lst x1))),(14,(.dat 3 (.int x2))),(15,(.dat 3 (.int x3)))],[(.box 30 (.dat 30 x4)),(.map 89 x5)],0⟩
noncomputable def s30_3 (x0:ByteArray) (x1:List Dt) (x2 x3:Int) (x4:Bool) (x5:Dt) (x6:List Dt):St:=⟨tsOf [(1,(.ptr 0 [] 0)),(3,(.row 1)),(5,(.dat 9 (.str x0))),(13,(.dat 26 (.lst x1))),(14,(.dat 3 (.int x2))),(15,(.dat 3 (.int x3))),(26,(.dat 4 (.bool x4)))],[(.box 30 (.dat 30 x5)),(.map 89 x6)],0⟩
noncomputable def s30_12 (x0:List Dt) (x1 x2:Int) (x3:Dt) (x4:List Dt):St:=⟨tsOf [(1,(.ptr 0 [] 0)),(6,(.row 1)),(32,(.dat 27 (.lst x0))),(33,(.dat 3 (.int x1))),(34,(.dat 3 (.int x2)))],[(.box 30 (.dat 30 x3)),(.map 89 x4)],0⟩
noncomputable def s30_11 (x0:List Dt) (x1 x2:Int) (x3:Dt) (x4:List Dt) (x5:Dt):St:=⟨tsOf [(1,(.ptr 0 [] 0)),(6,(.row 1)),(8,(.ptr 2 [] 0)),(32,(.dat 27 (.lst x0))),(33,(.dat 3 (.int x1))),(34,(.dat 3 (.int x2)))],[(.box 30 (.dat 30 x3)),(.map 89 x4),(.box 51 (.dat 51 x5))],0⟩
noncomputable def s30_10 (x0:List Dt) (x1 x2:Int) (x3:Bool) (x4:Dt) (x5:List Dt) (x6:Dt):St:=⟨tsOf [(1,(.ptr 0 [] 0)),(6,(.row 1)),(8,(.ptr 2 [] 0)),(32,(.dat 27 (.lst x0))),(33,(.dat 3 (.int x1))),(34,(.dat 3 (.int x2))),(47,(.dat 4 (.bool x3)))],[(.box 30 (.dat 30 x4)),(.map 89 x5),(.box 51 (.dat 51 x6))],0⟩
noncomputable def s30_21 (x0:List Dt) (x1 x2:Int):St:=⟨tsOf [(87,(.dat 22 (.lst x0))),(88,(.dat 3 (.int x1))),(89,(.dat 3 (.int x2)))],[],0⟩
noncomputable def s30_22:St:=⟨tsOf [],[],0⟩
noncomputable def s30_17 (x0:Dt):St:=⟨tsOf [(1,(.ptr 0 [] 0))],[(.box 30 (.dat 30 x0))],0⟩
noncomputable def s30_16 (x0:Bool) (x1:Dt):St:=⟨tsOf [(1,(.ptr 0 [] 0)),(85,(.dat 4 (.bool x0)))],[(.box 30 (.dat 30 x1))],0⟩
noncomputable def s30_14 (x0:Bool) (x1:Dt):St:=⟨tsOf [(1,(.ptr 0 [] 0)),(71,(.dat 4 (.bool x0)))],[(.box 30 (.dat 30 x1))],0⟩
theorem schema_checkOne_j5_eq (m:Nat) (M1:Nat) (rec1:List Dt→Int→Int→Dt→List Dt→Option Int) (h1:∀(x0:List Dt) (x1 x2:Int) (x3:Dt) (x4:List Dt),l30 jn m w30_0 [] M1 (s30_5 x0 x1 x2 x3 x4)=rec1 x0 x1 x2 x3 x4) (x0:List Dt) (x1 x2:Int) (x3:Dt) (x4:List Dt):e30 jn m w30_1 [M1] (s30_5 x0 x1 x2 x3 x4)=schema_checkOne_j5 m rec1 x0 x1 x2 x3 x4:=by
 have h:∀J,e30 J m w30_1 [M1] (s30_5 x0 x1 x2 x3 x4)=
  (J 1 3 M1 (s30_5 x0 x1 (IntKind.wrap .i64 (x2+1)) x3 x4) (l30 J m w30_0 [] M1 (s30_5 x0 x1 (IntKind.wrap .i64 (x2+1)) x3 x4))):=fun J=>by kernel_rfl
 exact(h jn).trans (by
  simp only[jn_eq,h1]
  rfl)
theorem schema_checkOne_j4_eq (m:Nat) (M1:Nat) (rec1:List Dt→Int→Int→Dt→List Dt→Option Int) (h1:∀(x0:List Dt) (x1 x2:Int) (x3:Dt) (x4:List Dt),l30 jn m w30_0 [] M1 (s30_5 x0 x1 x2 x3 x4)=rec1 x0 x1 x2 x3 x4) (x0:ByteArray) (x1:List Dt) (x2 x3:Int) (x4:Dt) (x5:List Dt):e30 jn m w30_2 [M1] (s30_4 x0 x1 x2 x3 x4 x5)=schema_checkOne_j4 m rec1 x0 x1 x2 x3 x4 x5:=by
 have h:∀J,e30 J m w30_2 [M1] (s30_4 x0 x1 x2 x3 x4 x5)=
  (J 0 8 0 (s30_5 x1 x2 x3 x4 (mput x5 x0 (Dt.bool true))) (e30 J m w30_1 [M1] (s30_5 x1 x2 x3 x4 (mput x5 x0 (Dt.bool true))))):=fun J=>by kernel_rfl
 exact(h jn).trans (by
  simp only[jn_eq,schema_checkOne_j5_eq m M1 rec1 h1]
  rfl)
theorem schema_checkOne_j3_eq (m:Nat) (M1:Nat) (rec1:List Dt→Int→Int→Dt→List Dt→Option Int) (h1:∀(x0:List Dt) (x1 x2:Int) (x3:Dt) (x4:List Dt),l30 jn m w30_0 [] M1 (s30_5 x0 x1 x2 x3 x4)=rec1 x0 x1 x2 x3 x4) (x0:ByteArray) (x1:List Dt) (x2 x3:Int) (x4:Bool) (x5:Dt) (x6:List Dt):e30 jn m w30_3 [M1] (s30_3 x0 x1 x2 x3 x4 x5 x6)=schema_checkOne_j3 m rec1 x0 x1 x2 x3 x4 x5 x6:=by
 have h:∀J,e30 J m w30_3 [M1] (s30_3 x0 x1 x2 x3 x4 x5 x6)=
   (bif x4 then
  some 9
   else
  (J 0 7 0 (s30_4 x0 x1 x2 x3 x5 x6) (e30 J m w30_2 [M1] (s30_4 x0 x1 x2 x3 x5 x6)))):=fun J=>by kernel_rfl
 exact(h jn).trans (by
   simp only[jn_eq,schema_checkOne_j4_eq m M1 rec1 h1]
   rfl)
theorem schema_checkOne_j2_eq (m:Nat) (M1:Nat) (rec1:List Dt→Int→Int→Dt→List Dt→Option Int) (h1:∀(x0:List Dt) (x1 x2:Int) (x3:Dt) (x4:List Dt),l30 jn m w30_0 [] M1 (s30_5 x0 x1 x2 x3 x4)=rec1 x0 x1 x2 x3 x4) (x0:List Dt) (x1 x2:Int) (x3:Dt) (x4:List Dt):e30 jn m w30_4 [M1] (s30_5 x0 x1 x2 x3 x4)=schema_checkOne_j2 m rec1 x0 x1 x2 x3 x4:=by
 have h:∀J,e30 J m w30_4 [M1] (s30_5 x0 x1 x2 x3 x4)=
   ((idx x0 x2).bind fun v0=>
  ((schema_isName m (Dt.toStr v0)).bind fun r1=>
  (bif (Bool.not r1) then
  (J 0 6 0 (s30_3 (Dt.toStr v0) x0 x1 x2 true x3 x4) (e30 J m w30_3 [M1] (s30_3 (Dt.toStr v0) x0 x1 x2 true x3 x4)))
  else
  (J 0 6 0 (s30_3 (Dt.toStr v0) x0 x1 x2 (Dt.toBool (mgetD x4 (Dt.toStr v0) (Dt.bool false))) x3 x4) (e30 J m w30_3 [M1] (s30_3 (Dt.toStr v0) x0 x1 x2 (Dt.toBool (mgetD x4 (Dt.toStr v0) (Dt.bool false))) x3 x4)))))):=fun J=>by kernel_rfl
 exact(h jn).trans (by
   simp only[jn_eq,schema_checkOne_j3_eq m M1 rec1 h1]
   rfl)
theorem schema_checkOne_j12_eq (m:Nat) (M8:Nat) (rec8:List Dt→Int→Int→Dt→List Dt→Option Int) (h8:∀(x0:List Dt) (x1 x2:Int) (x3:Dt) (x4:List Dt),l30 jn m w30_5 [] M8 (s30_12 x0 x1 x2 x3 x4)=rec8 x0 x1 x2 x3 x4) (x0:List Dt) (x1 x2:Int) (x3:Dt) (x4:List Dt):e30 jn m w30_6 [M8] (s30_12 x0 x1 x2 x3 x4)=schema_checkOne_j12 m rec8 x0 x1 x2 x3 x4:=by
 have h:∀J,e30 J m w30_6 [M8] (s30_12 x0 x1 x2 x3 x4)=
  (J 1 11 M8 (s30_12 x0 x1 (IntKind.wrap .i64 (x2+1)) x3 x4) (l30 J m w30_5 [] M8 (s30_12 x0 x1 (IntKind.wrap .i64 (x2+1)) x3 x4))):=fun J=>by kernel_rfl
 exact(h jn).trans (by
  simp only[jn_eq,h8]
  rfl)
theorem schema_checkOne_j11_eq (m:Nat) (M8:Nat) (rec8:List Dt→Int→Int→Dt→List Dt→Option Int) (h8:∀(x0:List Dt) (x1 x2:Int) (x3:Dt) (x4:List Dt),l30 jn m w30_5 [] M8 (s30_12 x0 x1 x2 x3 x4)=rec8 x0 x1 x2 x3 x4) (x0:List Dt) (x1 x2:Int) (x3:Dt) (x4:List Dt) (x5:Dt):e30 jn m w30_7 [M8] (s30_11 x0 x1 x2 x3 x4 x5)=schema_checkOne_j11 m rec8 x0 x1 x2 x3 x4 x5:=by
 have h:∀J,e30 J m w30_7 [M8] (s30_11 x0 x1 x2 x3 x4 x5)=
  (J 0 16 0 (s30_12 x0 x1 x2 x3 (mput x4 (Dt.S x5 0) (Dt.bool true))) (e30 J m w30_6 [M8] (s30_12 x0 x1 x2 x3 (mput x4 (Dt.S x5 0) (Dt.bool true))))):=fun J=>by kernel_rfl
 exact(h jn).trans (by
  simp only[jn_eq,schema_checkOne_j12_eq m M8 rec8 h8]
  rfl)
theorem schema_checkOne_j10_eq (m:Nat) (M8:Nat) (rec8:List Dt→Int→Int→Dt→List Dt→Option Int) (h8:∀(x0:List Dt) (x1 x2:Int) (x3:Dt) (x4:List Dt),l30 jn m w30_5 [] M8 (s30_12 x0 x1 x2 x3 x4)=rec8 x0 x1 x2 x3 x4) (x0:List Dt) (x1 x2:Int) (x3:Bool) (x4:Dt) (x5:List Dt) (x6:Dt):e30 jn m w30_8 [M8] (s30_10 x0 x1 x2 x3 x4 x5 x6)=schema_checkOne_j10 m rec8 x0 x1 x2 x3 x4 x5 x6:=by
 have h:∀J,e30 J m w30_8 [M8] (s30_10 x0 x1 x2 x3 x4 x5 x6)=
   (bif x3 then
  some 9
   else
  (J 0 15 0 (s30_11 x0 x1 x2 x4 x5 x6) (e30 J m w30_7 [M8] (s30_11 x0 x1 x2 x4 x5 x6)))):=fun J=>by kernel_rfl
 exact(h jn).trans (by
   simp only[jn_eq,schema_checkOne_j11_eq m M8 rec8 h8]
   rfl)
theorem schema_checkOne_j9_eq (m:Nat) (M8:Nat) (rec8:List Dt→Int→Int→Dt→List Dt→Option Int) (h8:∀(x0:List Dt) (x1 x2:Int) (x3:Dt) (x4:List Dt),l30 jn m w30_5 [] M8 (s30_12 x0 x1 x2 x3 x4)=rec8 x0 x1 x2 x3 x4) (x0:List Dt) (x1 x2:Int) (x3:Dt) (x4:List Dt):e30 jn m w30_9 [M8] (s30_12 x0 x1 x2 x3 x4)=schema_checkOne_j9 m rec8 x0 x1 x2 x3 x4:=by
 have h:∀J,e30 J m w30_9 [M8] (s30_12 x0 x1 x2 x3 x4)=
   ((idx x0 x2).bind fun v2=>
  ((schema_isName m (Dt.S v2 0)).bind fun r3=>
  (bif (Bool.not r3) then
  (J 0 14 0 (s30_10 x0 x1 x2 true x3 x4 v2) (e30 J m w30_8 [M8] (s30_10 x0 x1 x2 true x3 x4 v2)))
  else
  (J 0 14 0 (s30_10 x0 x1 x2 (Dt.toBool (mgetD x4 (Dt.S v2 0) (Dt.bool false))) x3 x4 v2) (e30 J m w30_8 [M8] (s30_10 x0 x1 x2 (Dt.toBool (mgetD x4 (Dt.S v2 0) (Dt.bool false))) x3 x4 v2)))))):=fun J=>by kernel_rfl
 exact(h jn).trans (by
   simp only[jn_eq,schema_checkOne_j10_eq m M8 rec8 h8]
   rfl)
theorem schema_checkOne_j21_eq (m:Nat) (M19:Nat) (rec19:List Dt→Int→Int→Option Int) (h19:∀(x0:List Dt) (x1 x2:Int),l30 jn m w30_10 [] M19 (s30_21 x0 x1 x2)=rec19 x0 x1 x2) (x0:List Dt) (x1 x2:Int):e30 jn m w30_11 [M19] (s30_21 x0 x1 x2)=schema_checkOne_j21 m rec19 x0 x1 x2:=by
 have h:∀J,e30 J m w30_11 [M19] (s30_21 x0 x1 x2)=
  (J 1 22 M19 (s30_21 x0 x1 (IntKind.wrap .i64 (x2+1))) (l30 J m w30_10 [] M19 (s30_21 x0 x1 (IntKind.wrap .i64 (x2+1))))):=fun J=>by kernel_rfl
 exact(h jn).trans (by
  simp only[jn_eq,h19]
  rfl)
theorem schema_checkOne_j20_eq (m:Nat) (M19:Nat) (rec19:List Dt→Int→Int→Option Int) (h19:∀(x0:List Dt) (x1 x2:Int),l30 jn m w30_10 [] M19 (s30_21 x0 x1 x2)=rec19 x0 x1 x2) (x0:List Dt) (x1 x2:Int):e30 jn m w30_12 [M19] (s30_21 x0 x1 x2)=schema_checkOne_j20 m rec19 x0 x1 x2:=by
 have h:∀J,e30 J m w30_12 [M19] (s30_21 x0 x1 x2)=
   ((idx x0 x2).bind fun v5=>
  ((value_Valid m v5).bind fun r6=>
  (bif (Bool.not r6) then
  some 8
  else
  (J 0 26 0 (s30_21 x0 x1 x2) (e30 J m w30_11 [M19] (s30_21 x0 x1 x2)))))):=fun J=>by kernel_rfl
 exact(h jn).trans (by
   simp only[jn_eq,schema_checkOne_j21_eq m M19 rec19 h19]
   rfl)
theorem schema_checkOne_j22_eq (m:Nat):e30 jn m w30_13 [] s30_22=schema_checkOne_j22 m:=by
 have h:∀J,e30 J m w30_13 [] s30_22=
  some 0:=fun J=>by kernel_rfl
 exact(h jn).trans (rfl)
theorem schema_checkOne_l19_eq (m:Nat):∀(M19:Nat) (x0:List Dt) (x1 x2:Int),l30 jn m w30_10 [] M19 (s30_21 x0 x1 x2)=schema_checkOne_l19 m M19 x0 x1 x2
 |0,_,_,_=>rfl
 | M19+1,x0,x1,x2=>by
   have h:∀J,l30 J m w30_10 [] (M19+1) (s30_21 x0 x1 x2)=
   (bif (decide (x2<x1)) then
  (J 0 23 0 (s30_21 x0 x1 x2) (e30 J m w30_12 [M19] (s30_21 x0 x1 x2)))
   else
  (J 0 27 0 s30_22 (e30 J m w30_13 [] s30_22))):=fun J=>by kernel_rfl
   refine(h jn).trans ?_
   simp only[jn_eq,schema_checkOne_j20_eq m M19 (schema_checkOne_l19 m M19) (fun x0 x1 x2=>schema_checkOne_l19_eq m M19 x0 x1 x2),schema_checkOne_j22_eq m]
   rfl
theorem schema_checkOne_j18_eq (m:Nat) (x0:List Dt) (x1 x2:Int):e30 jn m w30_14 [] (s30_21 x0 x1 x2)=schema_checkOne_j18 m x0 x1 x2:=by
 have h:∀J,e30 J m w30_14 [] (s30_21 x0 x1 x2)=
  (J 1 22 (Nat.succ m) (s30_21 x0 x1 x2) (l30 J m w30_10 [] (Nat.succ m) (s30_21 x0 x1 x2))):=fun J=>by kernel_rfl
 exact(h jn).trans (by
  simp only[jn_eq,schema_checkOne_l19_eq m]
  rfl)
theorem schema_checkOne_j17_eq (m:Nat) (x0:Dt):e30 jn m w30_15 [] (s30_17 x0)=schema_checkOne_j17 m x0:=by
 have h:∀J,e30 J m w30_15 [] (s30_17 x0)=
  (J 0 22 0 (s30_21 (Dt.L x0 5) (List.length (Dt.L x0 5):Int) 0) (e30 J m w30_14 [] (s30_21 (Dt.L x0 5) (List.length (Dt.L x0 5):Int) 0))):=fun J=>by kernel_rfl
 exact(h jn).trans (by
  simp only[jn_eq,schema_checkOne_j18_eq m]
  rfl)
theorem schema_checkOne_j16_eq (m:Nat) (x0:Bool) (x1:Dt):e30 jn m w30_16 [] (s30_16 x0 x1)=schema_checkOne_j16 m x0 x1:=by
 have h:∀J,e30 J m w30_16 [] (s30_16 x0 x1)=
   (bif x0 then
  some 8
   else
  (J 0 21 0 (s30_17 x1) (e30 J m w30_15 [] (s30_17 x1)))):=fun J=>by kernel_rfl
 exact(h jn).trans (by
   simp only[jn_eq,schema_checkOne_j17_eq m]
   rfl)
theorem schema_checkOne_j15_eq (m:Nat) (x0:Dt):e30 jn m w30_17 [] (s30_17 x0)=schema_checkOne_j15 m x0:=by
 have h:∀J,e30 J m w30_17 [] (s30_17 x0)=
   ((schema_bound m (Dt.B x0 1) (Dt.fld x0 2)).bind fun r4=>
  (bif (Bool.not r4) then
  (J 0 20 0 (s30_16 true x0) (e30 J m w30_16 [] (s30_16 true x0)))
  else
  ((schema_bound m (Dt.B x0 3) (Dt.fld x0 4)).bind fun r7=>
  (J 0 20 0 (s30_16 (Bool.not r7) x0) (e30 J m w30_16 [] (s30_16 (Bool.not r7) x0)))))):=fun J=>by kernel_rfl
 exact(h jn).trans (by
   simp only[jn_eq,schema_checkOne_j16_eq m]
   rfl)
theorem schema_checkOne_j14_eq (m:Nat) (x0:Bool) (x1:Dt):e30 jn m w30_18 [] (s30_14 x0 x1)=schema_checkOne_j14 m x0 x1:=by
 have h:∀J,e30 J m w30_18 [] (s30_14 x0 x1)=
   (bif x0 then
  some 1
   else
  (J 0 19 0 (s30_17 x1) (e30 J m w30_17 [] (s30_17 x1)))):=fun J=>by kernel_rfl
 exact(h jn).trans (by
   simp only[jn_eq,schema_checkOne_j15_eq m]
   rfl)
theorem schema_checkOne_j13_eq (m:Nat) (x0:Dt):e30 jn m w30_19 [] (s30_17 x0)=schema_checkOne_j13 m x0:=by
 have h:∀J,e30 J m w30_19 [] (s30_17 x0)=
   (bif ((bicI IntKind.i64 (Dt.I x0 0) 4094) !=0) then
  (J 0 18 0 (s30_14 true x0) (e30 J m w30_18 [] (s30_14 true x0)))
   else
  (bif (decide ((Dt.I x0 6)<0)) then
  (J 0 18 0 (s30_14 true x0) (e30 J m w30_18 [] (s30_14 true x0)))
  else
  (bif (decide ((Dt.I x0 7)<(-1))) then
  (J 0 18 0 (s30_14 true x0) (e30 J m w30_18 [] (s30_14 true x0)))
  else
  (J 0 18 0 (s30_14 (decide (1<(List.length (Dt.L x0 11):Int))) x0) (e30 J m w30_18 [] (s30_14 (decide (1<(List.length (Dt.L x0 11):Int))) x0)))))):=fun J=>by kernel_rfl
 exact(h jn).trans (by
   simp only[jn_eq,schema_checkOne_j14_eq m]
   rfl)
theorem schema_checkOne_l8_eq (m:Nat):∀(M8:Nat) (x0:List Dt) (x1 x2:Int) (x3:Dt) (x4:List Dt),l30 jn m w30_5 [] M8 (s30_12 x0 x1 x2 x3 x4)=schema_checkOne_l8 m M8 x0 x1 x2 x3 x4
 |0,_,_,_,_,_=>rfl
 | M8+1,x0,x1,x2,x3,x4=>by
   have h:∀J,l30 J m w30_5 [] (M8+1) (s30_12 x0 x1 x2 x3 x4)=
   (bif (decide (x2<x1)) then
  (J 0 12 0 (s30_12 x0 x1 x2 x3 x4) (e30 J m w30_9 [M8] (s30_12 x0 x1 x2 x3 x4)))
   else
  (J 0 17 0 (s30_17 x3) (e30 J m w30_19 [] (s30_17 x3)))):=fun J=>by kernel_rfl
   refine(h jn).trans ?_
   simp only[jn_eq,schema_checkOne_j9_eq m M8 (schema_checkOne_l8 m M8) (fun x0 x1 x2 x3 x4=>schema_checkOne_l8_eq m M8 x0 x1 x2 x3 x4),schema_checkOne_j13_eq m]
   rfl
theorem schema_checkOne_j7_eq (m:Nat) (x0:List Dt) (x1 x2:Int) (x3:Dt) (x4:List Dt):e30 jn m w30_20 [] (s30_12 x0 x1 x2 x3 x4)=schema_checkOne_j7 m x0 x1 x2 x3 x4:=by
 have h:∀J,e30 J m w30_20 [] (s30_12 x0 x1 x2 x3 x4)=
  (J 1 11 (Nat.succ m) (s30_12 x0 x1 x2 x3 x4) (l30 J m w30_5 [] (Nat.succ m) (s30_12 x0 x1 x2 x3 x4))):=fun J=>by kernel_rfl
 exact(h jn).trans (by
  simp only[jn_eq,schema_checkOne_l8_eq m]
  rfl)
theorem schema_checkOne_j6_eq (m:Nat) (x0:Dt):e30 jn m [1,1,1] [] (s30_17 x0)=schema_checkOne_j6 m x0:=by
 have h:∀J,e30 J m [1,1,1] [] (s30_17 x0)=
  (J 0 11 0 (s30_12 (Dt.L x0 9) (List.length (Dt.L x0 9):Int) 0 x0 []) (e30 J m w30_20 [] (s30_12 (Dt.L x0 9) (List.length (Dt.L x0 9):Int) 0 x0 []))):=fun J=>by kernel_rfl
 exact(h jn).trans (by
  simp only[jn_eq,schema_checkOne_j7_eq m]
  rfl)
theorem schema_checkOne_l1_eq (m:Nat):∀(M1:Nat) (x0:List Dt) (x1 x2:Int) (x3:Dt) (x4:List Dt),l30 jn m w30_0 [] M1 (s30_5 x0 x1 x2 x3 x4)=schema_checkOne_l1 m M1 x0 x1 x2 x3 x4
 |0,_,_,_,_,_=>rfl
 | M1+1,x0,x1,x2,x3,x4=>by
   have h:∀J,l30 J m w30_0 [] (M1+1) (s30_5 x0 x1 x2 x3 x4)=
   (bif (decide (x2<x1)) then
  (J 0 4 0 (s30_5 x0 x1 x2 x3 x4) (e30 J m w30_4 [M1] (s30_5 x0 x1 x2 x3 x4)))
   else
  (J 0 9 0 (s30_17 x3) (e30 J m [1,1,1] [] (s30_17 x3)))):=fun J=>by kernel_rfl
   refine(h jn).trans ?_
   simp only[jn_eq,schema_checkOne_j2_eq m M1 (schema_checkOne_l1 m M1) (fun x0 x1 x2 x3 x4=>schema_checkOne_l1_eq m M1 x0 x1 x2 x3 x4),schema_checkOne_j6_eq m]
   rfl
theorem schema_checkOne_j0_eq (m:Nat) (x0:List Dt) (x1 x2:Int) (x3:Dt) (x4:List Dt):e30 jn m [1,1,0,1] [] (s30_5 x0 x1 x2 x3 x4)=schema_checkOne_j0 m x0 x1 x2 x3 x4:=by
 have h:∀J,e30 J m [1,1,0,1] [] (s30_5 x0 x1 x2 x3 x4)=
  (J 1 3 (Nat.succ m) (s30_5 x0 x1 x2 x3 x4) (l30 J m w30_0 [] (Nat.succ m) (s30_5 x0 x1 x2 x3 x4))):=fun J=>by kernel_rfl
 exact(h jn).trans (by
  simp only[jn_eq,schema_checkOne_l1_eq m]
  rfl)
theorem schema_checkOne_eq (m:Nat) (a0:Dt):e30 jn m [] [] ⟨[(.dat 30 a0)],[],0⟩=schema_checkOne (m+1) a0:=by
 have h:∀J,e30 J m [] [] ⟨[(.dat 30 a0)],[],0⟩=
  (J 0 3 0 (s30_5 (Dt.L a0 8) (List.length (Dt.L a0 8):Int) 0 a0 []) (e30 J m [1,1,0,1] [] (s30_5 (Dt.L a0 8) (List.length (Dt.L a0 8):Int) 0 a0 []))):=fun J=>by kernel_rfl
 refine(h jn).trans ?_
 simp only[jn_eq,schema_checkOne_j0_eq m]
 rfl
noncomputable def d29 (q:Res):Option (Int×Int):=match q with
 |(.dat T0 x0,[.box T1 (.dat T2 x2)])=>bif (Nat.beq T0 33&&(Nat.beq T1 3&&Nat.beq T2 3)) then some (x0.toInt,x2.toInt) else none
 |_=>none
def w29_0:List Nat:=[1,1,1,1,0,1,0]
def w29_1:List Nat:=[1,1,1,1,0,1,0,0,1,1,1]
def w29_2:List Nat:=[1,1,1,1,0,1,0,0,1,1]
def w29_3:List Nat:=[1,1,1,1,1,0,1,0]
def w29_4:List Nat:=[1,1,1,1,1,0,1,0,0,1,1,1]
def w29_5:List Nat:=[1,1,1,1,1,0,1,0,0,1,1]
def w29_6:List Nat:=[1,1,1,1,1,1]
def w29_7:List Nat:=[1,1,1,1,1,0,1]
def w29_8:List Nat:=[1,1,1,1,1]
def w29_9:List Nat:=[1,1,1,1,0,1]
theorem d29_sim {b:Res} {r:Int×Int} (h:d29 b=some r):Sim Tryd.prog b ((.dat 33 (.int r.1)),[(.box 3 (.dat 3 (.int r.2)))]):=by
 unfold d29 at h
 split at h
 ·obtain⟨hc,h2⟩:=bif_some h
  cases h2
  have e0:=beq_eq (and_l hc)
  have e1:=beq_eq (and_l (and_r hc))
  have e2:=beq_eq (and_r (and_r hc))
  subst e0 e1 e2
  exact Sim.of (.of (.dat (.int Tryd.underlying33)) rfl rfl) (.cons (.box (.dat (.int Tryd.underlying3))) .nil)
 ·cases h
noncomputable def e29 (J:Nat→Nat→Nat→St→Option (Int×Int)→Option (Int×Int)) (m:Nat) (p ms:List Nat) (σ:St):=evAt Tryd.prog env (ct m) J (m+1) 20 65 Tryd.f20 d29 p ms σ
noncomputable def l29 (J:Nat→Nat→Nat→St→Option (Int×Int)→Option (Int×Int)) (m:Nat) (p ms:List Nat) (M:Nat) (σ:St):=loopAt Tryd.prog env (ct m) J (m+1) 20 65 Tryd.f20 d29 p ms M σ
noncomputable def s29_6 (x0:Int) (x1:List Dt) (x2 x3 x4:Int) (x5:Dt):St:=⟨tsOf [(1,(.dat 3 (.int x0))),(2,(.ptr 0 [] 0)),(3,(.ptr 1 [] 0)),(33,(.dat 27 (.lst x1))),(34,(.dat 3 (.int x2))),(35,(.dat 3 (.int x3)))],[(.box 3 (.dat 3 (.int x4))),(.box 30 (.dat 30 x5))],1⟩
noncomputable def s29_11 (x0:Int) (x1:List Dt) (x2 x3 x4:Int):St:=⟨tsOf [(1,(.dat 3 (.int x0))),(2,(.ptr 0 [] 0)),(50,(.dat 28 (.lst x1))),(51,(.dat 3 (.int x2))),(52,(.dat 3 (.int x3)))],[(.box 3 (.dat 3 (.int x4)))],1⟩
noncomputable def s29_12 (x0:Int):St:=⟨tsOf [],[(.box 3 (.dat 3 (.int x0)))],1⟩
noncomputable def s29_7 (x0 x1:Int) (x2:Dt):St:=⟨tsOf [(1,(.dat 3 (.int x0))),(2,(.ptr 0 [] 0)),(3,(.ptr 1 [] 0))],[(.box 3 (.dat 3 (.int x1))),(.box 30 (.dat 30 x2))],1⟩
noncomputable def s29_0 (x0:Int) (x1:Bool) (x2:Int) (x3:Dt):St:=⟨tsOf [(1,(.dat 3 (.int x0))),(2,(.ptr 0 [] 0)),(3,(.ptr 1 [] 0)),(21,(.dat 4 (.bool x1)))],[(.box 3 (.dat 3 (.int x2))),(.box 30 (.dat 30 x3))],1⟩
theorem i29_j6_eq (m:Nat) (M4:Nat) (rec4:Int→List Dt→Int→Int→Int→Dt→Option (Int×Int)) (h4:∀(x0:Int) (x1:List Dt) (x2 x3 x4:Int) (x5:Dt),l29 jn m w29_0 [] M4 (s29_6 x0 x1 x2 x3 x4 x5)=rec4 x0 x1 x2 x3 x4 x5) (x0:Int) (x1:List Dt) (x2 x3 x4:Int) (x5:Dt):e29 jn m w29_1 [M4] (s29_6 x0 x1 x2 x3 x4 x5)=i29_j6 m (i29 m) rec4 x0 x1 x2 x3 x4 x5:=by
 have h:∀J,e29 J m w29_1 [M4] (s29_6 x0 x1 x2 x3 x4 x5)=
  (J 1 8 M4 (s29_6 x0 x1 x2 (IntKind.wrap .i64 (x3+1)) x4 x5) (l29 J m w29_0 [] M4 (s29_6 x0 x1 x2 (IntKind.wrap .i64 (x3+1)) x4 x5))):=fun J=>by kernel_rfl
 exact(h jn).trans (by
  simp only[jn_eq,h4]
  rfl)
theorem i29_j5_eq (m:Nat) (M4:Nat) (rec4:Int→List Dt→Int→Int→Int→Dt→Option (Int×Int)) (h4:∀(x0:Int) (x1:List Dt) (x2 x3 x4:Int) (x5:Dt),l29 jn m w29_0 [] M4 (s29_6 x0 x1 x2 x3 x4 x5)=rec4 x0 x1 x2 x3 x4 x5) (x0:Int) (x1:List Dt) (x2 x3 x4:Int) (x5:Dt):e29 jn m w29_2 [M4] (s29_6 x0 x1 x2 x3 x4 x5)=i29_j5 m (i29 m) rec4 x0 x1 x2 x3 x4 x5:=by
 have h:∀J,e29 J m w29_2 [M4] (s29_6 x0 x1 x2 x3 x4 x5)=
   ((idx x1 x3).bind fun v1=>
  ((i29 m (Dt.fld v1 1) (IntKind.wrap .i64 (x0+1)) x4).bind fun r2=>
  (bif (r2.1 !=0) then
  some (r2.1,r2.2)
  else
  (J 0 13 0 (s29_6 x0 x1 x2 x3 r2.2 x5) (e29 J m w29_1 [M4] (s29_6 x0 x1 x2 x3 r2.2 x5)))))):=fun J=>by kernel_rfl
 exact(h jn).trans (by
   simp only[jn_eq,i29_j6_eq m M4 rec4 h4]
   rfl)
theorem i29_j11_eq (m:Nat) (M9:Nat) (rec9:Int→List Dt→Int→Int→Int→Option (Int×Int)) (h9:∀(x0:Int) (x1:List Dt) (x2 x3 x4:Int),l29 jn m w29_3 [] M9 (s29_11 x0 x1 x2 x3 x4)=rec9 x0 x1 x2 x3 x4) (x0:Int) (x1:List Dt) (x2 x3 x4:Int):e29 jn m w29_4 [M9] (s29_11 x0 x1 x2 x3 x4)=i29_j11 m (i29 m) rec9 x0 x1 x2 x3 x4:=by
 have h:∀J,e29 J m w29_4 [M9] (s29_11 x0 x1 x2 x3 x4)=
  (J 1 15 M9 (s29_11 x0 x1 x2 (IntKind.wrap .i64 (x3+1)) x4) (l29 J m w29_3 [] M9 (s29_11 x0 x1 x2 (IntKind.wrap .i64 (x3+1)) x4))):=fun J=>by kernel_rfl
 exact(h jn).trans (by
  simp only[jn_eq,h9]
  rfl)
theorem i29_j10_eq (m:Nat) (M9:Nat) (rec9:Int→List Dt→Int→Int→Int→Option (Int×Int)) (h9:∀(x0:Int) (x1:List Dt) (x2 x3 x4:Int),l29 jn m w29_3 [] M9 (s29_11 x0 x1 x2 x3 x4)=rec9 x0 x1 x2 x3 x4) (x0:Int) (x1:List Dt) (x2 x3 x4:Int):e29 jn m w29_5 [M9] (s29_11 x0 x1 x2 x3 x4)=i29_j10 m (i29 m) rec9 x0 x1 x2 x3 x4:=by
 have h:∀J,e29 J m w29_5 [M9] (s29_11 x0 x1 x2 x3 x4)=
   ((idx x1 x3).bind fun v3=>
  ((i29 m v3 (IntKind.wrap .i64 (x0+1)) x4).bind fun r4=>
  (bif (r4.1 !=0) then
  some (r4.1,r4.2)
  else
  (J 0 20 0 (s29_11 x0 x1 x2 x3 r4.2) (e29 J m w29_4 [M9] (s29_11 x0 x1 x2 x3 r4.2)))))):=fun J=>by kernel_rfl
 exact(h jn).trans (by
   simp only[jn_eq,i29_j11_eq m M9 rec9 h9]
   rfl)
theorem i29_j12_eq (m:Nat) (x0:Int):e29 jn m w29_6 [] (s29_12 x0)=i29_j12 m (i29 m) x0:=by
 have h:∀J,e29 J m w29_6 [] (s29_12 x0)=
  some (0,x0):=fun J=>by kernel_rfl
 exact(h jn).trans (rfl)
theorem i29_l9_eq (m:Nat):∀(M9:Nat) (x0:Int) (x1:List Dt) (x2 x3 x4:Int),l29 jn m w29_3 [] M9 (s29_11 x0 x1 x2 x3 x4)=i29_l9 m (i29 m) M9 x0 x1 x2 x3 x4
 |0,_,_,_,_,_=>rfl
 | M9+1,x0,x1,x2,x3,x4=>by
   have h:∀J,l29 J m w29_3 [] (M9+1) (s29_11 x0 x1 x2 x3 x4)=
   (bif (decide (x3<x2)) then
  (J 0 16 0 (s29_11 x0 x1 x2 x3 x4) (e29 J m w29_5 [M9] (s29_11 x0 x1 x2 x3 x4)))
   else
  (J 0 21 0 (s29_12 x4) (e29 J m w29_6 [] (s29_12 x4)))):=fun J=>by kernel_rfl
   refine(h jn).trans ?_
   simp only[jn_eq,i29_j10_eq m M9 (i29_l9 m (i29 m) M9) (fun x0 x1 x2 x3 x4=>i29_l9_eq m M9 x0 x1 x2 x3 x4),i29_j12_eq m]
   rfl
theorem i29_j8_eq (m:Nat) (x0:Int) (x1:List Dt) (x2 x3 x4:Int):e29 jn m w29_7 [] (s29_11 x0 x1 x2 x3 x4)=i29_j8 m (i29 m) x0 x1 x2 x3 x4:=by
 have h:∀J,e29 J m w29_7 [] (s29_11 x0 x1 x2 x3 x4)=
  (J 1 15 (Nat.succ m) (s29_11 x0 x1 x2 x3 x4) (l29 J m w29_3 [] (Nat.succ m) (s29_11 x0 x1 x2 x3 x4))):=fun J=>by kernel_rfl
 exact(h jn).trans (by
  simp only[jn_eq,i29_l9_eq m]
  rfl)
theorem i29_j7_eq (m:Nat) (x0 x1:Int) (x2:Dt):e29 jn m w29_8 [] (s29_7 x0 x1 x2)=i29_j7 m (i29 m) x0 x1 x2:=by
 have h:∀J,e29 J m w29_8 [] (s29_7 x0 x1 x2)=
  (J 0 15 0 (s29_11 x0 (Dt.L x2 11) (List.length (Dt.L x2 11):Int) 0 x1) (e29 J m w29_7 [] (s29_11 x0 (Dt.L x2 11) (List.length (Dt.L x2 11):Int) 0 x1))):=fun J=>by kernel_rfl
 exact(h jn).trans (by
  simp only[jn_eq,i29_j8_eq m]
  rfl)
theorem i29_l4_eq (m:Nat):∀(M4:Nat) (x0:Int) (x1:List Dt) (x2 x3 x4:Int) (x5:Dt),l29 jn m w29_0 [] M4 (s29_6 x0 x1 x2 x3 x4 x5)=i29_l4 m (i29 m) M4 x0 x1 x2 x3 x4 x5
 |0,_,_,_,_,_,_=>rfl
 | M4+1,x0,x1,x2,x3,x4,x5=>by
   have h:∀J,l29 J m w29_0 [] (M4+1) (s29_6 x0 x1 x2 x3 x4 x5)=
   (bif (decide (x3<x2)) then
  (J 0 9 0 (s29_6 x0 x1 x2 x3 x4 x5) (e29 J m w29_2 [M4] (s29_6 x0 x1 x2 x3 x4 x5)))
   else
  (J 0 14 0 (s29_7 x0 x4 x5) (e29 J m w29_8 [] (s29_7 x0 x4 x5)))):=fun J=>by kernel_rfl
   refine(h jn).trans ?_
   simp only[jn_eq,i29_j5_eq m M4 (i29_l4 m (i29 m) M4) (fun x0 x1 x2 x3 x4 x5=>i29_l4_eq m M4 x0 x1 x2 x3 x4 x5),i29_j7_eq m]
   rfl
theorem i29_j3_eq (m:Nat) (x0:Int) (x1:List Dt) (x2 x3 x4:Int) (x5:Dt):e29 jn m w29_9 [] (s29_6 x0 x1 x2 x3 x4 x5)=i29_j3 m (i29 m) x0 x1 x2 x3 x4 x5:=by
 have h:∀J,e29 J m w29_9 [] (s29_6 x0 x1 x2 x3 x4 x5)=
  (J 1 8 (Nat.succ m) (s29_6 x0 x1 x2 x3 x4 x5) (l29 J m w29_0 [] (Nat.succ m) (s29_6 x0 x1 x2 x3 x4 x5))):=fun J=>by kernel_rfl
 exact(h jn).trans (by
  simp only[jn_eq,i29_l4_eq m]
  rfl)
theorem i29_j2_eq (m:Nat) (x0 x1:Int) (x2:Dt):e29 jn m [1,1,1,1] [] (s29_7 x0 x1 x2)=i29_j2 m (i29 m) x0 x1 x2:=by
 have h:∀J,e29 J m [1,1,1,1] [] (s29_7 x0 x1 x2)=
  (J 0 8 0 (s29_6 x0 (Dt.L x2 9) (List.length (Dt.L x2 9):Int) 0 x1 x2) (e29 J m w29_9 [] (s29_6 x0 (Dt.L x2 9) (List.length (Dt.L x2 9):Int) 0 x1 x2))):=fun J=>by kernel_rfl
 exact(h jn).trans (by
  simp only[jn_eq,i29_j3_eq m]
  rfl)
theorem i29_j1_eq (m:Nat) (x0 x1:Int) (x2:Dt):e29 jn m [1,1] [] (s29_7 x0 x1 x2)=i29_j1 m (i29 m) x0 x1 x2:=by
 have h:∀J,e29 J m [1,1] [] (s29_7 x0 x1 x2)=
   ((schema_checkOne m x2).bind fun r0=>
  (bif (r0 !=0) then
  some (r0,(IntKind.wrap .i64 (x1+1)))
  else
  (J 0 7 0 (s29_7 x0 (IntKind.wrap .i64 (x1+1)) x2) (e29 J m [1,1,1,1] [] (s29_7 x0 (IntKind.wrap .i64 (x1+1)) x2))))):=fun J=>by kernel_rfl
 exact(h jn).trans (by
   simp only[jn_eq,i29_j2_eq m]
   rfl)
theorem i29_j0_eq (m:Nat) (x0:Int) (x1:Bool) (x2:Int) (x3:Dt):e29 jn m [1,0,1] [] (s29_0 x0 x1 x2 x3)=i29_j0 m (i29 m) x0 x1 x2 x3:=by
 have h:∀J,e29 J m [1,0,1] [] (s29_0 x0 x1 x2 x3)=
   (bif x1 then
  some (2,x2)
   else
  (J 0 3 0 (s29_7 x0 x2 x3) (e29 J m [1,1] [] (s29_7 x0 x2 x3)))):=fun J=>by kernel_rfl
 exact(h jn).trans (by
   simp only[jn_eq,i29_j1_eq m]
   rfl)
theorem i29_eq (m:Nat) (a0:Dt) (a1 a2:Int):e29 jn m [] [] ⟨[(.dat 30 a0),(.dat 3 (.int a1)),(.ptr 0 [] 0)],[(.box 3 (.dat 3 (.int a2)))],1⟩=i29 (m+1) a0 a1 a2:=by
 have h:∀J,e29 J m [] [] ⟨[(.dat 30 a0),(.dat 3 (.int a1)),(.ptr 0 [] 0)],[(.box 3 (.dat 3 (.int a2)))],1⟩=
   (bif (decide (16<a1)) then
  (J 0 2 0 (s29_0 a1 true a2 a0) (e29 J m [1,0,1] [] (s29_0 a1 true a2 a0)))
   else
  (J 0 2 0 (s29_0 a1 (a2==64) a2 a0) (e29 J m [1,0,1] [] (s29_0 a1 (a2==64) a2 a0)))):=fun J=>by kernel_rfl
 refine(h jn).trans ?_
 simp only[jn_eq,i29_j0_eq m]
 rfl
noncomputable def d5 (q:Res):Option Int:=match q with
 |(.dat T0 x0,[])=>bif Nat.beq T0 33 then some x0.toInt else none
 |_=>none
theorem d5_sim {b:Res} {r:Int} (h:d5 b=some r):Sim Tryd.prog b ((.dat 33 (.int r)),[]):=by
 unfold d5 at h
 split at h
 ·obtain⟨hc,h2⟩:=bif_some h
  cases h2
  have e0:=beq_eq hc
  subst e0
  exact Sim.of (.of (.dat (.int Tryd.underlying33)) rfl rfl) .nil
 ·cases h
noncomputable def e5 (J:Nat→Nat→Nat→St→Option Int→Option Int) (m:Nat) (p ms:List Nat) (σ:St):=evAt Tryd.prog env (ct m) J (m+1) 9 6 Tryd.f9 d5 p ms σ
noncomputable def l5 (J:Nat→Nat→Nat→St→Option Int→Option Int) (m:Nat) (p ms:List Nat) (M:Nat) (σ:St):=loopAt Tryd.prog env (ct m) J (m+1) 9 6 Tryd.f9 d5 p ms M σ
theorem schema_Valid_eq (m:Nat) (a0:Dt):e5 jn m [] [] ⟨[(.dat 30 a0)],[],0⟩=schema_Valid (m+1) a0:=by
 have h:∀J,e5 J m [] [] ⟨[(.dat 30 a0)],[],0⟩=
   ((i29 m a0 1 0).bind fun r0=>
  some r0.1):=fun J=>by kernel_rfl
 refine(h jn).trans ?_
 rfl
noncomputable def d3 (q:Res):Option (List Dt):=match q with
 |(.dat T0 x0,[])=>bif Nat.beq T0 38 then some x0.toLst else none
 |_=>none
theorem d3_sim {b:Res} {r:List Dt} (h:d3 b=some r):Sim Tryd.prog b ((.dat 38 (.lst r)),[]):=by
 unfold d3 at h
 split at h
 ·obtain⟨hc,h2⟩:=bif_some h
  cases h2
  have e0:=beq_eq hc
  subst e0
  exact Sim.of (.of (.dat (.lst Tryd.underlying38)) rfl rfl) .nil
 ·cases h
noncomputable def e3 (J:Nat→Nat→Nat→St→Option (List Dt)→Option (List Dt)) (m:Nat) (p ms:List Nat) (σ:St):=evAt Tryd.prog env (ct m) J (m+1) 13 11 Tryd.f13 d3 p ms σ
noncomputable def l3 (J:Nat→Nat→Nat→St→Option (List Dt)→Option (List Dt)) (m:Nat) (p ms:List Nat) (M:Nat) (σ:St):=loopAt Tryd.prog env (ct m) J (m+1) 13 11 Tryd.f13 d3 p ms M σ
noncomputable def s3_0 (x0 x1:Dt):St:=⟨tsOf [(2,(.ptr 0 [] 0)),(3,(.ptr 1 [] 0))],[(.box 30 (.dat 30 x0)),(.box 25 (.dat 25 x1))],0⟩
theorem schema_Check_j0_eq (m:Nat) (x0 x1:Dt):e3 jn m [1,1] [] (s3_0 x0 x1)=schema_Check_j0 m x0 x1:=by
 have h:∀J,e3 J m [1,1] [] (s3_0 x0 x1)=
   ((i9 m x0 x1 [] []).bind fun r1=>
  some r1.2):=fun J=>by kernel_rfl
 exact(h jn).trans (rfl)
theorem schema_Check_eq (m:Nat) (a0 a1:Dt):e3 jn m [] [] ⟨[(.dat 30 a0),(.dat 25 a1)],[],0⟩=schema_Check (m+1) a0 a1:=by
 have h:∀J,e3 J m [] [] ⟨[(.dat 30 a0),(.dat 25 a1)],[],0⟩=
   ((schema_Valid m a0).bind fun r0=>
  (bif (r0 !=0) then
  some []
  else
  (J 0 3 0 (s3_0 a0 a1) (e3 J m [1,1] [] (s3_0 a0 a1))))):=fun J=>by kernel_rfl
 refine(h jn).trans ?_
 simp only[jn_eq,schema_Check_j0_eq m]
 rfl
end Go.Proofs.YtfneddmmeadacaaDoor
