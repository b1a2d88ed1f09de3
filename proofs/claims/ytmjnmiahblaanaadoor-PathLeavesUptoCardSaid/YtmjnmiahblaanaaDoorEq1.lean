/- Generated: each function's run in the abstract machine is its shallow function. -/
import Derived.Test.YtmjnmiahblaanaaDoorCt
import Derived.Test.YtmjnmiahblaanaaDoorAmEnv
import Derived.KernelRfl
set_option linter.unusedVariables false
set_option linter.unusedSimpArgs false
namespace Go.Proofs.YtmjnmiahblaanaaDoor
open Go.Am
set_option maxRecDepth 100000
noncomputable def d41 (q : Res) : Option (List Dt) := match q with
  | (.dat T0 x0, []) => bif Nat.beq T0 33 then some x0.toLst else none
  | _ => none
theorem d41_sim {b : Res} {r : List Dt} (h : d41 b = some r) : Sim Tryd.prog b ((.dat 33 (.lst r)), []) := by
  unfold d41 at h
  split at h
  · obtain ⟨hc, h2⟩ := bif_some h
    cases h2
    have e0 := beq_eq hc
    subst e0
    exact Sim.of (.of (.dat (.lst Tryd.underlying33)) rfl rfl) .nil
  · cases h
noncomputable def e41 (J : Nat → Nat → Nat → St → Option (List Dt) → Option (List Dt)) (m : Nat) (p ms : List Nat) (σ : St) := evAt Tryd.prog env (ct m) J (m + 1) 58 44 Tryd.f58 d41 p ms σ
noncomputable def l41 (J : Nat → Nat → Nat → St → Option (List Dt) → Option (List Dt)) (m : Nat) (p ms : List Nat) (M : Nat) (σ : St) := loopAt Tryd.prog env (ct m) J (m + 1) 58 44 Tryd.f58 d41 p ms M σ
theorem ref01_Parts_j3_eq (m : Nat) (M1 : Nat) (rec1 : Int → Dt → List Dt → Option (List Dt)) (h1 : ∀ (x0 : Int) (x1 : Dt) (x2 : List Dt), l41 jn m [1, 1, 0, 1, 0, 1, 0] [] M1 ⟨tsOf [(1, (.ptr 0 [] 0)), (3, (.row 1)), (4, (.dat 3 (.int x0)))], [(.box 36 (.dat 36 x1)), (.row 33 x2)], 0⟩ = rec1 x0 x1 x2) (x0 : Int) (x1 : Dt) (x2 : List Dt) : e41 jn m [1, 1, 0, 1, 0, 1, 0, 0, 1, 1] [M1] ⟨tsOf [(1, (.ptr 0 [] 0)), (3, (.row 1)), (4, (.dat 3 (.int x0)))], [(.box 36 (.dat 36 x1)), (.row 33 x2)], 0⟩ = ref01_Parts_j3 m rec1 x0 x1 x2 := by
  have h : ∀ J, e41 J m [1, 1, 0, 1, 0, 1, 0, 0, 1, 1] [M1] ⟨tsOf [(1, (.ptr 0 [] 0)), (3, (.row 1)), (4, (.dat 3 (.int x0)))], [(.box 36 (.dat 36 x1)), (.row 33 x2)], 0⟩ =
    (J 1 4 M1 ⟨tsOf [(1, (.ptr 0 [] 0)), (3, (.row 1)), (4, (.dat 3 (.int (IntKind.wrap IntKind.i64 (x0 + (1 : Int))))))], [(.box 36 (.dat 36 x1)), (.row 33 x2)], 0⟩ (l41 J m [1, 1, 0, 1, 0, 1, 0] [] M1 ⟨tsOf [(1, (.ptr 0 [] 0)), (3, (.row 1)), (4, (.dat 3 (.int (IntKind.wrap IntKind.i64 (x0 + (1 : Int))))))], [(.box 36 (.dat 36 x1)), (.row 33 x2)], 0⟩)) := fun J => by kernel_rfl
  exact (h jn).trans (by
    simp only [jn_eq, h1]
    rfl)
theorem ref01_Parts_j2_eq (m : Nat) (M1 : Nat) (rec1 : Int → Dt → List Dt → Option (List Dt)) (h1 : ∀ (x0 : Int) (x1 : Dt) (x2 : List Dt), l41 jn m [1, 1, 0, 1, 0, 1, 0] [] M1 ⟨tsOf [(1, (.ptr 0 [] 0)), (3, (.row 1)), (4, (.dat 3 (.int x0)))], [(.box 36 (.dat 36 x1)), (.row 33 x2)], 0⟩ = rec1 x0 x1 x2) (x0 : Int) (x1 : Dt) (x2 : List Dt) : e41 jn m [1, 1, 0, 1, 0, 1, 0, 0, 1] [M1] ⟨tsOf [(1, (.ptr 0 [] 0)), (3, (.row 1)), (4, (.dat 3 (.int x0)))], [(.box 36 (.dat 36 x1)), (.row 33 x2)], 0⟩ = ref01_Parts_j2 m rec1 x0 x1 x2 := by
  have h : ∀ J, e41 J m [1, 1, 0, 1, 0, 1, 0, 0, 1] [M1] ⟨tsOf [(1, (.ptr 0 [] 0)), (3, (.row 1)), (4, (.dat 3 (.int x0)))], [(.box 36 (.dat 36 x1)), (.row 33 x2)], 0⟩ =
    ((idx (Dt.L x1 3) x0).bind fun v0 =>
      ((app x2 [v0]).bind fun v1 =>
        (J 0 5 0 ⟨tsOf [(1, (.ptr 0 [] 0)), (3, (.row 1)), (4, (.dat 3 (.int x0)))], [(.box 36 (.dat 36 x1)), (.row 33 v1)], 0⟩ (e41 J m [1, 1, 0, 1, 0, 1, 0, 0, 1, 1] [M1] ⟨tsOf [(1, (.ptr 0 [] 0)), (3, (.row 1)), (4, (.dat 3 (.int x0)))], [(.box 36 (.dat 36 x1)), (.row 33 v1)], 0⟩)))) := fun J => by kernel_rfl
  exact (h jn).trans (by
    simp only [jn_eq, ref01_Parts_j3_eq m M1 rec1 h1]
    rfl)
theorem ref01_Parts_j8_eq (m : Nat) (M6 : Nat) (rec6 : Int → Dt → List Dt → Option (List Dt)) (h6 : ∀ (x0 : Int) (x1 : Dt) (x2 : List Dt), l41 jn m [1, 1, 1, 0, 1, 0, 1, 0] [] M6 ⟨tsOf [(1, (.ptr 0 [] 0)), (3, (.row 1)), (5, (.dat 3 (.int x0)))], [(.box 36 (.dat 36 x1)), (.row 33 x2)], 0⟩ = rec6 x0 x1 x2) (x0 : Int) (x1 : Dt) (x2 : List Dt) : e41 jn m [1, 1, 1, 0, 1, 0, 1, 0, 0, 1, 1] [M6] ⟨tsOf [(1, (.ptr 0 [] 0)), (3, (.row 1)), (5, (.dat 3 (.int x0)))], [(.box 36 (.dat 36 x1)), (.row 33 x2)], 0⟩ = ref01_Parts_j8 m rec6 x0 x1 x2 := by
  have h : ∀ J, e41 J m [1, 1, 1, 0, 1, 0, 1, 0, 0, 1, 1] [M6] ⟨tsOf [(1, (.ptr 0 [] 0)), (3, (.row 1)), (5, (.dat 3 (.int x0)))], [(.box 36 (.dat 36 x1)), (.row 33 x2)], 0⟩ =
    (J 1 9 M6 ⟨tsOf [(1, (.ptr 0 [] 0)), (3, (.row 1)), (5, (.dat 3 (.int (IntKind.wrap IntKind.i64 (x0 + (1 : Int))))))], [(.box 36 (.dat 36 x1)), (.row 33 x2)], 0⟩ (l41 J m [1, 1, 1, 0, 1, 0, 1, 0] [] M6 ⟨tsOf [(1, (.ptr 0 [] 0)), (3, (.row 1)), (5, (.dat 3 (.int (IntKind.wrap IntKind.i64 (x0 + (1 : Int))))))], [(.box 36 (.dat 36 x1)), (.row 33 x2)], 0⟩)) := fun J => by kernel_rfl
  exact (h jn).trans (by
    simp only [jn_eq, h6]
    rfl)
theorem ref01_Parts_j7_eq (m : Nat) (M6 : Nat) (rec6 : Int → Dt → List Dt → Option (List Dt)) (h6 : ∀ (x0 : Int) (x1 : Dt) (x2 : List Dt), l41 jn m [1, 1, 1, 0, 1, 0, 1, 0] [] M6 ⟨tsOf [(1, (.ptr 0 [] 0)), (3, (.row 1)), (5, (.dat 3 (.int x0)))], [(.box 36 (.dat 36 x1)), (.row 33 x2)], 0⟩ = rec6 x0 x1 x2) (x0 : Int) (x1 : Dt) (x2 : List Dt) : e41 jn m [1, 1, 1, 0, 1, 0, 1, 0, 0, 1] [M6] ⟨tsOf [(1, (.ptr 0 [] 0)), (3, (.row 1)), (5, (.dat 3 (.int x0)))], [(.box 36 (.dat 36 x1)), (.row 33 x2)], 0⟩ = ref01_Parts_j7 m rec6 x0 x1 x2 := by
  have h : ∀ J, e41 J m [1, 1, 1, 0, 1, 0, 1, 0, 0, 1] [M6] ⟨tsOf [(1, (.ptr 0 [] 0)), (3, (.row 1)), (5, (.dat 3 (.int x0)))], [(.box 36 (.dat 36 x1)), (.row 33 x2)], 0⟩ =
    ((idx (Dt.L x1 4) x0).bind fun v2 =>
      ((app x2 [(Dt.fld v2 1)]).bind fun v3 =>
        (J 0 10 0 ⟨tsOf [(1, (.ptr 0 [] 0)), (3, (.row 1)), (5, (.dat 3 (.int x0)))], [(.box 36 (.dat 36 x1)), (.row 33 v3)], 0⟩ (e41 J m [1, 1, 1, 0, 1, 0, 1, 0, 0, 1, 1] [M6] ⟨tsOf [(1, (.ptr 0 [] 0)), (3, (.row 1)), (5, (.dat 3 (.int x0)))], [(.box 36 (.dat 36 x1)), (.row 33 v3)], 0⟩)))) := fun J => by kernel_rfl
  exact (h jn).trans (by
    simp only [jn_eq, ref01_Parts_j8_eq m M6 rec6 h6]
    rfl)
theorem ref01_Parts_j9_eq (m : Nat) (x0 : List Dt) : e41 jn m [1, 1, 1, 1] [] ⟨tsOf [(3, (.row 0))], [(.row 33 x0)], 0⟩ = ref01_Parts_j9 m x0 := by
  have h : ∀ J, e41 J m [1, 1, 1, 1] [] ⟨tsOf [(3, (.row 0))], [(.row 33 x0)], 0⟩ =
    some x0 := fun J => by kernel_rfl
  exact (h jn).trans (rfl)
theorem ref01_Parts_l6_eq (m : Nat) : ∀ (M6 : Nat) (x0 : Int) (x1 : Dt) (x2 : List Dt), l41 jn m [1, 1, 1, 0, 1, 0, 1, 0] [] M6 ⟨tsOf [(1, (.ptr 0 [] 0)), (3, (.row 1)), (5, (.dat 3 (.int x0)))], [(.box 36 (.dat 36 x1)), (.row 33 x2)], 0⟩ = ref01_Parts_l6 m M6 x0 x1 x2
  | 0, _, _, _ => rfl
  | M6 + 1, x0, x1, x2 => by
    have h : ∀ J, l41 J m [1, 1, 1, 0, 1, 0, 1, 0] [] (M6 + 1) ⟨tsOf [(1, (.ptr 0 [] 0)), (3, (.row 1)), (5, (.dat 3 (.int x0)))], [(.box 36 (.dat 36 x1)), (.row 33 x2)], 0⟩ =
    (bif (decide (x0 < (((List.length (Dt.L x1 4)) : Nat) : Int))) then
      (J 0 11 0 ⟨tsOf [(1, (.ptr 0 [] 0)), (3, (.row 1)), (5, (.dat 3 (.int x0)))], [(.box 36 (.dat 36 x1)), (.row 33 x2)], 0⟩ (e41 J m [1, 1, 1, 0, 1, 0, 1, 0, 0, 1] [M6] ⟨tsOf [(1, (.ptr 0 [] 0)), (3, (.row 1)), (5, (.dat 3 (.int x0)))], [(.box 36 (.dat 36 x1)), (.row 33 x2)], 0⟩))
    else
      (J 0 12 0 ⟨tsOf [(3, (.row 0))], [(.row 33 x2)], 0⟩ (e41 J m [1, 1, 1, 1] [] ⟨tsOf [(3, (.row 0))], [(.row 33 x2)], 0⟩))) := fun J => by kernel_rfl
    refine (h jn).trans ?_
    simp only [jn_eq, ref01_Parts_j7_eq m M6 (ref01_Parts_l6 m M6) (fun x0 x1 x2 => ref01_Parts_l6_eq m M6 x0 x1 x2), ref01_Parts_j9_eq m]
    rfl
theorem ref01_Parts_j5_eq (m : Nat) (x0 : Int) (x1 : Dt) (x2 : List Dt) : e41 jn m [1, 1, 1, 0, 1, 0, 1] [] ⟨tsOf [(1, (.ptr 0 [] 0)), (3, (.row 1)), (5, (.dat 3 (.int x0)))], [(.box 36 (.dat 36 x1)), (.row 33 x2)], 0⟩ = ref01_Parts_j5 m x0 x1 x2 := by
  have h : ∀ J, e41 J m [1, 1, 1, 0, 1, 0, 1] [] ⟨tsOf [(1, (.ptr 0 [] 0)), (3, (.row 1)), (5, (.dat 3 (.int x0)))], [(.box 36 (.dat 36 x1)), (.row 33 x2)], 0⟩ =
    (J 1 9 (Nat.succ m) ⟨tsOf [(1, (.ptr 0 [] 0)), (3, (.row 1)), (5, (.dat 3 (.int x0)))], [(.box 36 (.dat 36 x1)), (.row 33 x2)], 0⟩ (l41 J m [1, 1, 1, 0, 1, 0, 1, 0] [] (Nat.succ m) ⟨tsOf [(1, (.ptr 0 [] 0)), (3, (.row 1)), (5, (.dat 3 (.int x0)))], [(.box 36 (.dat 36 x1)), (.row 33 x2)], 0⟩)) := fun J => by kernel_rfl
  exact (h jn).trans (by
    simp only [jn_eq, ref01_Parts_l6_eq m]
    rfl)
theorem ref01_Parts_j4_eq (m : Nat) (x0 : Dt) (x1 : List Dt) : e41 jn m [1, 1, 1] [] ⟨tsOf [(1, (.ptr 0 [] 0)), (3, (.row 1))], [(.box 36 (.dat 36 x0)), (.row 33 x1)], 0⟩ = ref01_Parts_j4 m x0 x1 := by
  have h : ∀ J, e41 J m [1, 1, 1] [] ⟨tsOf [(1, (.ptr 0 [] 0)), (3, (.row 1))], [(.box 36 (.dat 36 x0)), (.row 33 x1)], 0⟩ =
    (bif ((Dt.I x0 0) == (5 : Int)) then
      (J 0 9 0 ⟨tsOf [(1, (.ptr 0 [] 0)), (3, (.row 1)), (5, (.dat 3 (.int (0 : Int))))], [(.box 36 (.dat 36 x0)), (.row 33 x1)], 0⟩ (e41 J m [1, 1, 1, 0, 1, 0, 1] [] ⟨tsOf [(1, (.ptr 0 [] 0)), (3, (.row 1)), (5, (.dat 3 (.int (0 : Int))))], [(.box 36 (.dat 36 x0)), (.row 33 x1)], 0⟩))
    else
      (J 0 12 0 ⟨tsOf [(3, (.row 0))], [(.row 33 x1)], 0⟩ (e41 J m [1, 1, 1, 1] [] ⟨tsOf [(3, (.row 0))], [(.row 33 x1)], 0⟩))) := fun J => by kernel_rfl
  exact (h jn).trans (by
    simp only [jn_eq, ref01_Parts_j5_eq m, ref01_Parts_j9_eq m]
    rfl)
theorem ref01_Parts_l1_eq (m : Nat) : ∀ (M1 : Nat) (x0 : Int) (x1 : Dt) (x2 : List Dt), l41 jn m [1, 1, 0, 1, 0, 1, 0] [] M1 ⟨tsOf [(1, (.ptr 0 [] 0)), (3, (.row 1)), (4, (.dat 3 (.int x0)))], [(.box 36 (.dat 36 x1)), (.row 33 x2)], 0⟩ = ref01_Parts_l1 m M1 x0 x1 x2
  | 0, _, _, _ => rfl
  | M1 + 1, x0, x1, x2 => by
    have h : ∀ J, l41 J m [1, 1, 0, 1, 0, 1, 0] [] (M1 + 1) ⟨tsOf [(1, (.ptr 0 [] 0)), (3, (.row 1)), (4, (.dat 3 (.int x0)))], [(.box 36 (.dat 36 x1)), (.row 33 x2)], 0⟩ =
    (bif (decide (x0 < (((List.length (Dt.L x1 3)) : Nat) : Int))) then
      (J 0 6 0 ⟨tsOf [(1, (.ptr 0 [] 0)), (3, (.row 1)), (4, (.dat 3 (.int x0)))], [(.box 36 (.dat 36 x1)), (.row 33 x2)], 0⟩ (e41 J m [1, 1, 0, 1, 0, 1, 0, 0, 1] [M1] ⟨tsOf [(1, (.ptr 0 [] 0)), (3, (.row 1)), (4, (.dat 3 (.int x0)))], [(.box 36 (.dat 36 x1)), (.row 33 x2)], 0⟩))
    else
      (J 0 7 0 ⟨tsOf [(1, (.ptr 0 [] 0)), (3, (.row 1))], [(.box 36 (.dat 36 x1)), (.row 33 x2)], 0⟩ (e41 J m [1, 1, 1] [] ⟨tsOf [(1, (.ptr 0 [] 0)), (3, (.row 1))], [(.box 36 (.dat 36 x1)), (.row 33 x2)], 0⟩))) := fun J => by kernel_rfl
    refine (h jn).trans ?_
    simp only [jn_eq, ref01_Parts_j2_eq m M1 (ref01_Parts_l1 m M1) (fun x0 x1 x2 => ref01_Parts_l1_eq m M1 x0 x1 x2), ref01_Parts_j4_eq m]
    rfl
theorem ref01_Parts_j0_eq (m : Nat) (x0 : Int) (x1 : Dt) (x2 : List Dt) : e41 jn m [1, 1, 0, 1, 0, 1] [] ⟨tsOf [(1, (.ptr 0 [] 0)), (3, (.row 1)), (4, (.dat 3 (.int x0)))], [(.box 36 (.dat 36 x1)), (.row 33 x2)], 0⟩ = ref01_Parts_j0 m x0 x1 x2 := by
  have h : ∀ J, e41 J m [1, 1, 0, 1, 0, 1] [] ⟨tsOf [(1, (.ptr 0 [] 0)), (3, (.row 1)), (4, (.dat 3 (.int x0)))], [(.box 36 (.dat 36 x1)), (.row 33 x2)], 0⟩ =
    (J 1 4 (Nat.succ m) ⟨tsOf [(1, (.ptr 0 [] 0)), (3, (.row 1)), (4, (.dat 3 (.int x0)))], [(.box 36 (.dat 36 x1)), (.row 33 x2)], 0⟩ (l41 J m [1, 1, 0, 1, 0, 1, 0] [] (Nat.succ m) ⟨tsOf [(1, (.ptr 0 [] 0)), (3, (.row 1)), (4, (.dat 3 (.int x0)))], [(.box 36 (.dat 36 x1)), (.row 33 x2)], 0⟩)) := fun J => by kernel_rfl
  exact (h jn).trans (by
    simp only [jn_eq, ref01_Parts_l1_eq m]
    rfl)
theorem ref01_Parts_eq (m : Nat) (a0 : Dt) : e41 jn m [] [] ⟨[(.dat 36 a0)], [], 0⟩ = ref01_Parts (m + 1) a0 := by
  have h : ∀ J, e41 J m [] [] ⟨[(.dat 36 a0)], [], 0⟩ =
    (bif ((Dt.I a0 0) == (6 : Int)) then
      (J 0 4 0 ⟨tsOf [(1, (.ptr 0 [] 0)), (3, (.row 1)), (4, (.dat 3 (.int (0 : Int))))], [(.box 36 (.dat 36 a0)), (.row 33 [])], 0⟩ (e41 J m [1, 1, 0, 1, 0, 1] [] ⟨tsOf [(1, (.ptr 0 [] 0)), (3, (.row 1)), (4, (.dat 3 (.int (0 : Int))))], [(.box 36 (.dat 36 a0)), (.row 33 [])], 0⟩))
    else
      (J 0 7 0 ⟨tsOf [(1, (.ptr 0 [] 0)), (3, (.row 1))], [(.box 36 (.dat 36 a0)), (.row 33 [])], 0⟩ (e41 J m [1, 1, 1] [] ⟨tsOf [(1, (.ptr 0 [] 0)), (3, (.row 1))], [(.box 36 (.dat 36 a0)), (.row 33 [])], 0⟩))) := fun J => by kernel_rfl
  refine (h jn).trans ?_
  simp only [jn_eq, ref01_Parts_j0_eq m, ref01_Parts_j4_eq m]
  rfl
noncomputable def d25 (q : Res) : Option (Bool) := match q with
  | (.dat T0 x0, []) => bif Nat.beq T0 4 then some x0.toBool else none
  | _ => none
theorem d25_sim {b : Res} {r : Bool} (h : d25 b = some r) : Sim Tryd.prog b ((.dat 4 (.bool r)), []) := by
  unfold d25 at h
  split at h
  · obtain ⟨hc, h2⟩ := bif_some h
    cases h2
    have e0 := beq_eq hc
    subst e0
    exact Sim.of (.of (.dat (.bool Tryd.underlying4)) rfl rfl) .nil
  · cases h
noncomputable def e25 (J : Nat → Nat → Nat → St → Option (Bool) → Option (Bool)) (m : Nat) (p ms : List Nat) (σ : St) := evAt Tryd.prog env (ct m) J (m + 1) 39 26 Tryd.f39 d25 p ms σ
noncomputable def l25 (J : Nat → Nat → Nat → St → Option (Bool) → Option (Bool)) (m : Nat) (p ms : List Nat) (M : Nat) (σ : St) := loopAt Tryd.prog env (ct m) J (m + 1) 39 26 Tryd.f39 d25 p ms M σ
theorem law04_holes_j3_eq (m : Nat) (M1 : Nat) (rec1 : List Dt → Int → Option (Bool)) (h1 : ∀ (x0 : List Dt) (x1 : Int), l25 jn m [1, 1, 0, 1, 0] [] M1 ⟨tsOf [(3, (.dat 33 (.lst x0))), (4, (.dat 3 (.int x1)))], [], 0⟩ = rec1 x0 x1) (x0 : List Dt) (x1 : Int) : e25 jn m [1, 1, 0, 1, 0, 0, 1, 1] [M1] ⟨tsOf [(3, (.dat 33 (.lst x0))), (4, (.dat 3 (.int x1)))], [], 0⟩ = law04_holes_j3 m (law04_holes m) rec1 x0 x1 := by
  have h : ∀ J, e25 J m [1, 1, 0, 1, 0, 0, 1, 1] [M1] ⟨tsOf [(3, (.dat 33 (.lst x0))), (4, (.dat 3 (.int x1)))], [], 0⟩ =
    (J 1 3 M1 ⟨tsOf [(3, (.dat 33 (.lst x0))), (4, (.dat 3 (.int (IntKind.wrap IntKind.i64 (x1 + (1 : Int))))))], [], 0⟩ (l25 J m [1, 1, 0, 1, 0] [] M1 ⟨tsOf [(3, (.dat 33 (.lst x0))), (4, (.dat 3 (.int (IntKind.wrap IntKind.i64 (x1 + (1 : Int))))))], [], 0⟩)) := fun J => by kernel_rfl
  exact (h jn).trans (by
    simp only [jn_eq, h1]
    rfl)
theorem law04_holes_j2_eq (m : Nat) (M1 : Nat) (rec1 : List Dt → Int → Option (Bool)) (h1 : ∀ (x0 : List Dt) (x1 : Int), l25 jn m [1, 1, 0, 1, 0] [] M1 ⟨tsOf [(3, (.dat 33 (.lst x0))), (4, (.dat 3 (.int x1)))], [], 0⟩ = rec1 x0 x1) (x0 : List Dt) (x1 : Int) : e25 jn m [1, 1, 0, 1, 0, 0, 1] [M1] ⟨tsOf [(3, (.dat 33 (.lst x0))), (4, (.dat 3 (.int x1)))], [], 0⟩ = law04_holes_j2 m (law04_holes m) rec1 x0 x1 := by
  have h : ∀ J, e25 J m [1, 1, 0, 1, 0, 0, 1] [M1] ⟨tsOf [(3, (.dat 33 (.lst x0))), (4, (.dat 3 (.int x1)))], [], 0⟩ =
    ((idx x0 x1).bind fun v1 =>
      (bif ((Dt.I v1 0) == (0 : Int)) then
        some Bool.true
      else
        ((idx x0 x1).bind fun v2 =>
          ((law04_holes m v2).bind fun r3 =>
            (bif r3 then
              some Bool.true
            else
              (J 0 4 0 ⟨tsOf [(3, (.dat 33 (.lst x0))), (4, (.dat 3 (.int x1)))], [], 0⟩ (e25 J m [1, 1, 0, 1, 0, 0, 1, 1] [M1] ⟨tsOf [(3, (.dat 33 (.lst x0))), (4, (.dat 3 (.int x1)))], [], 0⟩))))))) := fun J => by kernel_rfl
  exact (h jn).trans (by
    simp only [jn_eq, law04_holes_j3_eq m M1 rec1 h1]
    rfl)
theorem law04_holes_j4_eq (m : Nat) : e25 jn m [1, 1, 1] [] ⟨tsOf [], [], 0⟩ = law04_holes_j4 m (law04_holes m) := by
  have h : ∀ J, e25 J m [1, 1, 1] [] ⟨tsOf [], [], 0⟩ =
    some Bool.false := fun J => by kernel_rfl
  exact (h jn).trans (rfl)
theorem law04_holes_l1_eq (m : Nat) : ∀ (M1 : Nat) (x0 : List Dt) (x1 : Int), l25 jn m [1, 1, 0, 1, 0] [] M1 ⟨tsOf [(3, (.dat 33 (.lst x0))), (4, (.dat 3 (.int x1)))], [], 0⟩ = law04_holes_l1 m (law04_holes m) M1 x0 x1
  | 0, _, _ => rfl
  | M1 + 1, x0, x1 => by
    have h : ∀ J, l25 J m [1, 1, 0, 1, 0] [] (M1 + 1) ⟨tsOf [(3, (.dat 33 (.lst x0))), (4, (.dat 3 (.int x1)))], [], 0⟩ =
    (bif (decide (x1 < (((List.length x0) : Nat) : Int))) then
      (J 0 5 0 ⟨tsOf [(3, (.dat 33 (.lst x0))), (4, (.dat 3 (.int x1)))], [], 0⟩ (e25 J m [1, 1, 0, 1, 0, 0, 1] [M1] ⟨tsOf [(3, (.dat 33 (.lst x0))), (4, (.dat 3 (.int x1)))], [], 0⟩))
    else
      (J 0 7 0 ⟨tsOf [], [], 0⟩ (e25 J m [1, 1, 1] [] ⟨tsOf [], [], 0⟩))) := fun J => by kernel_rfl
    refine (h jn).trans ?_
    simp only [jn_eq, law04_holes_j2_eq m M1 (law04_holes_l1 m (law04_holes m) M1) (fun x0 x1 => law04_holes_l1_eq m M1 x0 x1), law04_holes_j4_eq m]
    rfl
theorem law04_holes_j0_eq (m : Nat) (x0 : List Dt) (x1 : Int) : e25 jn m [1, 1, 0, 1] [] ⟨tsOf [(3, (.dat 33 (.lst x0))), (4, (.dat 3 (.int x1)))], [], 0⟩ = law04_holes_j0 m (law04_holes m) x0 x1 := by
  have h : ∀ J, e25 J m [1, 1, 0, 1] [] ⟨tsOf [(3, (.dat 33 (.lst x0))), (4, (.dat 3 (.int x1)))], [], 0⟩ =
    (J 1 3 (Nat.succ m) ⟨tsOf [(3, (.dat 33 (.lst x0))), (4, (.dat 3 (.int x1)))], [], 0⟩ (l25 J m [1, 1, 0, 1, 0] [] (Nat.succ m) ⟨tsOf [(3, (.dat 33 (.lst x0))), (4, (.dat 3 (.int x1)))], [], 0⟩)) := fun J => by kernel_rfl
  exact (h jn).trans (by
    simp only [jn_eq, law04_holes_l1_eq m]
    rfl)
theorem law04_holes_eq (m : Nat) (a0 : Dt) : e25 jn m [] [] ⟨[(.dat 36 a0)], [], 0⟩ = law04_holes (m + 1) a0 := by
  have h : ∀ J, e25 J m [] [] ⟨[(.dat 36 a0)], [], 0⟩ =
    ((ref01_Parts m a0).bind fun r0 =>
      (J 0 3 0 ⟨tsOf [(3, (.dat 33 (.lst r0))), (4, (.dat 3 (.int (0 : Int))))], [], 0⟩ (e25 J m [1, 1, 0, 1] [] ⟨tsOf [(3, (.dat 33 (.lst r0))), (4, (.dat 3 (.int (0 : Int))))], [], 0⟩))) := fun J => by kernel_rfl
  refine (h jn).trans ?_
  simp only [jn_eq, law04_holes_j0_eq m]
  rfl
noncomputable def d42 (q : Res) : Option (Int) := match q with
  | (.dat T0 x0, []) => bif Nat.beq T0 3 then some x0.toInt else none
  | _ => none
theorem d42_sim {b : Res} {r : Int} (h : d42 b = some r) : Sim Tryd.prog b ((.dat 3 (.int r)), []) := by
  unfold d42 at h
  split at h
  · obtain ⟨hc, h2⟩ := bif_some h
    cases h2
    have e0 := beq_eq hc
    subst e0
    exact Sim.of (.of (.dat (.int Tryd.underlying3)) rfl rfl) .nil
  · cases h
noncomputable def e42 (J : Nat → Nat → Nat → St → Option (Int) → Option (Int)) (m : Nat) (p ms : List Nat) (σ : St) := evAt Tryd.prog env (ct m) J (m + 1) 70 34 Tryd.f70 d42 p ms σ
noncomputable def l42 (J : Nat → Nat → Nat → St → Option (Int) → Option (Int)) (m : Nat) (p ms : List Nat) (M : Nat) (σ : St) := loopAt Tryd.prog env (ct m) J (m + 1) 70 34 Tryd.f70 d42 p ms M σ
theorem ref01_levels_j4_eq (m : Nat) (M2 : Nat) (rec2 : Int → List Dt → Int → Int → Option (Int)) (h2 : ∀ (x0 : Int) (x1 : List Dt) (x2 : Int) (x3 : Int), l42 jn m [1, 1, 1, 1, 0, 1, 0] [] M2 ⟨tsOf [(1, (.dat 3 (.int x0))), (5, (.dat 33 (.lst x1))), (6, (.dat 3 (.int x2))), (7, (.dat 3 (.int x3)))], [], 0⟩ = rec2 x0 x1 x2 x3) (x0 : Int) (x1 : List Dt) (x2 : Int) (x3 : Int) : e42 jn m [1, 1, 1, 1, 0, 1, 0, 0, 1, 1] [M2] ⟨tsOf [(1, (.dat 3 (.int x0))), (5, (.dat 33 (.lst x1))), (6, (.dat 3 (.int x2))), (7, (.dat 3 (.int x3)))], [], 0⟩ = ref01_levels_j4 m (ref01_levels m) rec2 x0 x1 x2 x3 := by
  have h : ∀ J, e42 J m [1, 1, 1, 1, 0, 1, 0, 0, 1, 1] [M2] ⟨tsOf [(1, (.dat 3 (.int x0))), (5, (.dat 33 (.lst x1))), (6, (.dat 3 (.int x2))), (7, (.dat 3 (.int x3)))], [], 0⟩ =
    (J 1 6 M2 ⟨tsOf [(1, (.dat 3 (.int x0))), (5, (.dat 33 (.lst x1))), (6, (.dat 3 (.int x2))), (7, (.dat 3 (.int (IntKind.wrap IntKind.i64 (x3 + (1 : Int))))))], [], 0⟩ (l42 J m [1, 1, 1, 1, 0, 1, 0] [] M2 ⟨tsOf [(1, (.dat 3 (.int x0))), (5, (.dat 33 (.lst x1))), (6, (.dat 3 (.int x2))), (7, (.dat 3 (.int (IntKind.wrap IntKind.i64 (x3 + (1 : Int))))))], [], 0⟩)) := fun J => by kernel_rfl
  exact (h jn).trans (by
    simp only [jn_eq, h2]
    rfl)
theorem ref01_levels_j3_eq (m : Nat) (M2 : Nat) (rec2 : Int → List Dt → Int → Int → Option (Int)) (h2 : ∀ (x0 : Int) (x1 : List Dt) (x2 : Int) (x3 : Int), l42 jn m [1, 1, 1, 1, 0, 1, 0] [] M2 ⟨tsOf [(1, (.dat 3 (.int x0))), (5, (.dat 33 (.lst x1))), (6, (.dat 3 (.int x2))), (7, (.dat 3 (.int x3)))], [], 0⟩ = rec2 x0 x1 x2 x3) (x0 : Int) (x1 : List Dt) (x2 : Int) (x3 : Int) : e42 jn m [1, 1, 1, 1, 0, 1, 0, 0, 1] [M2] ⟨tsOf [(1, (.dat 3 (.int x0))), (5, (.dat 33 (.lst x1))), (6, (.dat 3 (.int x2))), (7, (.dat 3 (.int x3)))], [], 0⟩ = ref01_levels_j3 m (ref01_levels m) rec2 x0 x1 x2 x3 := by
  have h : ∀ J, e42 J m [1, 1, 1, 1, 0, 1, 0, 0, 1] [M2] ⟨tsOf [(1, (.dat 3 (.int x0))), (5, (.dat 33 (.lst x1))), (6, (.dat 3 (.int x2))), (7, (.dat 3 (.int x3)))], [], 0⟩ =
    ((idx x1 x3).bind fun v1 =>
      ((ref01_levels m v1 (IntKind.wrap IntKind.i64 (x0 - (1 : Int)))).bind fun r2 =>
        (J 0 7 0 ⟨tsOf [(1, (.dat 3 (.int x0))), (5, (.dat 33 (.lst x1))), (6, (.dat 3 (.int (bif (decide (x2 < r2)) then r2 else x2)))), (7, (.dat 3 (.int x3)))], [], 0⟩ (e42 J m [1, 1, 1, 1, 0, 1, 0, 0, 1, 1] [M2] ⟨tsOf [(1, (.dat 3 (.int x0))), (5, (.dat 33 (.lst x1))), (6, (.dat 3 (.int (bif (decide (x2 < r2)) then r2 else x2)))), (7, (.dat 3 (.int x3)))], [], 0⟩)))) := fun J => by kernel_rfl
  exact (h jn).trans (by
    simp only [jn_eq, ref01_levels_j4_eq m M2 rec2 h2]
    rfl)
theorem ref01_levels_j5_eq (m : Nat) (x0 : Int) : e42 jn m [1, 1, 1, 1, 1] [] ⟨tsOf [(6, (.dat 3 (.int x0)))], [], 0⟩ = ref01_levels_j5 m (ref01_levels m) x0 := by
  have h : ∀ J, e42 J m [1, 1, 1, 1, 1] [] ⟨tsOf [(6, (.dat 3 (.int x0)))], [], 0⟩ =
    some (IntKind.wrap IntKind.i64 (x0 + (1 : Int))) := fun J => by kernel_rfl
  exact (h jn).trans (rfl)
theorem ref01_levels_l2_eq (m : Nat) : ∀ (M2 : Nat) (x0 : Int) (x1 : List Dt) (x2 : Int) (x3 : Int), l42 jn m [1, 1, 1, 1, 0, 1, 0] [] M2 ⟨tsOf [(1, (.dat 3 (.int x0))), (5, (.dat 33 (.lst x1))), (6, (.dat 3 (.int x2))), (7, (.dat 3 (.int x3)))], [], 0⟩ = ref01_levels_l2 m (ref01_levels m) M2 x0 x1 x2 x3
  | 0, _, _, _, _ => rfl
  | M2 + 1, x0, x1, x2, x3 => by
    have h : ∀ J, l42 J m [1, 1, 1, 1, 0, 1, 0] [] (M2 + 1) ⟨tsOf [(1, (.dat 3 (.int x0))), (5, (.dat 33 (.lst x1))), (6, (.dat 3 (.int x2))), (7, (.dat 3 (.int x3)))], [], 0⟩ =
    (bif (decide (x3 < (((List.length x1) : Nat) : Int))) then
      (J 0 8 0 ⟨tsOf [(1, (.dat 3 (.int x0))), (5, (.dat 33 (.lst x1))), (6, (.dat 3 (.int x2))), (7, (.dat 3 (.int x3)))], [], 0⟩ (e42 J m [1, 1, 1, 1, 0, 1, 0, 0, 1] [M2] ⟨tsOf [(1, (.dat 3 (.int x0))), (5, (.dat 33 (.lst x1))), (6, (.dat 3 (.int x2))), (7, (.dat 3 (.int x3)))], [], 0⟩))
    else
      (J 0 9 0 ⟨tsOf [(6, (.dat 3 (.int x2)))], [], 0⟩ (e42 J m [1, 1, 1, 1, 1] [] ⟨tsOf [(6, (.dat 3 (.int x2)))], [], 0⟩))) := fun J => by kernel_rfl
    refine (h jn).trans ?_
    simp only [jn_eq, ref01_levels_j3_eq m M2 (ref01_levels_l2 m (ref01_levels m) M2) (fun x0 x1 x2 x3 => ref01_levels_l2_eq m M2 x0 x1 x2 x3), ref01_levels_j5_eq m]
    rfl
theorem ref01_levels_j1_eq (m : Nat) (x0 : Int) (x1 : List Dt) (x2 : Int) (x3 : Int) : e42 jn m [1, 1, 1, 1, 0, 1] [] ⟨tsOf [(1, (.dat 3 (.int x0))), (5, (.dat 33 (.lst x1))), (6, (.dat 3 (.int x2))), (7, (.dat 3 (.int x3)))], [], 0⟩ = ref01_levels_j1 m (ref01_levels m) x0 x1 x2 x3 := by
  have h : ∀ J, e42 J m [1, 1, 1, 1, 0, 1] [] ⟨tsOf [(1, (.dat 3 (.int x0))), (5, (.dat 33 (.lst x1))), (6, (.dat 3 (.int x2))), (7, (.dat 3 (.int x3)))], [], 0⟩ =
    (J 1 6 (Nat.succ m) ⟨tsOf [(1, (.dat 3 (.int x0))), (5, (.dat 33 (.lst x1))), (6, (.dat 3 (.int x2))), (7, (.dat 3 (.int x3)))], [], 0⟩ (l42 J m [1, 1, 1, 1, 0, 1, 0] [] (Nat.succ m) ⟨tsOf [(1, (.dat 3 (.int x0))), (5, (.dat 33 (.lst x1))), (6, (.dat 3 (.int x2))), (7, (.dat 3 (.int x3)))], [], 0⟩)) := fun J => by kernel_rfl
  exact (h jn).trans (by
    simp only [jn_eq, ref01_levels_l2_eq m]
    rfl)
theorem ref01_levels_j0_eq (m : Nat) (x0 : Int) (x1 : List Dt) : e42 jn m [1, 1, 1] [] ⟨tsOf [(1, (.dat 3 (.int x0))), (5, (.dat 33 (.lst x1)))], [], 0⟩ = ref01_levels_j0 m (ref01_levels m) x0 x1 := by
  have h : ∀ J, e42 J m [1, 1, 1] [] ⟨tsOf [(1, (.dat 3 (.int x0))), (5, (.dat 33 (.lst x1)))], [], 0⟩ =
    (J 0 6 0 ⟨tsOf [(1, (.dat 3 (.int x0))), (5, (.dat 33 (.lst x1))), (6, (.dat 3 (.int (0 : Int)))), (7, (.dat 3 (.int (0 : Int))))], [], 0⟩ (e42 J m [1, 1, 1, 1, 0, 1] [] ⟨tsOf [(1, (.dat 3 (.int x0))), (5, (.dat 33 (.lst x1))), (6, (.dat 3 (.int (0 : Int)))), (7, (.dat 3 (.int (0 : Int))))], [], 0⟩)) := fun J => by kernel_rfl
  exact (h jn).trans (by
    simp only [jn_eq, ref01_levels_j1_eq m]
    rfl)
theorem ref01_levels_eq (m : Nat) (a0 : Dt) (a1 : Int) : e42 jn m [] [] ⟨[(.dat 36 a0), (.dat 3 (.int a1))], [], 0⟩ = ref01_levels (m + 1) a0 a1 := by
  have h : ∀ J, e42 J m [] [] ⟨[(.dat 36 a0), (.dat 3 (.int a1))], [], 0⟩ =
    ((ref01_Parts m a0).bind fun r0 =>
      (bif (decide (a1 < (2 : Int))) then
        some (1 : Int)
      else
        (bif ((((List.length r0) : Nat) : Int) == (0 : Int)) then
          some (1 : Int)
        else
          (J 0 4 0 ⟨tsOf [(1, (.dat 3 (.int a1))), (5, (.dat 33 (.lst r0)))], [], 0⟩ (e42 J m [1, 1, 1] [] ⟨tsOf [(1, (.dat 3 (.int a1))), (5, (.dat 33 (.lst r0)))], [], 0⟩))))) := fun J => by kernel_rfl
  refine (h jn).trans ?_
  simp only [jn_eq, ref01_levels_j0_eq m]
  rfl
noncomputable def d35 (q : Res) : Option (Int) := match q with
  | (.dat T0 x0, []) => bif Nat.beq T0 3 then some x0.toInt else none
  | _ => none
theorem d35_sim {b : Res} {r : Int} (h : d35 b = some r) : Sim Tryd.prog b ((.dat 3 (.int r)), []) := by
  unfold d35 at h
  split at h
  · obtain ⟨hc, h2⟩ := bif_some h
    cases h2
    have e0 := beq_eq hc
    subst e0
    exact Sim.of (.of (.dat (.int Tryd.underlying3)) rfl rfl) .nil
  · cases h
noncomputable def e35 (J : Nat → Nat → Nat → St → Option (Int) → Option (Int)) (m : Nat) (p ms : List Nat) (σ : St) := evAt Tryd.prog env (ct m) J (m + 1) 49 5 Tryd.f49 d35 p ms σ
noncomputable def l35 (J : Nat → Nat → Nat → St → Option (Int) → Option (Int)) (m : Nat) (p ms : List Nat) (M : Nat) (σ : St) := loopAt Tryd.prog env (ct m) J (m + 1) 49 5 Tryd.f49 d35 p ms M σ
theorem ref01_Depth_eq (m : Nat) (a0 : Dt) : e35 jn m [] [] ⟨[(.dat 36 a0)], [], 0⟩ = ref01_Depth (m + 1) a0 := by
  have h : ∀ J, e35 J m [] [] ⟨[(.dat 36 a0)], [], 0⟩ =
    ((ref01_levels m a0 (17 : Int)).bind fun r0 =>
      some r0) := fun J => by kernel_rfl
  refine (h jn).trans ?_
  
  rfl
noncomputable def d43 (q : Res) : Option (Int) := match q with
  | (.dat T0 x0, []) => bif Nat.beq T0 3 then some x0.toInt else none
  | _ => none
theorem d43_sim {b : Res} {r : Int} (h : d43 b = some r) : Sim Tryd.prog b ((.dat 3 (.int r)), []) := by
  unfold d43 at h
  split at h
  · obtain ⟨hc, h2⟩ := bif_some h
    cases h2
    have e0 := beq_eq hc
    subst e0
    exact Sim.of (.of (.dat (.int Tryd.underlying3)) rfl rfl) .nil
  · cases h
noncomputable def e43 (J : Nat → Nat → Nat → St → Option (Int) → Option (Int)) (m : Nat) (p ms : List Nat) (σ : St) := evAt Tryd.prog env (ct m) J (m + 1) 71 32 Tryd.f71 d43 p ms σ
noncomputable def l43 (J : Nat → Nat → Nat → St → Option (Int) → Option (Int)) (m : Nat) (p ms : List Nat) (M : Nat) (σ : St) := loopAt Tryd.prog env (ct m) J (m + 1) 71 32 Tryd.f71 d43 p ms M σ
theorem ref01_count_j3_eq (m : Nat) (M1 : Nat) (rec1 : Int → Int → List Dt → Int → Option (Int)) (h1 : ∀ (x0 : Int) (x1 : Int) (x2 : List Dt) (x3 : Int), l43 jn m [1, 1, 1, 0, 1, 0] [] M1 ⟨tsOf [(1, (.dat 3 (.int x0))), (5, (.dat 3 (.int x1))), (6, (.dat 33 (.lst x2))), (7, (.dat 3 (.int x3)))], [], 0⟩ = rec1 x0 x1 x2 x3) (x0 : Int) (x1 : Int) (x2 : List Dt) (x3 : Int) : e43 jn m [1, 1, 1, 0, 1, 0, 0, 1, 1] [M1] ⟨tsOf [(1, (.dat 3 (.int x0))), (5, (.dat 3 (.int x1))), (6, (.dat 33 (.lst x2))), (7, (.dat 3 (.int x3)))], [], 0⟩ = ref01_count_j3 m (ref01_count m) rec1 x0 x1 x2 x3 := by
  have h : ∀ J, e43 J m [1, 1, 1, 0, 1, 0, 0, 1, 1] [M1] ⟨tsOf [(1, (.dat 3 (.int x0))), (5, (.dat 3 (.int x1))), (6, (.dat 33 (.lst x2))), (7, (.dat 3 (.int x3)))], [], 0⟩ =
    (J 1 4 M1 ⟨tsOf [(1, (.dat 3 (.int x0))), (5, (.dat 3 (.int x1))), (6, (.dat 33 (.lst x2))), (7, (.dat 3 (.int (IntKind.wrap IntKind.i64 (x3 + (1 : Int))))))], [], 0⟩ (l43 J m [1, 1, 1, 0, 1, 0] [] M1 ⟨tsOf [(1, (.dat 3 (.int x0))), (5, (.dat 3 (.int x1))), (6, (.dat 33 (.lst x2))), (7, (.dat 3 (.int (IntKind.wrap IntKind.i64 (x3 + (1 : Int))))))], [], 0⟩)) := fun J => by kernel_rfl
  exact (h jn).trans (by
    simp only [jn_eq, h1]
    rfl)
theorem ref01_count_j2_eq (m : Nat) (M1 : Nat) (rec1 : Int → Int → List Dt → Int → Option (Int)) (h1 : ∀ (x0 : Int) (x1 : Int) (x2 : List Dt) (x3 : Int), l43 jn m [1, 1, 1, 0, 1, 0] [] M1 ⟨tsOf [(1, (.dat 3 (.int x0))), (5, (.dat 3 (.int x1))), (6, (.dat 33 (.lst x2))), (7, (.dat 3 (.int x3)))], [], 0⟩ = rec1 x0 x1 x2 x3) (x0 : Int) (x1 : Int) (x2 : List Dt) (x3 : Int) : e43 jn m [1, 1, 1, 0, 1, 0, 0, 1] [M1] ⟨tsOf [(1, (.dat 3 (.int x0))), (5, (.dat 3 (.int x1))), (6, (.dat 33 (.lst x2))), (7, (.dat 3 (.int x3)))], [], 0⟩ = ref01_count_j2 m (ref01_count m) rec1 x0 x1 x2 x3 := by
  have h : ∀ J, e43 J m [1, 1, 1, 0, 1, 0, 0, 1] [M1] ⟨tsOf [(1, (.dat 3 (.int x0))), (5, (.dat 3 (.int x1))), (6, (.dat 33 (.lst x2))), (7, (.dat 3 (.int x3)))], [], 0⟩ =
    ((idx x2 x3).bind fun v1 =>
      ((ref01_count m v1 (IntKind.wrap IntKind.i64 (x0 - x1))).bind fun r2 =>
        (J 0 5 0 ⟨tsOf [(1, (.dat 3 (.int x0))), (5, (.dat 3 (.int (IntKind.wrap IntKind.i64 (x1 + r2))))), (6, (.dat 33 (.lst x2))), (7, (.dat 3 (.int x3)))], [], 0⟩ (e43 J m [1, 1, 1, 0, 1, 0, 0, 1, 1] [M1] ⟨tsOf [(1, (.dat 3 (.int x0))), (5, (.dat 3 (.int (IntKind.wrap IntKind.i64 (x1 + r2))))), (6, (.dat 33 (.lst x2))), (7, (.dat 3 (.int x3)))], [], 0⟩)))) := fun J => by kernel_rfl
  exact (h jn).trans (by
    simp only [jn_eq, ref01_count_j3_eq m M1 rec1 h1]
    rfl)
theorem ref01_count_j4_eq (m : Nat) (x0 : Int) : e43 jn m [1, 1, 1, 1] [] ⟨tsOf [(5, (.dat 3 (.int x0)))], [], 0⟩ = ref01_count_j4 m (ref01_count m) x0 := by
  have h : ∀ J, e43 J m [1, 1, 1, 1] [] ⟨tsOf [(5, (.dat 3 (.int x0)))], [], 0⟩ =
    some x0 := fun J => by kernel_rfl
  exact (h jn).trans (rfl)
theorem ref01_count_l1_eq (m : Nat) : ∀ (M1 : Nat) (x0 : Int) (x1 : Int) (x2 : List Dt) (x3 : Int), l43 jn m [1, 1, 1, 0, 1, 0] [] M1 ⟨tsOf [(1, (.dat 3 (.int x0))), (5, (.dat 3 (.int x1))), (6, (.dat 33 (.lst x2))), (7, (.dat 3 (.int x3)))], [], 0⟩ = ref01_count_l1 m (ref01_count m) M1 x0 x1 x2 x3
  | 0, _, _, _, _ => rfl
  | M1 + 1, x0, x1, x2, x3 => by
    have h : ∀ J, l43 J m [1, 1, 1, 0, 1, 0] [] (M1 + 1) ⟨tsOf [(1, (.dat 3 (.int x0))), (5, (.dat 3 (.int x1))), (6, (.dat 33 (.lst x2))), (7, (.dat 3 (.int x3)))], [], 0⟩ =
    (bif (decide (x3 < (((List.length x2) : Nat) : Int))) then
      (bif (decide (x1 < x0)) then
        (J 0 6 0 ⟨tsOf [(1, (.dat 3 (.int x0))), (5, (.dat 3 (.int x1))), (6, (.dat 33 (.lst x2))), (7, (.dat 3 (.int x3)))], [], 0⟩ (e43 J m [1, 1, 1, 0, 1, 0, 0, 1] [M1] ⟨tsOf [(1, (.dat 3 (.int x0))), (5, (.dat 3 (.int x1))), (6, (.dat 33 (.lst x2))), (7, (.dat 3 (.int x3)))], [], 0⟩))
      else
        (J 0 7 0 ⟨tsOf [(5, (.dat 3 (.int x1)))], [], 0⟩ (e43 J m [1, 1, 1, 1] [] ⟨tsOf [(5, (.dat 3 (.int x1)))], [], 0⟩)))
    else
      (J 0 7 0 ⟨tsOf [(5, (.dat 3 (.int x1)))], [], 0⟩ (e43 J m [1, 1, 1, 1] [] ⟨tsOf [(5, (.dat 3 (.int x1)))], [], 0⟩))) := fun J => by kernel_rfl
    refine (h jn).trans ?_
    simp only [jn_eq, ref01_count_j2_eq m M1 (ref01_count_l1 m (ref01_count m) M1) (fun x0 x1 x2 x3 => ref01_count_l1_eq m M1 x0 x1 x2 x3), ref01_count_j4_eq m]
    rfl
theorem ref01_count_j0_eq (m : Nat) (x0 : Int) (x1 : Int) (x2 : List Dt) (x3 : Int) : e43 jn m [1, 1, 1, 0, 1] [] ⟨tsOf [(1, (.dat 3 (.int x0))), (5, (.dat 3 (.int x1))), (6, (.dat 33 (.lst x2))), (7, (.dat 3 (.int x3)))], [], 0⟩ = ref01_count_j0 m (ref01_count m) x0 x1 x2 x3 := by
  have h : ∀ J, e43 J m [1, 1, 1, 0, 1] [] ⟨tsOf [(1, (.dat 3 (.int x0))), (5, (.dat 3 (.int x1))), (6, (.dat 33 (.lst x2))), (7, (.dat 3 (.int x3)))], [], 0⟩ =
    (J 1 4 (Nat.succ m) ⟨tsOf [(1, (.dat 3 (.int x0))), (5, (.dat 3 (.int x1))), (6, (.dat 33 (.lst x2))), (7, (.dat 3 (.int x3)))], [], 0⟩ (l43 J m [1, 1, 1, 0, 1, 0] [] (Nat.succ m) ⟨tsOf [(1, (.dat 3 (.int x0))), (5, (.dat 3 (.int x1))), (6, (.dat 33 (.lst x2))), (7, (.dat 3 (.int x3)))], [], 0⟩)) := fun J => by kernel_rfl
  exact (h jn).trans (by
    simp only [jn_eq, ref01_count_l1_eq m]
    rfl)
theorem ref01_count_eq (m : Nat) (a0 : Dt) (a1 : Int) : e43 jn m [] [] ⟨[(.dat 36 a0), (.dat 3 (.int a1))], [], 0⟩ = ref01_count (m + 1) a0 a1 := by
  have h : ∀ J, e43 J m [] [] ⟨[(.dat 36 a0), (.dat 3 (.int a1))], [], 0⟩ =
    ((ref01_Parts m a0).bind fun r0 =>
      (J 0 4 0 ⟨tsOf [(1, (.dat 3 (.int a1))), (5, (.dat 3 (.int (1 : Int)))), (6, (.dat 33 (.lst r0))), (7, (.dat 3 (.int (0 : Int))))], [], 0⟩ (e43 J m [1, 1, 1, 0, 1] [] ⟨tsOf [(1, (.dat 3 (.int a1))), (5, (.dat 3 (.int (1 : Int)))), (6, (.dat 33 (.lst r0))), (7, (.dat 3 (.int (0 : Int))))], [], 0⟩))) := fun J => by kernel_rfl
  refine (h jn).trans ?_
  simp only [jn_eq, ref01_count_j0_eq m]
  rfl
noncomputable def d36 (q : Res) : Option (Int) := match q with
  | (.dat T0 x0, []) => bif Nat.beq T0 3 then some x0.toInt else none
  | _ => none
theorem d36_sim {b : Res} {r : Int} (h : d36 b = some r) : Sim Tryd.prog b ((.dat 3 (.int r)), []) := by
  unfold d36 at h
  split at h
  · obtain ⟨hc, h2⟩ := bif_some h
    cases h2
    have e0 := beq_eq hc
    subst e0
    exact Sim.of (.of (.dat (.int Tryd.underlying3)) rfl rfl) .nil
  · cases h
noncomputable def e36 (J : Nat → Nat → Nat → St → Option (Int) → Option (Int)) (m : Nat) (p ms : List Nat) (σ : St) := evAt Tryd.prog env (ct m) J (m + 1) 50 5 Tryd.f50 d36 p ms σ
noncomputable def l36 (J : Nat → Nat → Nat → St → Option (Int) → Option (Int)) (m : Nat) (p ms : List Nat) (M : Nat) (σ : St) := loopAt Tryd.prog env (ct m) J (m + 1) 50 5 Tryd.f50 d36 p ms M σ
theorem ref01_Nodes_eq (m : Nat) (a0 : Dt) : e36 jn m [] [] ⟨[(.dat 36 a0)], [], 0⟩ = ref01_Nodes (m + 1) a0 := by
  have h : ∀ J, e36 J m [] [] ⟨[(.dat 36 a0)], [], 0⟩ =
    ((ref01_count m a0 (1025 : Int)).bind fun r0 =>
      some r0) := fun J => by kernel_rfl
  refine (h jn).trans ?_
  
  rfl
noncomputable def d18 (q : Res) : Option (Bool) := match q with
  | (.dat T0 x0, []) => bif Nat.beq T0 4 then some x0.toBool else none
  | _ => none
theorem d18_sim {b : Res} {r : Bool} (h : d18 b = some r) : Sim Tryd.prog b ((.dat 4 (.bool r)), []) := by
  unfold d18 at h
  split at h
  · obtain ⟨hc, h2⟩ := bif_some h
    cases h2
    have e0 := beq_eq hc
    subst e0
    exact Sim.of (.of (.dat (.bool Tryd.underlying4)) rfl rfl) .nil
  · cases h
noncomputable def e18 (J : Nat → Nat → Nat → St → Option (Bool) → Option (Bool)) (m : Nat) (p ms : List Nat) (σ : St) := evAt Tryd.prog env (ct m) J (m + 1) 22 18 Tryd.f22 d18 p ms σ
noncomputable def l18 (J : Nat → Nat → Nat → St → Option (Bool) → Option (Bool)) (m : Nat) (p ms : List Nat) (M : Nat) (σ : St) := loopAt Tryd.prog env (ct m) J (m + 1) 22 18 Tryd.f22 d18 p ms M σ
theorem law04_small_eq (m : Nat) (a0 : Dt) (a1 : List Dt) : e18 jn m [] [] ⟨[(.dat 36 a0), (.dat 23 (.lst a1))], [], 0⟩ = law04_small (m + 1) a0 a1 := by
  have h : ∀ J, e18 J m [] [] ⟨[(.dat 36 a0), (.dat 23 (.lst a1))], [], 0⟩ =
    ((ref01_Depth m a0).bind fun r0 =>
      (bif (decide (r0 ≤ (16 : Int))) then
        ((ref01_Nodes m a0).bind fun r1 =>
          (bif (decide (r1 ≤ (1024 : Int))) then
            some (decide ((((List.length a1) : Nat) : Int) ≤ (20 : Int)))
          else
            some Bool.false))
      else
        some Bool.false)) := fun J => by kernel_rfl
  refine (h jn).trans ?_
  
  rfl
noncomputable def d5 (q : Res) : Option (Bool) := match q with
  | (.dat T0 x0, []) => bif Nat.beq T0 4 then some x0.toBool else none
  | _ => none
theorem d5_sim {b : Res} {r : Bool} (h : d5 b = some r) : Sim Tryd.prog b ((.dat 4 (.bool r)), []) := by
  unfold d5 at h
  split at h
  · obtain ⟨hc, h2⟩ := bif_some h
    cases h2
    have e0 := beq_eq hc
    subst e0
    exact Sim.of (.of (.dat (.bool Tryd.underlying4)) rfl rfl) .nil
  · cases h
noncomputable def e5 (J : Nat → Nat → Nat → St → Option (Bool) → Option (Bool)) (m : Nat) (p ms : List Nat) (σ : St) := evAt Tryd.prog env (ct m) J (m + 1) 11 117 Tryd.f11 d5 p ms σ
noncomputable def l5 (J : Nat → Nat → Nat → St → Option (Bool) → Option (Bool)) (m : Nat) (p ms : List Nat) (M : Nat) (σ : St) := loopAt Tryd.prog env (ct m) J (m + 1) 11 117 Tryd.f11 d5 p ms M σ
theorem law04_PathLeaves_j6_eq (m : Nat) (M2 : Nat) (rec2 : List Dt → List Dt → List Dt → Int → Int → Dt → Option (Bool)) (h2 : ∀ (x0 : List Dt) (x1 : List Dt) (x2 : List Dt) (x3 : Int) (x4 : Int) (x5 : Dt), l5 jn m [1, 1, 1, 1, 0, 1, 0] [] M2 ⟨tsOf [(1, (.dat 23 (.lst x0))), (2, (.ptr 0 [] 0)), (5, (.dat 33 (.lst x1))), (6, (.dat 33 (.lst x2))), (7, (.dat 3 (.int x3))), (8, (.dat 3 (.int x4)))], [(.box 36 (.dat 36 x5))], 0⟩ = rec2 x0 x1 x2 x3 x4 x5) (x0 : List Dt) (x1 : List Dt) (x2 : List Dt) (x3 : Int) (x4 : Int) (x5 : Dt) : e5 jn m [1, 1, 1, 1, 0, 1, 0, 0, 1, 1] [M2] ⟨tsOf [(1, (.dat 23 (.lst x0))), (2, (.ptr 0 [] 0)), (5, (.dat 33 (.lst x1))), (6, (.dat 33 (.lst x2))), (7, (.dat 3 (.int x3))), (8, (.dat 3 (.int x4)))], [(.box 36 (.dat 36 x5))], 0⟩ = law04_PathLeaves_j6 m rec2 x0 x1 x2 x3 x4 x5 := by
  have h : ∀ J, e5 J m [1, 1, 1, 1, 0, 1, 0, 0, 1, 1] [M2] ⟨tsOf [(1, (.dat 23 (.lst x0))), (2, (.ptr 0 [] 0)), (5, (.dat 33 (.lst x1))), (6, (.dat 33 (.lst x2))), (7, (.dat 3 (.int x3))), (8, (.dat 3 (.int x4)))], [(.box 36 (.dat 36 x5))], 0⟩ =
    (J 1 6 M2 ⟨tsOf [(1, (.dat 23 (.lst x0))), (2, (.ptr 0 [] 0)), (5, (.dat 33 (.lst x1))), (6, (.dat 33 (.lst x2))), (7, (.dat 3 (.int x3))), (8, (.dat 3 (.int (IntKind.wrap IntKind.i64 (x4 + (1 : Int))))))], [(.box 36 (.dat 36 x5))], 0⟩ (l5 J m [1, 1, 1, 1, 0, 1, 0] [] M2 ⟨tsOf [(1, (.dat 23 (.lst x0))), (2, (.ptr 0 [] 0)), (5, (.dat 33 (.lst x1))), (6, (.dat 33 (.lst x2))), (7, (.dat 3 (.int x3))), (8, (.dat 3 (.int (IntKind.wrap IntKind.i64 (x4 + (1 : Int))))))], [(.box 36 (.dat 36 x5))], 0⟩)) := fun J => by kernel_rfl
  exact (h jn).trans (by
    simp only [jn_eq, h2]
    rfl)
theorem law04_PathLeaves_j5_eq (m : Nat) (M2 : Nat) (rec2 : List Dt → List Dt → List Dt → Int → Int → Dt → Option (Bool)) (h2 : ∀ (x0 : List Dt) (x1 : List Dt) (x2 : List Dt) (x3 : Int) (x4 : Int) (x5 : Dt), l5 jn m [1, 1, 1, 1, 0, 1, 0] [] M2 ⟨tsOf [(1, (.dat 23 (.lst x0))), (2, (.ptr 0 [] 0)), (5, (.dat 33 (.lst x1))), (6, (.dat 33 (.lst x2))), (7, (.dat 3 (.int x3))), (8, (.dat 3 (.int x4)))], [(.box 36 (.dat 36 x5))], 0⟩ = rec2 x0 x1 x2 x3 x4 x5) (x0 : List Dt) (x1 : List Dt) (x2 : List Dt) (x3 : Int) (x4 : Int) (x5 : Int) (x6 : Dt) : e5 jn m [1, 1, 1, 1, 0, 1, 0, 0, 1, 0, 0, 1, 1, 1] [M2] ⟨tsOf [(1, (.dat 23 (.lst x0))), (2, (.ptr 0 [] 0)), (5, (.dat 33 (.lst x1))), (6, (.dat 33 (.lst x2))), (7, (.dat 3 (.int x3))), (8, (.dat 3 (.int x4))), (9, (.dat 3 (.int x5)))], [(.box 36 (.dat 36 x6))], 0⟩ = law04_PathLeaves_j5 m rec2 x0 x1 x2 x3 x4 x5 x6 := by
  have h : ∀ J, e5 J m [1, 1, 1, 1, 0, 1, 0, 0, 1, 0, 0, 1, 1, 1] [M2] ⟨tsOf [(1, (.dat 23 (.lst x0))), (2, (.ptr 0 [] 0)), (5, (.dat 33 (.lst x1))), (6, (.dat 33 (.lst x2))), (7, (.dat 3 (.int x3))), (8, (.dat 3 (.int x4))), (9, (.dat 3 (.int x5)))], [(.box 36 (.dat 36 x6))], 0⟩ =
    (J 0 7 0 ⟨tsOf [(1, (.dat 23 (.lst x0))), (2, (.ptr 0 [] 0)), (5, (.dat 33 (.lst x1))), (6, (.dat 33 (.lst x2))), (7, (.dat 3 (.int (IntKind.wrap IntKind.i64 (x3 + x5))))), (8, (.dat 3 (.int x4)))], [(.box 36 (.dat 36 x6))], 0⟩ (e5 J m [1, 1, 1, 1, 0, 1, 0, 0, 1, 1] [M2] ⟨tsOf [(1, (.dat 23 (.lst x0))), (2, (.ptr 0 [] 0)), (5, (.dat 33 (.lst x1))), (6, (.dat 33 (.lst x2))), (7, (.dat 3 (.int (IntKind.wrap IntKind.i64 (x3 + x5))))), (8, (.dat 3 (.int x4)))], [(.box 36 (.dat 36 x6))], 0⟩)) := fun J => by kernel_rfl
  exact (h jn).trans (by
    simp only [jn_eq, law04_PathLeaves_j6_eq m M2 rec2 h2]
    rfl)
theorem law04_PathLeaves_j4_eq (m : Nat) (M2 : Nat) (rec2 : List Dt → List Dt → List Dt → Int → Int → Dt → Option (Bool)) (h2 : ∀ (x0 : List Dt) (x1 : List Dt) (x2 : List Dt) (x3 : Int) (x4 : Int) (x5 : Dt), l5 jn m [1, 1, 1, 1, 0, 1, 0] [] M2 ⟨tsOf [(1, (.dat 23 (.lst x0))), (2, (.ptr 0 [] 0)), (5, (.dat 33 (.lst x1))), (6, (.dat 33 (.lst x2))), (7, (.dat 3 (.int x3))), (8, (.dat 3 (.int x4)))], [(.box 36 (.dat 36 x5))], 0⟩ = rec2 x0 x1 x2 x3 x4 x5) (x0 : List Dt) (x1 : List Dt) (x2 : List Dt) (x3 : Int) (x4 : Int) (x5 : Int) (x6 : Dt) : e5 jn m [1, 1, 1, 1, 0, 1, 0, 0, 1, 0, 0, 1, 1] [M2] ⟨tsOf [(1, (.dat 23 (.lst x0))), (2, (.ptr 0 [] 0)), (5, (.dat 33 (.lst x1))), (6, (.dat 33 (.lst x2))), (7, (.dat 3 (.int x3))), (8, (.dat 3 (.int x4))), (9, (.dat 3 (.int x5)))], [(.box 36 (.dat 36 x6))], 0⟩ = law04_PathLeaves_j4 m rec2 x0 x1 x2 x3 x4 x5 x6 := by
  have h : ∀ J, e5 J m [1, 1, 1, 1, 0, 1, 0, 0, 1, 0, 0, 1, 1] [M2] ⟨tsOf [(1, (.dat 23 (.lst x0))), (2, (.ptr 0 [] 0)), (5, (.dat 33 (.lst x1))), (6, (.dat 33 (.lst x2))), (7, (.dat 3 (.int x3))), (8, (.dat 3 (.int x4))), (9, (.dat 3 (.int x5)))], [(.box 36 (.dat 36 x6))], 0⟩ =
    (bif (decide ((((List.length x2) : Nat) : Int) < (IntKind.wrap IntKind.i64 (x3 + x5)))) then
      some Bool.false
    else
      ((idx x2 x3).bind fun v6 =>
        ((idx x1 x4).bind fun v7 =>
          ((ref01_Same m v6 v7).bind fun r8 =>
            (bif (Bool.not r8) then
              some Bool.false
            else
              (bif (decide ((1 : Int) < x5)) then
                ((cutL x2 (IntKind.wrap IntKind.i64 (x3 + (1 : Int))) (IntKind.wrap IntKind.i64 (x3 + x5))).bind fun v9 =>
                  ((idx x1 x4).bind fun v10 =>
                    ((ref01_SameList m v9 (Dt.L v10 3)).bind fun r11 =>
                      (bif (Bool.not r11) then
                        some Bool.false
                      else
                        ((idx x1 x4).bind fun v12 =>
                          (bif ((Dt.I v12 0) == (0 : Int)) then
                            (bif (decide ((0 : Int) < (((List.length x0) : Nat) : Int))) then
                              (bif (decide ((1 : Int) < (((List.length x1) : Nat) : Int))) then
                                ((law04_holes m x6).bind fun r13 =>
                                  (bif (Bool.not r13) then
                                    some Bool.false
                                  else
                                    (J 0 13 0 ⟨tsOf [(1, (.dat 23 (.lst x0))), (2, (.ptr 0 [] 0)), (5, (.dat 33 (.lst x1))), (6, (.dat 33 (.lst x2))), (7, (.dat 3 (.int x3))), (8, (.dat 3 (.int x4))), (9, (.dat 3 (.int x5)))], [(.box 36 (.dat 36 x6))], 0⟩ (e5 J m [1, 1, 1, 1, 0, 1, 0, 0, 1, 0, 0, 1, 1, 1] [M2] ⟨tsOf [(1, (.dat 23 (.lst x0))), (2, (.ptr 0 [] 0)), (5, (.dat 33 (.lst x1))), (6, (.dat 33 (.lst x2))), (7, (.dat 3 (.int x3))), (8, (.dat 3 (.int x4))), (9, (.dat 3 (.int x5)))], [(.box 36 (.dat 36 x6))], 0⟩))))
                              else
                                (J 0 13 0 ⟨tsOf [(1, (.dat 23 (.lst x0))), (2, (.ptr 0 [] 0)), (5, (.dat 33 (.lst x1))), (6, (.dat 33 (.lst x2))), (7, (.dat 3 (.int x3))), (8, (.dat 3 (.int x4))), (9, (.dat 3 (.int x5)))], [(.box 36 (.dat 36 x6))], 0⟩ (e5 J m [1, 1, 1, 1, 0, 1, 0, 0, 1, 0, 0, 1, 1, 1] [M2] ⟨tsOf [(1, (.dat 23 (.lst x0))), (2, (.ptr 0 [] 0)), (5, (.dat 33 (.lst x1))), (6, (.dat 33 (.lst x2))), (7, (.dat 3 (.int x3))), (8, (.dat 3 (.int x4))), (9, (.dat 3 (.int x5)))], [(.box 36 (.dat 36 x6))], 0⟩)))
                            else
                              (J 0 13 0 ⟨tsOf [(1, (.dat 23 (.lst x0))), (2, (.ptr 0 [] 0)), (5, (.dat 33 (.lst x1))), (6, (.dat 33 (.lst x2))), (7, (.dat 3 (.int x3))), (8, (.dat 3 (.int x4))), (9, (.dat 3 (.int x5)))], [(.box 36 (.dat 36 x6))], 0⟩ (e5 J m [1, 1, 1, 1, 0, 1, 0, 0, 1, 0, 0, 1, 1, 1] [M2] ⟨tsOf [(1, (.dat 23 (.lst x0))), (2, (.ptr 0 [] 0)), (5, (.dat 33 (.lst x1))), (6, (.dat 33 (.lst x2))), (7, (.dat 3 (.int x3))), (8, (.dat 3 (.int x4))), (9, (.dat 3 (.int x5)))], [(.box 36 (.dat 36 x6))], 0⟩)))
                          else
                            (J 0 13 0 ⟨tsOf [(1, (.dat 23 (.lst x0))), (2, (.ptr 0 [] 0)), (5, (.dat 33 (.lst x1))), (6, (.dat 33 (.lst x2))), (7, (.dat 3 (.int x3))), (8, (.dat 3 (.int x4))), (9, (.dat 3 (.int x5)))], [(.box 36 (.dat 36 x6))], 0⟩ (e5 J m [1, 1, 1, 1, 0, 1, 0, 0, 1, 0, 0, 1, 1, 1] [M2] ⟨tsOf [(1, (.dat 23 (.lst x0))), (2, (.ptr 0 [] 0)), (5, (.dat 33 (.lst x1))), (6, (.dat 33 (.lst x2))), (7, (.dat 3 (.int x3))), (8, (.dat 3 (.int x4))), (9, (.dat 3 (.int x5)))], [(.box 36 (.dat 36 x6))], 0⟩))))))))
              else
                ((idx x1 x4).bind fun v14 =>
                  (bif ((Dt.I v14 0) == (0 : Int)) then
                    (bif (decide ((0 : Int) < (((List.length x0) : Nat) : Int))) then
                      (bif (decide ((1 : Int) < (((List.length x1) : Nat) : Int))) then
                        ((law04_holes m x6).bind fun r15 =>
                          (bif (Bool.not r15) then
                            some Bool.false
                          else
                            (J 0 13 0 ⟨tsOf [(1, (.dat 23 (.lst x0))), (2, (.ptr 0 [] 0)), (5, (.dat 33 (.lst x1))), (6, (.dat 33 (.lst x2))), (7, (.dat 3 (.int x3))), (8, (.dat 3 (.int x4))), (9, (.dat 3 (.int x5)))], [(.box 36 (.dat 36 x6))], 0⟩ (e5 J m [1, 1, 1, 1, 0, 1, 0, 0, 1, 0, 0, 1, 1, 1] [M2] ⟨tsOf [(1, (.dat 23 (.lst x0))), (2, (.ptr 0 [] 0)), (5, (.dat 33 (.lst x1))), (6, (.dat 33 (.lst x2))), (7, (.dat 3 (.int x3))), (8, (.dat 3 (.int x4))), (9, (.dat 3 (.int x5)))], [(.box 36 (.dat 36 x6))], 0⟩))))
                      else
                        (J 0 13 0 ⟨tsOf [(1, (.dat 23 (.lst x0))), (2, (.ptr 0 [] 0)), (5, (.dat 33 (.lst x1))), (6, (.dat 33 (.lst x2))), (7, (.dat 3 (.int x3))), (8, (.dat 3 (.int x4))), (9, (.dat 3 (.int x5)))], [(.box 36 (.dat 36 x6))], 0⟩ (e5 J m [1, 1, 1, 1, 0, 1, 0, 0, 1, 0, 0, 1, 1, 1] [M2] ⟨tsOf [(1, (.dat 23 (.lst x0))), (2, (.ptr 0 [] 0)), (5, (.dat 33 (.lst x1))), (6, (.dat 33 (.lst x2))), (7, (.dat 3 (.int x3))), (8, (.dat 3 (.int x4))), (9, (.dat 3 (.int x5)))], [(.box 36 (.dat 36 x6))], 0⟩)))
                    else
                      (J 0 13 0 ⟨tsOf [(1, (.dat 23 (.lst x0))), (2, (.ptr 0 [] 0)), (5, (.dat 33 (.lst x1))), (6, (.dat 33 (.lst x2))), (7, (.dat 3 (.int x3))), (8, (.dat 3 (.int x4))), (9, (.dat 3 (.int x5)))], [(.box 36 (.dat 36 x6))], 0⟩ (e5 J m [1, 1, 1, 1, 0, 1, 0, 0, 1, 0, 0, 1, 1, 1] [M2] ⟨tsOf [(1, (.dat 23 (.lst x0))), (2, (.ptr 0 [] 0)), (5, (.dat 33 (.lst x1))), (6, (.dat 33 (.lst x2))), (7, (.dat 3 (.int x3))), (8, (.dat 3 (.int x4))), (9, (.dat 3 (.int x5)))], [(.box 36 (.dat 36 x6))], 0⟩)))
                  else
                    (J 0 13 0 ⟨tsOf [(1, (.dat 23 (.lst x0))), (2, (.ptr 0 [] 0)), (5, (.dat 33 (.lst x1))), (6, (.dat 33 (.lst x2))), (7, (.dat 3 (.int x3))), (8, (.dat 3 (.int x4))), (9, (.dat 3 (.int x5)))], [(.box 36 (.dat 36 x6))], 0⟩ (e5 J m [1, 1, 1, 1, 0, 1, 0, 0, 1, 0, 0, 1, 1, 1] [M2] ⟨tsOf [(1, (.dat 23 (.lst x0))), (2, (.ptr 0 [] 0)), (5, (.dat 33 (.lst x1))), (6, (.dat 33 (.lst x2))), (7, (.dat 3 (.int x3))), (8, (.dat 3 (.int x4))), (9, (.dat 3 (.int x5)))], [(.box 36 (.dat 36 x6))], 0⟩)))))))))) := fun J => by kernel_rfl
  exact (h jn).trans (by
    simp only [jn_eq, law04_PathLeaves_j5_eq m M2 rec2 h2]
    rfl)
theorem law04_PathLeaves_j3_eq (m : Nat) (M2 : Nat) (rec2 : List Dt → List Dt → List Dt → Int → Int → Dt → Option (Bool)) (h2 : ∀ (x0 : List Dt) (x1 : List Dt) (x2 : List Dt) (x3 : Int) (x4 : Int) (x5 : Dt), l5 jn m [1, 1, 1, 1, 0, 1, 0] [] M2 ⟨tsOf [(1, (.dat 23 (.lst x0))), (2, (.ptr 0 [] 0)), (5, (.dat 33 (.lst x1))), (6, (.dat 33 (.lst x2))), (7, (.dat 3 (.int x3))), (8, (.dat 3 (.int x4)))], [(.box 36 (.dat 36 x5))], 0⟩ = rec2 x0 x1 x2 x3 x4 x5) (x0 : List Dt) (x1 : List Dt) (x2 : List Dt) (x3 : Int) (x4 : Int) (x5 : Dt) : e5 jn m [1, 1, 1, 1, 0, 1, 0, 0, 1] [M2] ⟨tsOf [(1, (.dat 23 (.lst x0))), (2, (.ptr 0 [] 0)), (5, (.dat 33 (.lst x1))), (6, (.dat 33 (.lst x2))), (7, (.dat 3 (.int x3))), (8, (.dat 3 (.int x4)))], [(.box 36 (.dat 36 x5))], 0⟩ = law04_PathLeaves_j3 m rec2 x0 x1 x2 x3 x4 x5 := by
  have h : ∀ J, e5 J m [1, 1, 1, 1, 0, 1, 0, 0, 1] [M2] ⟨tsOf [(1, (.dat 23 (.lst x0))), (2, (.ptr 0 [] 0)), (5, (.dat 33 (.lst x1))), (6, (.dat 33 (.lst x2))), (7, (.dat 3 (.int x3))), (8, (.dat 3 (.int x4)))], [(.box 36 (.dat 36 x5))], 0⟩ =
    ((idx x1 x4).bind fun v4 =>
      (bif ((Dt.I v4 0) == (6 : Int)) then
        ((idx x1 x4).bind fun v5 =>
          (J 0 11 0 ⟨tsOf [(1, (.dat 23 (.lst x0))), (2, (.ptr 0 [] 0)), (5, (.dat 33 (.lst x1))), (6, (.dat 33 (.lst x2))), (7, (.dat 3 (.int x3))), (8, (.dat 3 (.int x4))), (9, (.dat 3 (.int (IntKind.wrap IntKind.i64 ((1 : Int) + (((List.length (Dt.L v5 3)) : Nat) : Int))))))], [(.box 36 (.dat 36 x5))], 0⟩ (e5 J m [1, 1, 1, 1, 0, 1, 0, 0, 1, 0, 0, 1, 1] [M2] ⟨tsOf [(1, (.dat 23 (.lst x0))), (2, (.ptr 0 [] 0)), (5, (.dat 33 (.lst x1))), (6, (.dat 33 (.lst x2))), (7, (.dat 3 (.int x3))), (8, (.dat 3 (.int x4))), (9, (.dat 3 (.int (IntKind.wrap IntKind.i64 ((1 : Int) + (((List.length (Dt.L v5 3)) : Nat) : Int))))))], [(.box 36 (.dat 36 x5))], 0⟩)))
      else
        (J 0 11 0 ⟨tsOf [(1, (.dat 23 (.lst x0))), (2, (.ptr 0 [] 0)), (5, (.dat 33 (.lst x1))), (6, (.dat 33 (.lst x2))), (7, (.dat 3 (.int x3))), (8, (.dat 3 (.int x4))), (9, (.dat 3 (.int (1 : Int))))], [(.box 36 (.dat 36 x5))], 0⟩ (e5 J m [1, 1, 1, 1, 0, 1, 0, 0, 1, 0, 0, 1, 1] [M2] ⟨tsOf [(1, (.dat 23 (.lst x0))), (2, (.ptr 0 [] 0)), (5, (.dat 33 (.lst x1))), (6, (.dat 33 (.lst x2))), (7, (.dat 3 (.int x3))), (8, (.dat 3 (.int x4))), (9, (.dat 3 (.int (1 : Int))))], [(.box 36 (.dat 36 x5))], 0⟩)))) := fun J => by kernel_rfl
  exact (h jn).trans (by
    simp only [jn_eq, law04_PathLeaves_j4_eq m M2 rec2 h2]
    rfl)
theorem law04_PathLeaves_j7_eq (m : Nat) (x0 : List Dt) (x1 : List Dt) (x2 : Int) : e5 jn m [1, 1, 1, 1, 1] [] ⟨tsOf [(5, (.dat 33 (.lst x0))), (6, (.dat 33 (.lst x1))), (7, (.dat 3 (.int x2)))], [], 0⟩ = law04_PathLeaves_j7 m x0 x1 x2 := by
  have h : ∀ J, e5 J m [1, 1, 1, 1, 1] [] ⟨tsOf [(5, (.dat 33 (.lst x0))), (6, (.dat 33 (.lst x1))), (7, (.dat 3 (.int x2)))], [], 0⟩ =
    (bif (decide ((0 : Int) < (((List.length x0) : Nat) : Int))) then
      (bif (x2 == (((List.length x1) : Nat) : Int)) then
        ((awakeC).bind fun r16 =>
          some r16)
      else
        some Bool.false)
    else
      some Bool.false) := fun J => by kernel_rfl
  exact (h jn).trans (rfl)
theorem law04_PathLeaves_l2_eq (m : Nat) : ∀ (M2 : Nat) (x0 : List Dt) (x1 : List Dt) (x2 : List Dt) (x3 : Int) (x4 : Int) (x5 : Dt), l5 jn m [1, 1, 1, 1, 0, 1, 0] [] M2 ⟨tsOf [(1, (.dat 23 (.lst x0))), (2, (.ptr 0 [] 0)), (5, (.dat 33 (.lst x1))), (6, (.dat 33 (.lst x2))), (7, (.dat 3 (.int x3))), (8, (.dat 3 (.int x4)))], [(.box 36 (.dat 36 x5))], 0⟩ = law04_PathLeaves_l2 m M2 x0 x1 x2 x3 x4 x5
  | 0, _, _, _, _, _, _ => rfl
  | M2 + 1, x0, x1, x2, x3, x4, x5 => by
    have h : ∀ J, l5 J m [1, 1, 1, 1, 0, 1, 0] [] (M2 + 1) ⟨tsOf [(1, (.dat 23 (.lst x0))), (2, (.ptr 0 [] 0)), (5, (.dat 33 (.lst x1))), (6, (.dat 33 (.lst x2))), (7, (.dat 3 (.int x3))), (8, (.dat 3 (.int x4)))], [(.box 36 (.dat 36 x5))], 0⟩ =
    (bif (decide (x4 < (((List.length x1) : Nat) : Int))) then
      (J 0 8 0 ⟨tsOf [(1, (.dat 23 (.lst x0))), (2, (.ptr 0 [] 0)), (5, (.dat 33 (.lst x1))), (6, (.dat 33 (.lst x2))), (7, (.dat 3 (.int x3))), (8, (.dat 3 (.int x4)))], [(.box 36 (.dat 36 x5))], 0⟩ (e5 J m [1, 1, 1, 1, 0, 1, 0, 0, 1] [M2] ⟨tsOf [(1, (.dat 23 (.lst x0))), (2, (.ptr 0 [] 0)), (5, (.dat 33 (.lst x1))), (6, (.dat 33 (.lst x2))), (7, (.dat 3 (.int x3))), (8, (.dat 3 (.int x4)))], [(.box 36 (.dat 36 x5))], 0⟩))
    else
      (J 0 14 0 ⟨tsOf [(5, (.dat 33 (.lst x1))), (6, (.dat 33 (.lst x2))), (7, (.dat 3 (.int x3)))], [], 0⟩ (e5 J m [1, 1, 1, 1, 1] [] ⟨tsOf [(5, (.dat 33 (.lst x1))), (6, (.dat 33 (.lst x2))), (7, (.dat 3 (.int x3)))], [], 0⟩))) := fun J => by kernel_rfl
    refine (h jn).trans ?_
    simp only [jn_eq, law04_PathLeaves_j3_eq m M2 (law04_PathLeaves_l2 m M2) (fun x0 x1 x2 x3 x4 x5 => law04_PathLeaves_l2_eq m M2 x0 x1 x2 x3 x4 x5), law04_PathLeaves_j7_eq m]
    rfl
theorem law04_PathLeaves_j1_eq (m : Nat) (x0 : List Dt) (x1 : List Dt) (x2 : List Dt) (x3 : Int) (x4 : Int) (x5 : Dt) : e5 jn m [1, 1, 1, 1, 0, 1] [] ⟨tsOf [(1, (.dat 23 (.lst x0))), (2, (.ptr 0 [] 0)), (5, (.dat 33 (.lst x1))), (6, (.dat 33 (.lst x2))), (7, (.dat 3 (.int x3))), (8, (.dat 3 (.int x4)))], [(.box 36 (.dat 36 x5))], 0⟩ = law04_PathLeaves_j1 m x0 x1 x2 x3 x4 x5 := by
  have h : ∀ J, e5 J m [1, 1, 1, 1, 0, 1] [] ⟨tsOf [(1, (.dat 23 (.lst x0))), (2, (.ptr 0 [] 0)), (5, (.dat 33 (.lst x1))), (6, (.dat 33 (.lst x2))), (7, (.dat 3 (.int x3))), (8, (.dat 3 (.int x4)))], [(.box 36 (.dat 36 x5))], 0⟩ =
    (J 1 6 (Nat.succ m) ⟨tsOf [(1, (.dat 23 (.lst x0))), (2, (.ptr 0 [] 0)), (5, (.dat 33 (.lst x1))), (6, (.dat 33 (.lst x2))), (7, (.dat 3 (.int x3))), (8, (.dat 3 (.int x4)))], [(.box 36 (.dat 36 x5))], 0⟩ (l5 J m [1, 1, 1, 1, 0, 1, 0] [] (Nat.succ m) ⟨tsOf [(1, (.dat 23 (.lst x0))), (2, (.ptr 0 [] 0)), (5, (.dat 33 (.lst x1))), (6, (.dat 33 (.lst x2))), (7, (.dat 3 (.int x3))), (8, (.dat 3 (.int x4)))], [(.box 36 (.dat 36 x5))], 0⟩)) := fun J => by kernel_rfl
  exact (h jn).trans (by
    simp only [jn_eq, law04_PathLeaves_l2_eq m]
    rfl)
theorem law04_PathLeaves_j0_eq (m : Nat) (x0 : List Dt) (x1 : Dt) : e5 jn m [1, 1] [] ⟨tsOf [(1, (.dat 23 (.lst x0))), (2, (.ptr 0 [] 0))], [(.box 36 (.dat 36 x1))], 0⟩ = law04_PathLeaves_j0 m x0 x1 := by
  have h : ∀ J, e5 J m [1, 1] [] ⟨tsOf [(1, (.dat 23 (.lst x0))), (2, (.ptr 0 [] 0))], [(.box 36 (.dat 36 x1))], 0⟩ =
    ((path_Reach m x1 x0).bind fun r2 =>
      ((path_Leaves m x1 x0).bind fun r3 =>
        (J 0 6 0 ⟨tsOf [(1, (.dat 23 (.lst x0))), (2, (.ptr 0 [] 0)), (5, (.dat 33 (.lst r2))), (6, (.dat 33 (.lst r3))), (7, (.dat 3 (.int (0 : Int)))), (8, (.dat 3 (.int (0 : Int))))], [(.box 36 (.dat 36 x1))], 0⟩ (e5 J m [1, 1, 1, 1, 0, 1] [] ⟨tsOf [(1, (.dat 23 (.lst x0))), (2, (.ptr 0 [] 0)), (5, (.dat 33 (.lst r2))), (6, (.dat 33 (.lst r3))), (7, (.dat 3 (.int (0 : Int)))), (8, (.dat 3 (.int (0 : Int))))], [(.box 36 (.dat 36 x1))], 0⟩)))) := fun J => by kernel_rfl
  exact (h jn).trans (by
    simp only [jn_eq, law04_PathLeaves_j1_eq m]
    rfl)
theorem law04_PathLeaves_eq (m : Nat) (a0 : Dt) (a1 : List Dt) : e5 jn m [] [] ⟨[(.dat 36 a0), (.dat 23 (.lst a1))], [], 0⟩ = law04_PathLeaves (m + 1) a0 a1 := by
  have h : ∀ J, e5 J m [] [] ⟨[(.dat 36 a0), (.dat 23 (.lst a1))], [], 0⟩ =
    ((law04_small m a0 a1).bind fun r0 =>
      (bif (Bool.not r0) then
        ((awakeC).bind fun r1 =>
          some r1)
      else
        (J 0 3 0 ⟨tsOf [(1, (.dat 23 (.lst a1))), (2, (.ptr 0 [] 0))], [(.box 36 (.dat 36 a0))], 0⟩ (e5 J m [1, 1] [] ⟨tsOf [(1, (.dat 23 (.lst a1))), (2, (.ptr 0 [] 0))], [(.box 36 (.dat 36 a0))], 0⟩)))) := fun J => by kernel_rfl
  refine (h jn).trans ?_
  simp only [jn_eq, law04_PathLeaves_j0_eq m]
  rfl
noncomputable def d45 (q : Res) : Option (Int) := match q with
  | (.dat T0 x0, []) => bif Nat.beq T0 3 then some x0.toInt else none
  | _ => none
theorem d45_sim {b : Res} {r : Int} (h : d45 b = some r) : Sim Tryd.prog b ((.dat 3 (.int r)), []) := by
  unfold d45 at h
  split at h
  · obtain ⟨hc, h2⟩ := bif_some h
    cases h2
    have e0 := beq_eq hc
    subst e0
    exact Sim.of (.of (.dat (.int Tryd.underlying3)) rfl rfl) .nil
  · cases h
noncomputable def e45 (J : Nat → Nat → Nat → St → Option (Int) → Option (Int)) (m : Nat) (p ms : List Nat) (σ : St) := evAt Tryd.prog env (ct m) J (m + 1) 72 25 Tryd.f72 d45 p ms σ
noncomputable def l45 (J : Nat → Nat → Nat → St → Option (Int) → Option (Int)) (m : Nat) (p ms : List Nat) (M : Nat) (σ : St) := loopAt Tryd.prog env (ct m) J (m + 1) 72 25 Tryd.f72 d45 p ms M σ
theorem ref01_at_j4_eq (m : Nat) (M2 : Nat) (rec2 : ByteArray → Int → Dt → Option (Int)) (h2 : ∀ (x0 : ByteArray) (x1 : Int) (x2 : Dt), l45 jn m [1, 1, 0, 1, 0] [] M2 ⟨tsOf [(1, (.dat 9 (.str x0))), (2, (.ptr 0 [] 0)), (5, (.dat 3 (.int x1)))], [(.box 36 (.dat 36 x2))], 0⟩ = rec2 x0 x1 x2) (x0 : ByteArray) (x1 : Int) (x2 : Dt) : e45 jn m [1, 1, 0, 1, 0, 0, 1, 1] [M2] ⟨tsOf [(1, (.dat 9 (.str x0))), (2, (.ptr 0 [] 0)), (5, (.dat 3 (.int x1)))], [(.box 36 (.dat 36 x2))], 0⟩ = ref01_at_j4 m rec2 x0 x1 x2 := by
  have h : ∀ J, e45 J m [1, 1, 0, 1, 0, 0, 1, 1] [M2] ⟨tsOf [(1, (.dat 9 (.str x0))), (2, (.ptr 0 [] 0)), (5, (.dat 3 (.int x1)))], [(.box 36 (.dat 36 x2))], 0⟩ =
    (J 1 4 M2 ⟨tsOf [(1, (.dat 9 (.str x0))), (2, (.ptr 0 [] 0)), (5, (.dat 3 (.int (IntKind.wrap IntKind.i64 (x1 + (1 : Int))))))], [(.box 36 (.dat 36 x2))], 0⟩ (l45 J m [1, 1, 0, 1, 0] [] M2 ⟨tsOf [(1, (.dat 9 (.str x0))), (2, (.ptr 0 [] 0)), (5, (.dat 3 (.int (IntKind.wrap IntKind.i64 (x1 + (1 : Int))))))], [(.box 36 (.dat 36 x2))], 0⟩)) := fun J => by kernel_rfl
  exact (h jn).trans (by
    simp only [jn_eq, h2]
    rfl)
theorem ref01_at_j3_eq (m : Nat) (M2 : Nat) (rec2 : ByteArray → Int → Dt → Option (Int)) (h2 : ∀ (x0 : ByteArray) (x1 : Int) (x2 : Dt), l45 jn m [1, 1, 0, 1, 0] [] M2 ⟨tsOf [(1, (.dat 9 (.str x0))), (2, (.ptr 0 [] 0)), (5, (.dat 3 (.int x1)))], [(.box 36 (.dat 36 x2))], 0⟩ = rec2 x0 x1 x2) (x0 : ByteArray) (x1 : Int) (x2 : Dt) : e45 jn m [1, 1, 0, 1, 0, 0, 1] [M2] ⟨tsOf [(1, (.dat 9 (.str x0))), (2, (.ptr 0 [] 0)), (5, (.dat 3 (.int x1)))], [(.box 36 (.dat 36 x2))], 0⟩ = ref01_at_j3 m rec2 x0 x1 x2 := by
  have h : ∀ J, e45 J m [1, 1, 0, 1, 0, 0, 1] [M2] ⟨tsOf [(1, (.dat 9 (.str x0))), (2, (.ptr 0 [] 0)), (5, (.dat 3 (.int x1)))], [(.box 36 (.dat 36 x2))], 0⟩ =
    ((idx (Dt.L x2 4) x1).bind fun v0 =>
      (bif ((ByteArray.toList (Dt.S v0 0)) == (ByteArray.toList x0)) then
        some x1
      else
        (J 0 5 0 ⟨tsOf [(1, (.dat 9 (.str x0))), (2, (.ptr 0 [] 0)), (5, (.dat 3 (.int x1)))], [(.box 36 (.dat 36 x2))], 0⟩ (e45 J m [1, 1, 0, 1, 0, 0, 1, 1] [M2] ⟨tsOf [(1, (.dat 9 (.str x0))), (2, (.ptr 0 [] 0)), (5, (.dat 3 (.int x1)))], [(.box 36 (.dat 36 x2))], 0⟩)))) := fun J => by kernel_rfl
  exact (h jn).trans (by
    simp only [jn_eq, ref01_at_j4_eq m M2 rec2 h2]
    rfl)
theorem ref01_at_j5_eq (m : Nat) : e45 jn m [1, 1, 1] [] ⟨tsOf [], [], 0⟩ = ref01_at_j5 m := by
  have h : ∀ J, e45 J m [1, 1, 1] [] ⟨tsOf [], [], 0⟩ =
    some (-1 : Int) := fun J => by kernel_rfl
  exact (h jn).trans (rfl)
theorem ref01_at_l2_eq (m : Nat) : ∀ (M2 : Nat) (x0 : ByteArray) (x1 : Int) (x2 : Dt), l45 jn m [1, 1, 0, 1, 0] [] M2 ⟨tsOf [(1, (.dat 9 (.str x0))), (2, (.ptr 0 [] 0)), (5, (.dat 3 (.int x1)))], [(.box 36 (.dat 36 x2))], 0⟩ = ref01_at_l2 m M2 x0 x1 x2
  | 0, _, _, _ => rfl
  | M2 + 1, x0, x1, x2 => by
    have h : ∀ J, l45 J m [1, 1, 0, 1, 0] [] (M2 + 1) ⟨tsOf [(1, (.dat 9 (.str x0))), (2, (.ptr 0 [] 0)), (5, (.dat 3 (.int x1)))], [(.box 36 (.dat 36 x2))], 0⟩ =
    (bif (decide (x1 < (((List.length (Dt.L x2 4)) : Nat) : Int))) then
      (J 0 6 0 ⟨tsOf [(1, (.dat 9 (.str x0))), (2, (.ptr 0 [] 0)), (5, (.dat 3 (.int x1)))], [(.box 36 (.dat 36 x2))], 0⟩ (e45 J m [1, 1, 0, 1, 0, 0, 1] [M2] ⟨tsOf [(1, (.dat 9 (.str x0))), (2, (.ptr 0 [] 0)), (5, (.dat 3 (.int x1)))], [(.box 36 (.dat 36 x2))], 0⟩))
    else
      (J 0 8 0 ⟨tsOf [], [], 0⟩ (e45 J m [1, 1, 1] [] ⟨tsOf [], [], 0⟩))) := fun J => by kernel_rfl
    refine (h jn).trans ?_
    simp only [jn_eq, ref01_at_j3_eq m M2 (ref01_at_l2 m M2) (fun x0 x1 x2 => ref01_at_l2_eq m M2 x0 x1 x2), ref01_at_j5_eq m]
    rfl
theorem ref01_at_j1_eq (m : Nat) (x0 : ByteArray) (x1 : Int) (x2 : Dt) : e45 jn m [1, 1, 0, 1] [] ⟨tsOf [(1, (.dat 9 (.str x0))), (2, (.ptr 0 [] 0)), (5, (.dat 3 (.int x1)))], [(.box 36 (.dat 36 x2))], 0⟩ = ref01_at_j1 m x0 x1 x2 := by
  have h : ∀ J, e45 J m [1, 1, 0, 1] [] ⟨tsOf [(1, (.dat 9 (.str x0))), (2, (.ptr 0 [] 0)), (5, (.dat 3 (.int x1)))], [(.box 36 (.dat 36 x2))], 0⟩ =
    (J 1 4 (Nat.succ m) ⟨tsOf [(1, (.dat 9 (.str x0))), (2, (.ptr 0 [] 0)), (5, (.dat 3 (.int x1)))], [(.box 36 (.dat 36 x2))], 0⟩ (l45 J m [1, 1, 0, 1, 0] [] (Nat.succ m) ⟨tsOf [(1, (.dat 9 (.str x0))), (2, (.ptr 0 [] 0)), (5, (.dat 3 (.int x1)))], [(.box 36 (.dat 36 x2))], 0⟩)) := fun J => by kernel_rfl
  exact (h jn).trans (by
    simp only [jn_eq, ref01_at_l2_eq m]
    rfl)
theorem ref01_at_j0_eq (m : Nat) (x0 : ByteArray) (x1 : Dt) : e45 jn m [1, 1] [] ⟨tsOf [(1, (.dat 9 (.str x0))), (2, (.ptr 0 [] 0))], [(.box 36 (.dat 36 x1))], 0⟩ = ref01_at_j0 m x0 x1 := by
  have h : ∀ J, e45 J m [1, 1] [] ⟨tsOf [(1, (.dat 9 (.str x0))), (2, (.ptr 0 [] 0))], [(.box 36 (.dat 36 x1))], 0⟩ =
    (J 0 4 0 ⟨tsOf [(1, (.dat 9 (.str x0))), (2, (.ptr 0 [] 0)), (5, (.dat 3 (.int (0 : Int))))], [(.box 36 (.dat 36 x1))], 0⟩ (e45 J m [1, 1, 0, 1] [] ⟨tsOf [(1, (.dat 9 (.str x0))), (2, (.ptr 0 [] 0)), (5, (.dat 3 (.int (0 : Int))))], [(.box 36 (.dat 36 x1))], 0⟩)) := fun J => by kernel_rfl
  exact (h jn).trans (by
    simp only [jn_eq, ref01_at_j1_eq m]
    rfl)
theorem ref01_at_eq (m : Nat) (a0 : Dt) (a1 : ByteArray) : e45 jn m [] [] ⟨[(.dat 36 a0), (.dat 9 (.str a1))], [], 0⟩ = ref01_at (m + 1) a0 a1 := by
  have h : ∀ J, e45 J m [] [] ⟨[(.dat 36 a0), (.dat 9 (.str a1))], [], 0⟩ =
    (bif ((Dt.I a0 0) != (5 : Int)) then
      some (-1 : Int)
    else
      (J 0 3 0 ⟨tsOf [(1, (.dat 9 (.str a1))), (2, (.ptr 0 [] 0))], [(.box 36 (.dat 36 a0))], 0⟩ (e45 J m [1, 1] [] ⟨tsOf [(1, (.dat 9 (.str a1))), (2, (.ptr 0 [] 0))], [(.box 36 (.dat 36 a0))], 0⟩))) := fun J => by kernel_rfl
  refine (h jn).trans ?_
  simp only [jn_eq, ref01_at_j0_eq m]
  rfl
noncomputable def d44 (q : Res) : Option (Dt × Bool) := match q with
  | (.tup [.dat T0 x0, .dat T1 x1], []) => bif (Nat.beq T0 36 && Nat.beq T1 4) then some (x0, x1.toBool) else none
  | _ => none
theorem d44_sim {b : Res} {r : Dt × Bool} (h : d44 b = some r) : Sim Tryd.prog b ((.tup [(.dat 36 r.1), (.dat 4 (.bool r.2))]), []) := by
  unfold d44 at h
  split at h
  · obtain ⟨hc, h2⟩ := bif_some h
    cases h2
    have e0 := beq_eq (and_l hc)
    have e1 := beq_eq (and_r hc)
    subst e0 e1
    exact Sim.of (.tup (.cons .same (.cons (.dat (.bool Tryd.underlying4)) .nil))) .nil
  · cases h
noncomputable def e44 (J : Nat → Nat → Nat → St → Option (Dt × Bool) → Option (Dt × Bool)) (m : Nat) (p ms : List Nat) (σ : St) := evAt Tryd.prog env (ct m) J (m + 1) 53 19 Tryd.f53 d44 p ms σ
noncomputable def l44 (J : Nat → Nat → Nat → St → Option (Dt × Bool) → Option (Dt × Bool)) (m : Nat) (p ms : List Nat) (M : Nat) (σ : St) := loopAt Tryd.prog env (ct m) J (m + 1) 53 19 Tryd.f53 d44 p ms M σ
theorem ref01_Get_j0_eq (m : Nat) (x0 : Int) (x1 : Dt) (x2 : Dt) : e44 jn m [1, 1, 1] [] ⟨tsOf [(2, (.ptr 0 [] 0)), (4, (.ptr 1 [] 0)), (6, (.dat 3 (.int x0)))], [(.box 36 (.dat 36 x1)), (.box 36 (.dat 36 x2))], 0⟩ = ref01_Get_j0 m x0 x1 x2 := by
  have h : ∀ J, e44 J m [1, 1, 1] [] ⟨tsOf [(2, (.ptr 0 [] 0)), (4, (.ptr 1 [] 0)), (6, (.dat 3 (.int x0)))], [(.box 36 (.dat 36 x1)), (.box 36 (.dat 36 x2))], 0⟩ =
    ((idx (Dt.L x1 4) x0).bind fun v1 =>
      some ((Dt.fld v1 1), Bool.true)) := fun J => by kernel_rfl
  exact (h jn).trans (rfl)
theorem ref01_Get_eq (m : Nat) (a0 : Dt) (a1 : ByteArray) : e44 jn m [] [] ⟨[(.dat 36 a0), (.dat 9 (.str a1))], [], 0⟩ = ref01_Get (m + 1) a0 a1 := by
  have h : ∀ J, e44 J m [] [] ⟨[(.dat 36 a0), (.dat 9 (.str a1))], [], 0⟩ =
    ((ref01_at m a0 a1).bind fun r0 =>
      (bif (decide (r0 < (0 : Int))) then
        some ((Dt.agg [(Dt.int (0 : Int)), (Dt.int (0 : Int)), (Dt.str (ByteArray.mk (List.toArray []))), (Dt.lst []), (Dt.lst [])]), Bool.false)
      else
        (J 0 4 0 ⟨tsOf [(2, (.ptr 0 [] 0)), (4, (.ptr 1 [] 0)), (6, (.dat 3 (.int r0)))], [(.box 36 (.dat 36 a0)), (.box 36 (.dat 36 (Dt.agg [(Dt.int (0 : Int)), (Dt.int (0 : Int)), (Dt.str (ByteArray.mk (List.toArray []))), (Dt.lst []), (Dt.lst [])])))], 0⟩ (e44 J m [1, 1, 1] [] ⟨tsOf [(2, (.ptr 0 [] 0)), (4, (.ptr 1 [] 0)), (6, (.dat 3 (.int r0)))], [(.box 36 (.dat 36 a0)), (.box 36 (.dat 36 (Dt.agg [(Dt.int (0 : Int)), (Dt.int (0 : Int)), (Dt.str (ByteArray.mk (List.toArray []))), (Dt.lst []), (Dt.lst [])])))], 0⟩)))) := fun J => by kernel_rfl
  refine (h jn).trans ?_
  simp only [jn_eq, ref01_Get_j0_eq m]
  rfl
noncomputable def d40 (q : Res) : Option (List Dt) := match q with
  | (.dat T0 x0, []) => bif Nat.beq T0 33 then some x0.toLst else none
  | _ => none
theorem d40_sim {b : Res} {r : List Dt} (h : d40 b = some r) : Sim Tryd.prog b ((.dat 33 (.lst r)), []) := by
  unfold d40 at h
  split at h
  · obtain ⟨hc, h2⟩ := bif_some h
    cases h2
    have e0 := beq_eq hc
    subst e0
    exact Sim.of (.of (.dat (.lst Tryd.underlying33)) rfl rfl) .nil
  · cases h
noncomputable def e40 (J : Nat → Nat → Nat → St → Option (List Dt) → Option (List Dt)) (m : Nat) (p ms : List Nat) (σ : St) := evAt Tryd.prog env (ct m) J (m + 1) 64 84 Tryd.f64 d40 p ms σ
noncomputable def l40 (J : Nat → Nat → Nat → St → Option (List Dt) → Option (List Dt)) (m : Nat) (p ms : List Nat) (M : Nat) (σ : St) := loopAt Tryd.prog env (ct m) J (m + 1) 64 84 Tryd.f64 d40 p ms M σ
theorem ref04_Pass_j1_eq (m : Nat) : e40 jn m [1, 1, 0, 1, 0, 1, 1] [] ⟨tsOf [], [], 0⟩ = ref04_Pass_j1 m (ref04_Pass m) := by
  have h : ∀ J, e40 J m [1, 1, 0, 1, 0, 1, 1] [] ⟨tsOf [], [], 0⟩ =
    some [] := fun J => by kernel_rfl
  exact (h jn).trans (rfl)
theorem ref04_Pass_j7_eq (m : Nat) (M5 : Nat) (rec5 : List Dt → Int → Dt → List Dt → Option (List Dt)) (h5 : ∀ (x0 : List Dt) (x1 : Int) (x2 : Dt) (x3 : List Dt), l40 jn m [1, 1, 1, 1, 1, 0, 1, 0] [] M5 ⟨tsOf [(1, (.dat 23 (.lst x0))), (2, (.ptr 0 [] 0)), (7, (.row 1)), (8, (.dat 3 (.int x1)))], [(.box 36 (.dat 36 x2)), (.row 33 x3)], 0⟩ = rec5 x0 x1 x2 x3) (x0 : List Dt) (x1 : Int) (x2 : Dt) (x3 : List Dt) : e40 jn m [1, 1, 1, 1, 1, 0, 1, 0, 0, 1, 1] [M5] ⟨tsOf [(1, (.dat 23 (.lst x0))), (2, (.ptr 0 [] 0)), (7, (.row 1)), (8, (.dat 3 (.int x1)))], [(.box 36 (.dat 36 x2)), (.row 33 x3)], 0⟩ = ref04_Pass_j7 m (ref04_Pass m) rec5 x0 x1 x2 x3 := by
  have h : ∀ J, e40 J m [1, 1, 1, 1, 1, 0, 1, 0, 0, 1, 1] [M5] ⟨tsOf [(1, (.dat 23 (.lst x0))), (2, (.ptr 0 [] 0)), (7, (.row 1)), (8, (.dat 3 (.int x1)))], [(.box 36 (.dat 36 x2)), (.row 33 x3)], 0⟩ =
    (J 1 12 M5 ⟨tsOf [(1, (.dat 23 (.lst x0))), (2, (.ptr 0 [] 0)), (7, (.row 1)), (8, (.dat 3 (.int (IntKind.wrap IntKind.i64 (x1 + (1 : Int))))))], [(.box 36 (.dat 36 x2)), (.row 33 x3)], 0⟩ (l40 J m [1, 1, 1, 1, 1, 0, 1, 0] [] M5 ⟨tsOf [(1, (.dat 23 (.lst x0))), (2, (.ptr 0 [] 0)), (7, (.row 1)), (8, (.dat 3 (.int (IntKind.wrap IntKind.i64 (x1 + (1 : Int))))))], [(.box 36 (.dat 36 x2)), (.row 33 x3)], 0⟩)) := fun J => by kernel_rfl
  exact (h jn).trans (by
    simp only [jn_eq, h5]
    rfl)
theorem ref04_Pass_j6_eq (m : Nat) (M5 : Nat) (rec5 : List Dt → Int → Dt → List Dt → Option (List Dt)) (h5 : ∀ (x0 : List Dt) (x1 : Int) (x2 : Dt) (x3 : List Dt), l40 jn m [1, 1, 1, 1, 1, 0, 1, 0] [] M5 ⟨tsOf [(1, (.dat 23 (.lst x0))), (2, (.ptr 0 [] 0)), (7, (.row 1)), (8, (.dat 3 (.int x1)))], [(.box 36 (.dat 36 x2)), (.row 33 x3)], 0⟩ = rec5 x0 x1 x2 x3) (x0 : List Dt) (x1 : Int) (x2 : Dt) (x3 : List Dt) : e40 jn m [1, 1, 1, 1, 1, 0, 1, 0, 0, 1] [M5] ⟨tsOf [(1, (.dat 23 (.lst x0))), (2, (.ptr 0 [] 0)), (7, (.row 1)), (8, (.dat 3 (.int x1)))], [(.box 36 (.dat 36 x2)), (.row 33 x3)], 0⟩ = ref04_Pass_j6 m (ref04_Pass m) rec5 x0 x1 x2 x3 := by
  have h : ∀ J, e40 J m [1, 1, 1, 1, 1, 0, 1, 0, 0, 1] [M5] ⟨tsOf [(1, (.dat 23 (.lst x0))), (2, (.ptr 0 [] 0)), (7, (.row 1)), (8, (.dat 3 (.int x1)))], [(.box 36 (.dat 36 x2)), (.row 33 x3)], 0⟩ =
    ((idx (Dt.L x2 3) x1).bind fun v4 =>
      (bif ((Dt.I v4 0) == (5 : Int)) then
        ((idx (Dt.L x2 3) x1).bind fun v5 =>
          ((ref04_Pass m v5 x0).bind fun r6 =>
            ((app x3 r6).bind fun v7 =>
              (J 0 13 0 ⟨tsOf [(1, (.dat 23 (.lst x0))), (2, (.ptr 0 [] 0)), (7, (.row 1)), (8, (.dat 3 (.int x1)))], [(.box 36 (.dat 36 x2)), (.row 33 v7)], 0⟩ (e40 J m [1, 1, 1, 1, 1, 0, 1, 0, 0, 1, 1] [M5] ⟨tsOf [(1, (.dat 23 (.lst x0))), (2, (.ptr 0 [] 0)), (7, (.row 1)), (8, (.dat 3 (.int x1)))], [(.box 36 (.dat 36 x2)), (.row 33 v7)], 0⟩)))))
      else
        (J 0 13 0 ⟨tsOf [(1, (.dat 23 (.lst x0))), (2, (.ptr 0 [] 0)), (7, (.row 1)), (8, (.dat 3 (.int x1)))], [(.box 36 (.dat 36 x2)), (.row 33 x3)], 0⟩ (e40 J m [1, 1, 1, 1, 1, 0, 1, 0, 0, 1, 1] [M5] ⟨tsOf [(1, (.dat 23 (.lst x0))), (2, (.ptr 0 [] 0)), (7, (.row 1)), (8, (.dat 3 (.int x1)))], [(.box 36 (.dat 36 x2)), (.row 33 x3)], 0⟩)))) := fun J => by kernel_rfl
  exact (h jn).trans (by
    simp only [jn_eq, ref04_Pass_j7_eq m M5 rec5 h5]
    rfl)
theorem ref04_Pass_j9_eq (m : Nat) (x0 : List Dt) : e40 jn m [1, 1, 1, 1, 1, 1, 1, 1] [] ⟨tsOf [(7, (.row 0))], [(.row 33 x0)], 0⟩ = ref04_Pass_j9 m (ref04_Pass m) x0 := by
  have h : ∀ J, e40 J m [1, 1, 1, 1, 1, 1, 1, 1] [] ⟨tsOf [(7, (.row 0))], [(.row 33 x0)], 0⟩ =
    some x0 := fun J => by kernel_rfl
  exact (h jn).trans (rfl)
theorem ref04_Pass_j8_eq (m : Nat) (x0 : List Dt) (x1 : Dt) (x2 : List Dt) : e40 jn m [1, 1, 1, 1, 1, 1] [] ⟨tsOf [(1, (.dat 23 (.lst x0))), (2, (.ptr 0 [] 0)), (7, (.row 1))], [(.box 36 (.dat 36 x1)), (.row 33 x2)], 0⟩ = ref04_Pass_j8 m (ref04_Pass m) x0 x1 x2 := by
  have h : ∀ J, e40 J m [1, 1, 1, 1, 1, 1] [] ⟨tsOf [(1, (.dat 23 (.lst x0))), (2, (.ptr 0 [] 0)), (7, (.row 1))], [(.box 36 (.dat 36 x1)), (.row 33 x2)], 0⟩ =
    ((idx x0 (0 : Int)).bind fun v8 =>
      ((ref04_Number m (Dt.toStr v8)).bind fun r9 =>
        (bif (Prod.snd r9) then
          (bif (decide ((Prod.fst r9) < (((List.length (Dt.L x1 3)) : Nat) : Int))) then
            ((idx (Dt.L x1 3) (Prod.fst r9)).bind fun v10 =>
              ((cutL x0 (1 : Int) (((List.length x0) : Nat) : Int)).bind fun v11 =>
                ((ref04_Pass m v10 v11).bind fun r12 =>
                  ((app x2 r12).bind fun v13 =>
                    (J 0 19 0 ⟨tsOf [(7, (.row 0))], [(.row 33 v13)], 0⟩ (e40 J m [1, 1, 1, 1, 1, 1, 1, 1] [] ⟨tsOf [(7, (.row 0))], [(.row 33 v13)], 0⟩))))))
          else
            (J 0 19 0 ⟨tsOf [(7, (.row 0))], [(.row 33 x2)], 0⟩ (e40 J m [1, 1, 1, 1, 1, 1, 1, 1] [] ⟨tsOf [(7, (.row 0))], [(.row 33 x2)], 0⟩)))
        else
          (J 0 19 0 ⟨tsOf [(7, (.row 0))], [(.row 33 x2)], 0⟩ (e40 J m [1, 1, 1, 1, 1, 1, 1, 1] [] ⟨tsOf [(7, (.row 0))], [(.row 33 x2)], 0⟩))))) := fun J => by kernel_rfl
  exact (h jn).trans (by
    simp only [jn_eq, ref04_Pass_j9_eq m]
    rfl)
theorem ref04_Pass_l5_eq (m : Nat) : ∀ (M5 : Nat) (x0 : List Dt) (x1 : Int) (x2 : Dt) (x3 : List Dt), l40 jn m [1, 1, 1, 1, 1, 0, 1, 0] [] M5 ⟨tsOf [(1, (.dat 23 (.lst x0))), (2, (.ptr 0 [] 0)), (7, (.row 1)), (8, (.dat 3 (.int x1)))], [(.box 36 (.dat 36 x2)), (.row 33 x3)], 0⟩ = ref04_Pass_l5 m (ref04_Pass m) M5 x0 x1 x2 x3
  | 0, _, _, _, _ => rfl
  | M5 + 1, x0, x1, x2, x3 => by
    have h : ∀ J, l40 J m [1, 1, 1, 1, 1, 0, 1, 0] [] (M5 + 1) ⟨tsOf [(1, (.dat 23 (.lst x0))), (2, (.ptr 0 [] 0)), (7, (.row 1)), (8, (.dat 3 (.int x1)))], [(.box 36 (.dat 36 x2)), (.row 33 x3)], 0⟩ =
    (bif (decide (x1 < (((List.length (Dt.L x2 3)) : Nat) : Int))) then
      (J 0 14 0 ⟨tsOf [(1, (.dat 23 (.lst x0))), (2, (.ptr 0 [] 0)), (7, (.row 1)), (8, (.dat 3 (.int x1)))], [(.box 36 (.dat 36 x2)), (.row 33 x3)], 0⟩ (e40 J m [1, 1, 1, 1, 1, 0, 1, 0, 0, 1] [M5] ⟨tsOf [(1, (.dat 23 (.lst x0))), (2, (.ptr 0 [] 0)), (7, (.row 1)), (8, (.dat 3 (.int x1)))], [(.box 36 (.dat 36 x2)), (.row 33 x3)], 0⟩))
    else
      (J 0 16 0 ⟨tsOf [(1, (.dat 23 (.lst x0))), (2, (.ptr 0 [] 0)), (7, (.row 1))], [(.box 36 (.dat 36 x2)), (.row 33 x3)], 0⟩ (e40 J m [1, 1, 1, 1, 1, 1] [] ⟨tsOf [(1, (.dat 23 (.lst x0))), (2, (.ptr 0 [] 0)), (7, (.row 1))], [(.box 36 (.dat 36 x2)), (.row 33 x3)], 0⟩))) := fun J => by kernel_rfl
    refine (h jn).trans ?_
    simp only [jn_eq, ref04_Pass_j6_eq m M5 (ref04_Pass_l5 m (ref04_Pass m) M5) (fun x0 x1 x2 x3 => ref04_Pass_l5_eq m M5 x0 x1 x2 x3), ref04_Pass_j8_eq m]
    rfl
theorem ref04_Pass_j4_eq (m : Nat) (x0 : List Dt) (x1 : Int) (x2 : Dt) (x3 : List Dt) : e40 jn m [1, 1, 1, 1, 1, 0, 1] [] ⟨tsOf [(1, (.dat 23 (.lst x0))), (2, (.ptr 0 [] 0)), (7, (.row 1)), (8, (.dat 3 (.int x1)))], [(.box 36 (.dat 36 x2)), (.row 33 x3)], 0⟩ = ref04_Pass_j4 m (ref04_Pass m) x0 x1 x2 x3 := by
  have h : ∀ J, e40 J m [1, 1, 1, 1, 1, 0, 1] [] ⟨tsOf [(1, (.dat 23 (.lst x0))), (2, (.ptr 0 [] 0)), (7, (.row 1)), (8, (.dat 3 (.int x1)))], [(.box 36 (.dat 36 x2)), (.row 33 x3)], 0⟩ =
    (J 1 12 (Nat.succ m) ⟨tsOf [(1, (.dat 23 (.lst x0))), (2, (.ptr 0 [] 0)), (7, (.row 1)), (8, (.dat 3 (.int x1)))], [(.box 36 (.dat 36 x2)), (.row 33 x3)], 0⟩ (l40 J m [1, 1, 1, 1, 1, 0, 1, 0] [] (Nat.succ m) ⟨tsOf [(1, (.dat 23 (.lst x0))), (2, (.ptr 0 [] 0)), (7, (.row 1)), (8, (.dat 3 (.int x1)))], [(.box 36 (.dat 36 x2)), (.row 33 x3)], 0⟩)) := fun J => by kernel_rfl
  exact (h jn).trans (by
    simp only [jn_eq, ref04_Pass_l5_eq m]
    rfl)
theorem ref04_Pass_j3_eq (m : Nat) (x0 : List Dt) (x1 : Dt) : e40 jn m [1, 1, 1, 1] [] ⟨tsOf [(1, (.dat 23 (.lst x0))), (2, (.ptr 0 [] 0))], [(.box 36 (.dat 36 x1))], 0⟩ = ref04_Pass_j3 m (ref04_Pass m) x0 x1 := by
  have h : ∀ J, e40 J m [1, 1, 1, 1] [] ⟨tsOf [(1, (.dat 23 (.lst x0))), (2, (.ptr 0 [] 0))], [(.box 36 (.dat 36 x1))], 0⟩ =
    (J 0 12 0 ⟨tsOf [(1, (.dat 23 (.lst x0))), (2, (.ptr 0 [] 0)), (7, (.row 1)), (8, (.dat 3 (.int (0 : Int))))], [(.box 36 (.dat 36 x1)), (.row 33 [])], 0⟩ (e40 J m [1, 1, 1, 1, 1, 0, 1] [] ⟨tsOf [(1, (.dat 23 (.lst x0))), (2, (.ptr 0 [] 0)), (7, (.row 1)), (8, (.dat 3 (.int (0 : Int))))], [(.box 36 (.dat 36 x1)), (.row 33 [])], 0⟩)) := fun J => by kernel_rfl
  exact (h jn).trans (by
    simp only [jn_eq, ref04_Pass_j4_eq m]
    rfl)
theorem ref04_Pass_j2_eq (m : Nat) (x0 : List Dt) (x1 : Dt) : e40 jn m [1, 1, 1] [] ⟨tsOf [(1, (.dat 23 (.lst x0))), (2, (.ptr 0 [] 0))], [(.box 36 (.dat 36 x1))], 0⟩ = ref04_Pass_j2 m (ref04_Pass m) x0 x1 := by
  have h : ∀ J, e40 J m [1, 1, 1] [] ⟨tsOf [(1, (.dat 23 (.lst x0))), (2, (.ptr 0 [] 0))], [(.box 36 (.dat 36 x1))], 0⟩ =
    (bif ((Dt.I x1 0) != (6 : Int)) then
      some []
    else
      (J 0 10 0 ⟨tsOf [(1, (.dat 23 (.lst x0))), (2, (.ptr 0 [] 0))], [(.box 36 (.dat 36 x1))], 0⟩ (e40 J m [1, 1, 1, 1] [] ⟨tsOf [(1, (.dat 23 (.lst x0))), (2, (.ptr 0 [] 0))], [(.box 36 (.dat 36 x1))], 0⟩))) := fun J => by kernel_rfl
  exact (h jn).trans (by
    simp only [jn_eq, ref04_Pass_j3_eq m]
    rfl)
theorem ref04_Pass_j0_eq (m : Nat) (x0 : List Dt) (x1 : Dt) : e40 jn m [1, 1] [] ⟨tsOf [(1, (.dat 23 (.lst x0))), (2, (.ptr 0 [] 0))], [(.box 36 (.dat 36 x1))], 0⟩ = ref04_Pass_j0 m (ref04_Pass m) x0 x1 := by
  have h : ∀ J, e40 J m [1, 1] [] ⟨tsOf [(1, (.dat 23 (.lst x0))), (2, (.ptr 0 [] 0))], [(.box 36 (.dat 36 x1))], 0⟩ =
    (bif ((Dt.I x1 0) == (5 : Int)) then
      ((idx x0 (0 : Int)).bind fun v0 =>
        ((ref01_Get m x1 (Dt.toStr v0)).bind fun r1 =>
          (bif (Prod.snd r1) then
            ((cutL x0 (1 : Int) (((List.length x0) : Nat) : Int)).bind fun v2 =>
              ((ref04_Pass m (Prod.fst r1) v2).bind fun r3 =>
                some r3))
          else
            (J 0 7 0 ⟨tsOf [], [], 0⟩ (e40 J m [1, 1, 0, 1, 0, 1, 1] [] ⟨tsOf [], [], 0⟩)))))
    else
      (J 0 8 0 ⟨tsOf [(1, (.dat 23 (.lst x0))), (2, (.ptr 0 [] 0))], [(.box 36 (.dat 36 x1))], 0⟩ (e40 J m [1, 1, 1] [] ⟨tsOf [(1, (.dat 23 (.lst x0))), (2, (.ptr 0 [] 0))], [(.box 36 (.dat 36 x1))], 0⟩))) := fun J => by kernel_rfl
  exact (h jn).trans (by
    simp only [jn_eq, ref04_Pass_j1_eq m, ref04_Pass_j2_eq m]
    rfl)
theorem ref04_Pass_eq (m : Nat) (a0 : Dt) (a1 : List Dt) : e40 jn m [] [] ⟨[(.dat 36 a0), (.dat 23 (.lst a1))], [], 0⟩ = ref04_Pass (m + 1) a0 a1 := by
  have h : ∀ J, e40 J m [] [] ⟨[(.dat 36 a0), (.dat 23 (.lst a1))], [], 0⟩ =
    (bif ((((List.length a1) : Nat) : Int) == (0 : Int)) then
      some [a0]
    else
      (J 0 3 0 ⟨tsOf [(1, (.dat 23 (.lst a1))), (2, (.ptr 0 [] 0))], [(.box 36 (.dat 36 a0))], 0⟩ (e40 J m [1, 1] [] ⟨tsOf [(1, (.dat 23 (.lst a1))), (2, (.ptr 0 [] 0))], [(.box 36 (.dat 36 a0))], 0⟩))) := fun J => by kernel_rfl
  refine (h jn).trans ?_
  simp only [jn_eq, ref04_Pass_j0_eq m]
  rfl
noncomputable def d20 (q : Res) : Option (List Dt) := match q with
  | (.dat T0 x0, []) => bif Nat.beq T0 33 then some x0.toLst else none
  | _ => none
theorem d20_sim {b : Res} {r : List Dt} (h : d20 b = some r) : Sim Tryd.prog b ((.dat 33 (.lst r)), []) := by
  unfold d20 at h
  split at h
  · obtain ⟨hc, h2⟩ := bif_some h
    cases h2
    have e0 := beq_eq hc
    subst e0
    exact Sim.of (.of (.dat (.lst Tryd.underlying33)) rfl rfl) .nil
  · cases h
noncomputable def e20 (J : Nat → Nat → Nat → St → Option (List Dt) → Option (List Dt)) (m : Nat) (p ms : List Nat) (σ : St) := evAt Tryd.prog env (ct m) J (m + 1) 36 15 Tryd.f36 d20 p ms σ
noncomputable def l20 (J : Nat → Nat → Nat → St → Option (List Dt) → Option (List Dt)) (m : Nat) (p ms : List Nat) (M : Nat) (σ : St) := loopAt Tryd.prog env (ct m) J (m + 1) 36 15 Tryd.f36 d20 p ms M σ
theorem ref04_Reach_j0_eq (m : Nat) (x0 : List Dt) : e20 jn m [1, 1, 1] [] ⟨tsOf [(5, (.dat 33 (.lst x0)))], [], 0⟩ = ref04_Reach_j0 m x0 := by
  have h : ∀ J, e20 J m [1, 1, 1] [] ⟨tsOf [(5, (.dat 33 (.lst x0)))], [], 0⟩ =
    some x0 := fun J => by kernel_rfl
  exact (h jn).trans (rfl)
theorem ref04_Reach_eq (m : Nat) (a0 : Dt) (a1 : List Dt) : e20 jn m [] [] ⟨[(.dat 36 a0), (.dat 23 (.lst a1))], [], 0⟩ = ref04_Reach (m + 1) a0 a1 := by
  have h : ∀ J, e20 J m [] [] ⟨[(.dat 36 a0), (.dat 23 (.lst a1))], [], 0⟩ =
    ((ref04_Pass m a0 a1).bind fun r0 =>
      (bif ((((List.length r0) : Nat) : Int) == (0 : Int)) then
        some [(Dt.agg [(Dt.int (0 : Int)), (Dt.int (0 : Int)), (Dt.str (ByteArray.mk (List.toArray []))), (Dt.lst []), (Dt.lst [])])]
      else
        (J 0 4 0 ⟨tsOf [(5, (.dat 33 (.lst r0)))], [], 0⟩ (e20 J m [1, 1, 1] [] ⟨tsOf [(5, (.dat 33 (.lst r0)))], [], 0⟩)))) := fun J => by kernel_rfl
  refine (h jn).trans ?_
  simp only [jn_eq, ref04_Reach_j0_eq m]
  rfl
noncomputable def d23 (q : Res) : Option (List Dt) := match q with
  | (.dat T0 x0, []) => bif Nat.beq T0 33 then some x0.toLst else none
  | _ => none
theorem d23_sim {b : Res} {r : List Dt} (h : d23 b = some r) : Sim Tryd.prog b ((.dat 33 (.lst r)), []) := by
  unfold d23 at h
  split at h
  · obtain ⟨hc, h2⟩ := bif_some h
    cases h2
    have e0 := beq_eq hc
    subst e0
    exact Sim.of (.of (.dat (.lst Tryd.underlying33)) rfl rfl) .nil
  · cases h
noncomputable def e23 (J : Nat → Nat → Nat → St → Option (List Dt) → Option (List Dt)) (m : Nat) (p ms : List Nat) (σ : St) := evAt Tryd.prog env (ct m) J (m + 1) 38 38 Tryd.f38 d23 p ms σ
noncomputable def l23 (J : Nat → Nat → Nat → St → Option (List Dt) → Option (List Dt)) (m : Nat) (p ms : List Nat) (M : Nat) (σ : St) := loopAt Tryd.prog env (ct m) J (m + 1) 38 38 Tryd.f38 d23 p ms M σ
theorem ref04_Leaves_j3_eq (m : Nat) (M1 : Nat) (rec1 : List Dt → Int → List Dt → Option (List Dt)) (h1 : ∀ (x0 : List Dt) (x1 : Int) (x2 : List Dt), l23 jn m [1, 1, 1, 0, 1, 0] [] M1 ⟨tsOf [(5, (.dat 33 (.lst x0))), (6, (.row 0)), (7, (.dat 3 (.int x1)))], [(.row 33 x2)], 0⟩ = rec1 x0 x1 x2) (x0 : List Dt) (x1 : Int) (x2 : List Dt) : e23 jn m [1, 1, 1, 0, 1, 0, 0, 1, 1] [M1] ⟨tsOf [(5, (.dat 33 (.lst x0))), (6, (.row 0)), (7, (.dat 3 (.int x1)))], [(.row 33 x2)], 0⟩ = ref04_Leaves_j3 m rec1 x0 x1 x2 := by
  have h : ∀ J, e23 J m [1, 1, 1, 0, 1, 0, 0, 1, 1] [M1] ⟨tsOf [(5, (.dat 33 (.lst x0))), (6, (.row 0)), (7, (.dat 3 (.int x1)))], [(.row 33 x2)], 0⟩ =
    (J 1 4 M1 ⟨tsOf [(5, (.dat 33 (.lst x0))), (6, (.row 0)), (7, (.dat 3 (.int (IntKind.wrap IntKind.i64 (x1 + (1 : Int))))))], [(.row 33 x2)], 0⟩ (l23 J m [1, 1, 1, 0, 1, 0] [] M1 ⟨tsOf [(5, (.dat 33 (.lst x0))), (6, (.row 0)), (7, (.dat 3 (.int (IntKind.wrap IntKind.i64 (x1 + (1 : Int))))))], [(.row 33 x2)], 0⟩)) := fun J => by kernel_rfl
  exact (h jn).trans (by
    simp only [jn_eq, h1]
    rfl)
theorem ref04_Leaves_j2_eq (m : Nat) (M1 : Nat) (rec1 : List Dt → Int → List Dt → Option (List Dt)) (h1 : ∀ (x0 : List Dt) (x1 : Int) (x2 : List Dt), l23 jn m [1, 1, 1, 0, 1, 0] [] M1 ⟨tsOf [(5, (.dat 33 (.lst x0))), (6, (.row 0)), (7, (.dat 3 (.int x1)))], [(.row 33 x2)], 0⟩ = rec1 x0 x1 x2) (x0 : List Dt) (x1 : Int) (x2 : List Dt) : e23 jn m [1, 1, 1, 0, 1, 0, 0, 1] [M1] ⟨tsOf [(5, (.dat 33 (.lst x0))), (6, (.row 0)), (7, (.dat 3 (.int x1)))], [(.row 33 x2)], 0⟩ = ref04_Leaves_j2 m rec1 x0 x1 x2 := by
  have h : ∀ J, e23 J m [1, 1, 1, 0, 1, 0, 0, 1] [M1] ⟨tsOf [(5, (.dat 33 (.lst x0))), (6, (.row 0)), (7, (.dat 3 (.int x1)))], [(.row 33 x2)], 0⟩ =
    ((idx x0 x1).bind fun v1 =>
      ((app x2 [v1]).bind fun v2 =>
        ((idx x0 x1).bind fun v3 =>
          (bif ((Dt.I v3 0) == (6 : Int)) then
            ((idx x0 x1).bind fun v4 =>
              ((app v2 (Dt.L v4 3)).bind fun v5 =>
                (J 0 5 0 ⟨tsOf [(5, (.dat 33 (.lst x0))), (6, (.row 0)), (7, (.dat 3 (.int x1)))], [(.row 33 v5)], 0⟩ (e23 J m [1, 1, 1, 0, 1, 0, 0, 1, 1] [M1] ⟨tsOf [(5, (.dat 33 (.lst x0))), (6, (.row 0)), (7, (.dat 3 (.int x1)))], [(.row 33 v5)], 0⟩))))
          else
            (J 0 5 0 ⟨tsOf [(5, (.dat 33 (.lst x0))), (6, (.row 0)), (7, (.dat 3 (.int x1)))], [(.row 33 v2)], 0⟩ (e23 J m [1, 1, 1, 0, 1, 0, 0, 1, 1] [M1] ⟨tsOf [(5, (.dat 33 (.lst x0))), (6, (.row 0)), (7, (.dat 3 (.int x1)))], [(.row 33 v2)], 0⟩)))))) := fun J => by kernel_rfl
  exact (h jn).trans (by
    simp only [jn_eq, ref04_Leaves_j3_eq m M1 rec1 h1]
    rfl)
theorem ref04_Leaves_j4_eq (m : Nat) (x0 : List Dt) : e23 jn m [1, 1, 1, 1] [] ⟨tsOf [(6, (.row 0))], [(.row 33 x0)], 0⟩ = ref04_Leaves_j4 m x0 := by
  have h : ∀ J, e23 J m [1, 1, 1, 1] [] ⟨tsOf [(6, (.row 0))], [(.row 33 x0)], 0⟩ =
    some x0 := fun J => by kernel_rfl
  exact (h jn).trans (rfl)
theorem ref04_Leaves_l1_eq (m : Nat) : ∀ (M1 : Nat) (x0 : List Dt) (x1 : Int) (x2 : List Dt), l23 jn m [1, 1, 1, 0, 1, 0] [] M1 ⟨tsOf [(5, (.dat 33 (.lst x0))), (6, (.row 0)), (7, (.dat 3 (.int x1)))], [(.row 33 x2)], 0⟩ = ref04_Leaves_l1 m M1 x0 x1 x2
  | 0, _, _, _ => rfl
  | M1 + 1, x0, x1, x2 => by
    have h : ∀ J, l23 J m [1, 1, 1, 0, 1, 0] [] (M1 + 1) ⟨tsOf [(5, (.dat 33 (.lst x0))), (6, (.row 0)), (7, (.dat 3 (.int x1)))], [(.row 33 x2)], 0⟩ =
    (bif (decide (x1 < (((List.length x0) : Nat) : Int))) then
      (J 0 6 0 ⟨tsOf [(5, (.dat 33 (.lst x0))), (6, (.row 0)), (7, (.dat 3 (.int x1)))], [(.row 33 x2)], 0⟩ (e23 J m [1, 1, 1, 0, 1, 0, 0, 1] [M1] ⟨tsOf [(5, (.dat 33 (.lst x0))), (6, (.row 0)), (7, (.dat 3 (.int x1)))], [(.row 33 x2)], 0⟩))
    else
      (J 0 9 0 ⟨tsOf [(6, (.row 0))], [(.row 33 x2)], 0⟩ (e23 J m [1, 1, 1, 1] [] ⟨tsOf [(6, (.row 0))], [(.row 33 x2)], 0⟩))) := fun J => by kernel_rfl
    refine (h jn).trans ?_
    simp only [jn_eq, ref04_Leaves_j2_eq m M1 (ref04_Leaves_l1 m M1) (fun x0 x1 x2 => ref04_Leaves_l1_eq m M1 x0 x1 x2), ref04_Leaves_j4_eq m]
    rfl
theorem ref04_Leaves_j0_eq (m : Nat) (x0 : List Dt) (x1 : Int) (x2 : List Dt) : e23 jn m [1, 1, 1, 0, 1] [] ⟨tsOf [(5, (.dat 33 (.lst x0))), (6, (.row 0)), (7, (.dat 3 (.int x1)))], [(.row 33 x2)], 0⟩ = ref04_Leaves_j0 m x0 x1 x2 := by
  have h : ∀ J, e23 J m [1, 1, 1, 0, 1] [] ⟨tsOf [(5, (.dat 33 (.lst x0))), (6, (.row 0)), (7, (.dat 3 (.int x1)))], [(.row 33 x2)], 0⟩ =
    (J 1 4 (Nat.succ m) ⟨tsOf [(5, (.dat 33 (.lst x0))), (6, (.row 0)), (7, (.dat 3 (.int x1)))], [(.row 33 x2)], 0⟩ (l23 J m [1, 1, 1, 0, 1, 0] [] (Nat.succ m) ⟨tsOf [(5, (.dat 33 (.lst x0))), (6, (.row 0)), (7, (.dat 3 (.int x1)))], [(.row 33 x2)], 0⟩)) := fun J => by kernel_rfl
  exact (h jn).trans (by
    simp only [jn_eq, ref04_Leaves_l1_eq m]
    rfl)
theorem ref04_Leaves_eq (m : Nat) (a0 : Dt) (a1 : List Dt) : e23 jn m [] [] ⟨[(.dat 36 a0), (.dat 23 (.lst a1))], [], 0⟩ = ref04_Leaves (m + 1) a0 a1 := by
  have h : ∀ J, e23 J m [] [] ⟨[(.dat 36 a0), (.dat 23 (.lst a1))], [], 0⟩ =
    ((ref04_Reach m a0 a1).bind fun r0 =>
      (J 0 4 0 ⟨tsOf [(5, (.dat 33 (.lst r0))), (6, (.row 0)), (7, (.dat 3 (.int (0 : Int))))], [(.row 33 [])], 0⟩ (e23 J m [1, 1, 1, 0, 1] [] ⟨tsOf [(5, (.dat 33 (.lst r0))), (6, (.row 0)), (7, (.dat 3 (.int (0 : Int))))], [(.row 33 [])], 0⟩))) := fun J => by kernel_rfl
  refine (h jn).trans ?_
  simp only [jn_eq, ref04_Leaves_j0_eq m]
  rfl
noncomputable def d4 (q : Res) : Option (Bool) := match q with
  | (.dat T0 x0, []) => bif Nat.beq T0 4 then some x0.toBool else none
  | _ => none
theorem d4_sim {b : Res} {r : Bool} (h : d4 b = some r) : Sim Tryd.prog b ((.dat 4 (.bool r)), []) := by
  unfold d4 at h
  split at h
  · obtain ⟨hc, h2⟩ := bif_some h
    cases h2
    have e0 := beq_eq hc
    subst e0
    exact Sim.of (.of (.dat (.bool Tryd.underlying4)) rfl rfl) .nil
  · cases h
noncomputable def e4 (J : Nat → Nat → Nat → St → Option (Bool) → Option (Bool)) (m : Nat) (p ms : List Nat) (σ : St) := evAt Tryd.prog env (ct m) J (m + 1) 10 29 Tryd.f10 d4 p ms σ
noncomputable def l4 (J : Nat → Nat → Nat → St → Option (Bool) → Option (Bool)) (m : Nat) (p ms : List Nat) (M : Nat) (σ : St) := loopAt Tryd.prog env (ct m) J (m + 1) 10 29 Tryd.f10 d4 p ms M σ
theorem law04_PathReaches_j0_eq (m : Nat) (x0 : List Dt) (x1 : Dt) : e4 jn m [1, 1] [] ⟨tsOf [(1, (.dat 23 (.lst x0))), (2, (.ptr 0 [] 0))], [(.box 36 (.dat 36 x1))], 0⟩ = law04_PathReaches_j0 m x0 x1 := by
  have h : ∀ J, e4 J m [1, 1] [] ⟨tsOf [(1, (.dat 23 (.lst x0))), (2, (.ptr 0 [] 0))], [(.box 36 (.dat 36 x1))], 0⟩ =
    ((path_Reach m x1 x0).bind fun r2 =>
      ((ref04_Reach m x1 x0).bind fun r3 =>
        ((ref01_SameList m r2 r3).bind fun r4 =>
          (bif r4 then
            ((path_Leaves m x1 x0).bind fun r5 =>
              ((ref04_Leaves m x1 x0).bind fun r6 =>
                ((ref01_SameList m r5 r6).bind fun r7 =>
                  (bif r7 then
                    ((awakeC).bind fun r8 =>
                      some r8)
                  else
                    some Bool.false))))
          else
            some Bool.false)))) := fun J => by kernel_rfl
  exact (h jn).trans (rfl)
theorem law04_PathReaches_eq (m : Nat) (a0 : Dt) (a1 : List Dt) : e4 jn m [] [] ⟨[(.dat 36 a0), (.dat 23 (.lst a1))], [], 0⟩ = law04_PathReaches (m + 1) a0 a1 := by
  have h : ∀ J, e4 J m [] [] ⟨[(.dat 36 a0), (.dat 23 (.lst a1))], [], 0⟩ =
    ((law04_small m a0 a1).bind fun r0 =>
      (bif (Bool.not r0) then
        ((awakeC).bind fun r1 =>
          some r1)
      else
        (J 0 3 0 ⟨tsOf [(1, (.dat 23 (.lst a1))), (2, (.ptr 0 [] 0))], [(.box 36 (.dat 36 a0))], 0⟩ (e4 J m [1, 1] [] ⟨tsOf [(1, (.dat 23 (.lst a1))), (2, (.ptr 0 [] 0))], [(.box 36 (.dat 36 a0))], 0⟩)))) := fun J => by kernel_rfl
  refine (h jn).trans ?_
  simp only [jn_eq, law04_PathReaches_j0_eq m]
  rfl
end Go.Proofs.YtmjnmiahblaanaaDoor
