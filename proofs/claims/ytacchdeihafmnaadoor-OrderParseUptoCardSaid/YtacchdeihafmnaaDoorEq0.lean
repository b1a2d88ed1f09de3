/- Generated: each function's run in the abstract machine is its shallow function. -/
import Derived.Test.YtacchdeihafmnaaDoorCt
import Derived.Test.YtacchdeihafmnaaDoorAmEnv
import Derived.KernelRfl
set_option linter.unusedVariables false
set_option linter.unusedSimpArgs false
namespace Go.Proofs.YtacchdeihafmnaaDoor
open Go.Am
set_option maxRecDepth 100000
noncomputable def d9 (q : Res) : Option (Bool) := match q with
  | (.dat T0 x0, []) => bif Nat.beq T0 4 then some x0.toBool else none
  | _ => none
theorem d9_sim {b : Res} {r : Bool} (h : d9 b = some r) : Sim Tryd.prog b ((.dat 4 (.bool r)), []) := by
  unfold d9 at h
  split at h
  · obtain ⟨hc, h2⟩ := bif_some h
    cases h2
    have e0 := beq_eq hc
    subst e0
    exact Sim.of (.of (.dat (.bool Tryd.underlying4)) rfl rfl) .nil
  · cases h
noncomputable def e9 (J : Nat → Nat → Nat → St → Option (Bool) → Option (Bool)) (m : Nat) (p ms : List Nat) (σ : St) := evAt Tryd.prog env (ct m) J (m + 1) 29 26 Tryd.f29 d9 p ms σ
noncomputable def l9 (J : Nat → Nat → Nat → St → Option (Bool) → Option (Bool)) (m : Nat) (p ms : List Nat) (M : Nat) (σ : St) := loopAt Tryd.prog env (ct m) J (m + 1) 29 26 Tryd.f29 d9 p ms M σ
theorem slices_Equal_j4_eq (m : Nat) (M2 : Nat) (rec2 : List Dt → List Dt → Int → Int → Option (Bool)) (h2 : ∀ (x0 : List Dt) (x1 : List Dt) (x2 : Int) (x3 : Int), l9 jn m [1, 1, 0, 1, 0] [] M2 ⟨tsOf [(0, (.dat 45 (.lst x0))), (1, (.dat 45 (.lst x1))), (12, (.dat 3 (.int x2))), (13, (.dat 3 (.int x3)))], [], 0⟩ = rec2 x0 x1 x2 x3) (x0 : List Dt) (x1 : List Dt) (x2 : Int) (x3 : Int) : e9 jn m [1, 1, 0, 1, 0, 0, 1, 1, 1] [M2] ⟨tsOf [(0, (.dat 45 (.lst x0))), (1, (.dat 45 (.lst x1))), (12, (.dat 3 (.int x2))), (13, (.dat 3 (.int x3)))], [], 0⟩ = slices_Equal_j4 m rec2 x0 x1 x2 x3 := by
  have h : ∀ J, e9 J m [1, 1, 0, 1, 0, 0, 1, 1, 1] [M2] ⟨tsOf [(0, (.dat 45 (.lst x0))), (1, (.dat 45 (.lst x1))), (12, (.dat 3 (.int x2))), (13, (.dat 3 (.int x3)))], [], 0⟩ =
    (J 1 4 M2 ⟨tsOf [(0, (.dat 45 (.lst x0))), (1, (.dat 45 (.lst x1))), (12, (.dat 3 (.int x2))), (13, (.dat 3 (.int (IntKind.wrap IntKind.i64 (x3 + (1 : Int))))))], [], 0⟩ (l9 J m [1, 1, 0, 1, 0] [] M2 ⟨tsOf [(0, (.dat 45 (.lst x0))), (1, (.dat 45 (.lst x1))), (12, (.dat 3 (.int x2))), (13, (.dat 3 (.int (IntKind.wrap IntKind.i64 (x3 + (1 : Int))))))], [], 0⟩)) := fun J => by kernel_rfl
  exact (h jn).trans (by
    simp only [jn_eq, h2]
    rfl)
theorem slices_Equal_j3_eq (m : Nat) (M2 : Nat) (rec2 : List Dt → List Dt → Int → Int → Option (Bool)) (h2 : ∀ (x0 : List Dt) (x1 : List Dt) (x2 : Int) (x3 : Int), l9 jn m [1, 1, 0, 1, 0] [] M2 ⟨tsOf [(0, (.dat 45 (.lst x0))), (1, (.dat 45 (.lst x1))), (12, (.dat 3 (.int x2))), (13, (.dat 3 (.int x3)))], [], 0⟩ = rec2 x0 x1 x2 x3) (x0 : List Dt) (x1 : List Dt) (x2 : Int) (x3 : Int) : e9 jn m [1, 1, 0, 1, 0, 0, 1, 1] [M2] ⟨tsOf [(0, (.dat 45 (.lst x0))), (1, (.dat 45 (.lst x1))), (12, (.dat 3 (.int x2))), (13, (.dat 3 (.int x3)))], [], 0⟩ = slices_Equal_j3 m rec2 x0 x1 x2 x3 := by
  have h : ∀ J, e9 J m [1, 1, 0, 1, 0, 0, 1, 1] [M2] ⟨tsOf [(0, (.dat 45 (.lst x0))), (1, (.dat 45 (.lst x1))), (12, (.dat 3 (.int x2))), (13, (.dat 3 (.int x3)))], [], 0⟩ =
    ((idx x0 x3).bind fun v0 =>
      ((idx x1 x3).bind fun v1 =>
        (bif (Bool.not ((ByteArray.toList (Dt.toStr v0)) == (ByteArray.toList (Dt.toStr v1)))) then
          some Bool.false
        else
          (J 0 8 0 ⟨tsOf [(0, (.dat 45 (.lst x0))), (1, (.dat 45 (.lst x1))), (12, (.dat 3 (.int x2))), (13, (.dat 3 (.int x3)))], [], 0⟩ (e9 J m [1, 1, 0, 1, 0, 0, 1, 1, 1] [M2] ⟨tsOf [(0, (.dat 45 (.lst x0))), (1, (.dat 45 (.lst x1))), (12, (.dat 3 (.int x2))), (13, (.dat 3 (.int x3)))], [], 0⟩))))) := fun J => by kernel_rfl
  exact (h jn).trans (by
    simp only [jn_eq, slices_Equal_j4_eq m M2 rec2 h2]
    rfl)
theorem slices_Equal_j5_eq (m : Nat) : e9 jn m [1, 1, 1] [] ⟨tsOf [], [], 0⟩ = slices_Equal_j5 m := by
  have h : ∀ J, e9 J m [1, 1, 1] [] ⟨tsOf [], [], 0⟩ =
    some Bool.true := fun J => by kernel_rfl
  exact (h jn).trans (rfl)
theorem slices_Equal_l2_eq (m : Nat) : ∀ (M2 : Nat) (x0 : List Dt) (x1 : List Dt) (x2 : Int) (x3 : Int), l9 jn m [1, 1, 0, 1, 0] [] M2 ⟨tsOf [(0, (.dat 45 (.lst x0))), (1, (.dat 45 (.lst x1))), (12, (.dat 3 (.int x2))), (13, (.dat 3 (.int x3)))], [], 0⟩ = slices_Equal_l2 m M2 x0 x1 x2 x3
  | 0, _, _, _, _ => rfl
  | M2 + 1, x0, x1, x2, x3 => by
    have h : ∀ J, l9 J m [1, 1, 0, 1, 0] [] (M2 + 1) ⟨tsOf [(0, (.dat 45 (.lst x0))), (1, (.dat 45 (.lst x1))), (12, (.dat 3 (.int x2))), (13, (.dat 3 (.int x3)))], [], 0⟩ =
    (bif (decide (x3 < x2)) then
      (J 0 5 0 ⟨tsOf [(0, (.dat 45 (.lst x0))), (1, (.dat 45 (.lst x1))), (12, (.dat 3 (.int x2))), (13, (.dat 3 (.int x3)))], [], 0⟩ (e9 J m [1, 1, 0, 1, 0, 0, 1, 1] [M2] ⟨tsOf [(0, (.dat 45 (.lst x0))), (1, (.dat 45 (.lst x1))), (12, (.dat 3 (.int x2))), (13, (.dat 3 (.int x3)))], [], 0⟩))
    else
      (J 0 9 0 ⟨tsOf [], [], 0⟩ (e9 J m [1, 1, 1] [] ⟨tsOf [], [], 0⟩))) := fun J => by kernel_rfl
    refine (h jn).trans ?_
    simp only [jn_eq, slices_Equal_j3_eq m M2 (slices_Equal_l2 m M2) (fun x0 x1 x2 x3 => slices_Equal_l2_eq m M2 x0 x1 x2 x3), slices_Equal_j5_eq m]
    rfl
theorem slices_Equal_j1_eq (m : Nat) (x0 : List Dt) (x1 : List Dt) (x2 : Int) (x3 : Int) : e9 jn m [1, 1, 0, 1] [] ⟨tsOf [(0, (.dat 45 (.lst x0))), (1, (.dat 45 (.lst x1))), (12, (.dat 3 (.int x2))), (13, (.dat 3 (.int x3)))], [], 0⟩ = slices_Equal_j1 m x0 x1 x2 x3 := by
  have h : ∀ J, e9 J m [1, 1, 0, 1] [] ⟨tsOf [(0, (.dat 45 (.lst x0))), (1, (.dat 45 (.lst x1))), (12, (.dat 3 (.int x2))), (13, (.dat 3 (.int x3)))], [], 0⟩ =
    (J 1 4 (Nat.succ m) ⟨tsOf [(0, (.dat 45 (.lst x0))), (1, (.dat 45 (.lst x1))), (12, (.dat 3 (.int x2))), (13, (.dat 3 (.int x3)))], [], 0⟩ (l9 J m [1, 1, 0, 1, 0] [] (Nat.succ m) ⟨tsOf [(0, (.dat 45 (.lst x0))), (1, (.dat 45 (.lst x1))), (12, (.dat 3 (.int x2))), (13, (.dat 3 (.int x3)))], [], 0⟩)) := fun J => by kernel_rfl
  exact (h jn).trans (by
    simp only [jn_eq, slices_Equal_l2_eq m]
    rfl)
theorem slices_Equal_j0_eq (m : Nat) (x0 : List Dt) (x1 : List Dt) : e9 jn m [1, 1] [] ⟨tsOf [(0, (.dat 45 (.lst x0))), (1, (.dat 45 (.lst x1)))], [], 0⟩ = slices_Equal_j0 m x0 x1 := by
  have h : ∀ J, e9 J m [1, 1] [] ⟨tsOf [(0, (.dat 45 (.lst x0))), (1, (.dat 45 (.lst x1)))], [], 0⟩ =
    (J 0 4 0 ⟨tsOf [(0, (.dat 45 (.lst x0))), (1, (.dat 45 (.lst x1))), (12, (.dat 3 (.int (((List.length x0) : Nat) : Int)))), (13, (.dat 3 (.int (0 : Int))))], [], 0⟩ (e9 J m [1, 1, 0, 1] [] ⟨tsOf [(0, (.dat 45 (.lst x0))), (1, (.dat 45 (.lst x1))), (12, (.dat 3 (.int (((List.length x0) : Nat) : Int)))), (13, (.dat 3 (.int (0 : Int))))], [], 0⟩)) := fun J => by kernel_rfl
  exact (h jn).trans (by
    simp only [jn_eq, slices_Equal_j1_eq m]
    rfl)
theorem slices_Equal_eq (m : Nat) (a0 : List Dt) (a1 : List Dt) : e9 jn m [] [] ⟨[(.dat 45 (.lst a0)), (.dat 45 (.lst a1))], [], 0⟩ = slices_Equal (m + 1) a0 a1 := by
  have h : ∀ J, e9 J m [] [] ⟨[(.dat 45 (.lst a0)), (.dat 45 (.lst a1))], [], 0⟩ =
    (bif ((((List.length a0) : Nat) : Int) != (((List.length a1) : Nat) : Int)) then
      some Bool.false
    else
      (J 0 3 0 ⟨tsOf [(0, (.dat 45 (.lst a0))), (1, (.dat 45 (.lst a1)))], [], 0⟩ (e9 J m [1, 1] [] ⟨tsOf [(0, (.dat 45 (.lst a0))), (1, (.dat 45 (.lst a1)))], [], 0⟩))) := fun J => by kernel_rfl
  refine (h jn).trans ?_
  simp only [jn_eq, slices_Equal_j0_eq m]
  rfl
noncomputable def d7 (q : Res) : Option (Bool) := match q with
  | (.dat T0 x0, []) => bif Nat.beq T0 4 then some x0.toBool else none
  | _ => none
theorem d7_sim {b : Res} {r : Bool} (h : d7 b = some r) : Sim Tryd.prog b ((.dat 4 (.bool r)), []) := by
  unfold d7 at h
  split at h
  · obtain ⟨hc, h2⟩ := bif_some h
    cases h2
    have e0 := beq_eq hc
    subst e0
    exact Sim.of (.of (.dat (.bool Tryd.underlying4)) rfl rfl) .nil
  · cases h
noncomputable def e7 (J : Nat → Nat → Nat → St → Option (Bool) → Option (Bool)) (m : Nat) (p ms : List Nat) (σ : St) := evAt Tryd.prog env (ct m) J (m + 1) 15 42 Tryd.f15 d7 p ms σ
noncomputable def l7 (J : Nat → Nat → Nat → St → Option (Bool) → Option (Bool)) (m : Nat) (p ms : List Nat) (M : Nat) (σ : St) := loopAt Tryd.prog env (ct m) J (m + 1) 15 42 Tryd.f15 d7 p ms M σ
theorem law12_Same_j4_eq (m : Nat) (M2 : Nat) (rec2 : List Dt → List Dt → Int → Int → Option (Bool)) (h2 : ∀ (x0 : List Dt) (x1 : List Dt) (x2 : Int) (x3 : Int), l7 jn m [1, 1, 0, 1, 0] [] M2 ⟨tsOf [(0, (.dat 22 (.lst x0))), (1, (.dat 22 (.lst x1))), (12, (.dat 3 (.int x2))), (13, (.dat 3 (.int x3)))], [], 0⟩ = rec2 x0 x1 x2 x3) (x0 : List Dt) (x1 : List Dt) (x2 : Int) (x3 : Int) : e7 jn m [1, 1, 0, 1, 0, 0, 1, 1, 1] [M2] ⟨tsOf [(0, (.dat 22 (.lst x0))), (1, (.dat 22 (.lst x1))), (12, (.dat 3 (.int x2))), (13, (.dat 3 (.int x3)))], [], 0⟩ = law12_Same_j4 m rec2 x0 x1 x2 x3 := by
  have h : ∀ J, e7 J m [1, 1, 0, 1, 0, 0, 1, 1, 1] [M2] ⟨tsOf [(0, (.dat 22 (.lst x0))), (1, (.dat 22 (.lst x1))), (12, (.dat 3 (.int x2))), (13, (.dat 3 (.int x3)))], [], 0⟩ =
    (J 1 4 M2 ⟨tsOf [(0, (.dat 22 (.lst x0))), (1, (.dat 22 (.lst x1))), (12, (.dat 3 (.int x2))), (13, (.dat 3 (.int (IntKind.wrap IntKind.i64 (x3 + (1 : Int))))))], [], 0⟩ (l7 J m [1, 1, 0, 1, 0] [] M2 ⟨tsOf [(0, (.dat 22 (.lst x0))), (1, (.dat 22 (.lst x1))), (12, (.dat 3 (.int x2))), (13, (.dat 3 (.int (IntKind.wrap IntKind.i64 (x3 + (1 : Int))))))], [], 0⟩)) := fun J => by kernel_rfl
  exact (h jn).trans (by
    simp only [jn_eq, h2]
    rfl)
theorem law12_Same_j3_eq (m : Nat) (M2 : Nat) (rec2 : List Dt → List Dt → Int → Int → Option (Bool)) (h2 : ∀ (x0 : List Dt) (x1 : List Dt) (x2 : Int) (x3 : Int), l7 jn m [1, 1, 0, 1, 0] [] M2 ⟨tsOf [(0, (.dat 22 (.lst x0))), (1, (.dat 22 (.lst x1))), (12, (.dat 3 (.int x2))), (13, (.dat 3 (.int x3)))], [], 0⟩ = rec2 x0 x1 x2 x3) (x0 : List Dt) (x1 : List Dt) (x2 : Int) (x3 : Int) : e7 jn m [1, 1, 0, 1, 0, 0, 1, 1] [M2] ⟨tsOf [(0, (.dat 22 (.lst x0))), (1, (.dat 22 (.lst x1))), (12, (.dat 3 (.int x2))), (13, (.dat 3 (.int x3)))], [], 0⟩ = law12_Same_j3 m rec2 x0 x1 x2 x3 := by
  have h : ∀ J, e7 J m [1, 1, 0, 1, 0, 0, 1, 1] [M2] ⟨tsOf [(0, (.dat 22 (.lst x0))), (1, (.dat 22 (.lst x1))), (12, (.dat 3 (.int x2))), (13, (.dat 3 (.int x3)))], [], 0⟩ =
    ((idx x0 x3).bind fun v0 =>
      ((idx x1 x3).bind fun v1 =>
        (bif (Bool.not ((Dt.B v0 1) == (Dt.B v1 1))) then
          some Bool.false
        else
          ((idx x0 x3).bind fun v2 =>
            ((idx x1 x3).bind fun v3 =>
              ((slices_Equal m (Dt.L v2 0) (Dt.L v3 0)).bind fun r4 =>
                (bif (Bool.not r4) then
                  some Bool.false
                else
                  (J 0 8 0 ⟨tsOf [(0, (.dat 22 (.lst x0))), (1, (.dat 22 (.lst x1))), (12, (.dat 3 (.int x2))), (13, (.dat 3 (.int x3)))], [], 0⟩ (e7 J m [1, 1, 0, 1, 0, 0, 1, 1, 1] [M2] ⟨tsOf [(0, (.dat 22 (.lst x0))), (1, (.dat 22 (.lst x1))), (12, (.dat 3 (.int x2))), (13, (.dat 3 (.int x3)))], [], 0⟩))))))))) := fun J => by kernel_rfl
  exact (h jn).trans (by
    simp only [jn_eq, law12_Same_j4_eq m M2 rec2 h2]
    rfl)
theorem law12_Same_j5_eq (m : Nat) : e7 jn m [1, 1, 1] [] ⟨tsOf [], [], 0⟩ = law12_Same_j5 m := by
  have h : ∀ J, e7 J m [1, 1, 1] [] ⟨tsOf [], [], 0⟩ =
    some Bool.true := fun J => by kernel_rfl
  exact (h jn).trans (rfl)
theorem law12_Same_l2_eq (m : Nat) : ∀ (M2 : Nat) (x0 : List Dt) (x1 : List Dt) (x2 : Int) (x3 : Int), l7 jn m [1, 1, 0, 1, 0] [] M2 ⟨tsOf [(0, (.dat 22 (.lst x0))), (1, (.dat 22 (.lst x1))), (12, (.dat 3 (.int x2))), (13, (.dat 3 (.int x3)))], [], 0⟩ = law12_Same_l2 m M2 x0 x1 x2 x3
  | 0, _, _, _, _ => rfl
  | M2 + 1, x0, x1, x2, x3 => by
    have h : ∀ J, l7 J m [1, 1, 0, 1, 0] [] (M2 + 1) ⟨tsOf [(0, (.dat 22 (.lst x0))), (1, (.dat 22 (.lst x1))), (12, (.dat 3 (.int x2))), (13, (.dat 3 (.int x3)))], [], 0⟩ =
    (bif (decide (x3 < x2)) then
      (J 0 5 0 ⟨tsOf [(0, (.dat 22 (.lst x0))), (1, (.dat 22 (.lst x1))), (12, (.dat 3 (.int x2))), (13, (.dat 3 (.int x3)))], [], 0⟩ (e7 J m [1, 1, 0, 1, 0, 0, 1, 1] [M2] ⟨tsOf [(0, (.dat 22 (.lst x0))), (1, (.dat 22 (.lst x1))), (12, (.dat 3 (.int x2))), (13, (.dat 3 (.int x3)))], [], 0⟩))
    else
      (J 0 9 0 ⟨tsOf [], [], 0⟩ (e7 J m [1, 1, 1] [] ⟨tsOf [], [], 0⟩))) := fun J => by kernel_rfl
    refine (h jn).trans ?_
    simp only [jn_eq, law12_Same_j3_eq m M2 (law12_Same_l2 m M2) (fun x0 x1 x2 x3 => law12_Same_l2_eq m M2 x0 x1 x2 x3), law12_Same_j5_eq m]
    rfl
theorem law12_Same_j1_eq (m : Nat) (x0 : List Dt) (x1 : List Dt) (x2 : Int) (x3 : Int) : e7 jn m [1, 1, 0, 1] [] ⟨tsOf [(0, (.dat 22 (.lst x0))), (1, (.dat 22 (.lst x1))), (12, (.dat 3 (.int x2))), (13, (.dat 3 (.int x3)))], [], 0⟩ = law12_Same_j1 m x0 x1 x2 x3 := by
  have h : ∀ J, e7 J m [1, 1, 0, 1] [] ⟨tsOf [(0, (.dat 22 (.lst x0))), (1, (.dat 22 (.lst x1))), (12, (.dat 3 (.int x2))), (13, (.dat 3 (.int x3)))], [], 0⟩ =
    (J 1 4 (Nat.succ m) ⟨tsOf [(0, (.dat 22 (.lst x0))), (1, (.dat 22 (.lst x1))), (12, (.dat 3 (.int x2))), (13, (.dat 3 (.int x3)))], [], 0⟩ (l7 J m [1, 1, 0, 1, 0] [] (Nat.succ m) ⟨tsOf [(0, (.dat 22 (.lst x0))), (1, (.dat 22 (.lst x1))), (12, (.dat 3 (.int x2))), (13, (.dat 3 (.int x3)))], [], 0⟩)) := fun J => by kernel_rfl
  exact (h jn).trans (by
    simp only [jn_eq, law12_Same_l2_eq m]
    rfl)
theorem law12_Same_j0_eq (m : Nat) (x0 : List Dt) (x1 : List Dt) : e7 jn m [1, 1] [] ⟨tsOf [(0, (.dat 22 (.lst x0))), (1, (.dat 22 (.lst x1)))], [], 0⟩ = law12_Same_j0 m x0 x1 := by
  have h : ∀ J, e7 J m [1, 1] [] ⟨tsOf [(0, (.dat 22 (.lst x0))), (1, (.dat 22 (.lst x1)))], [], 0⟩ =
    (J 0 4 0 ⟨tsOf [(0, (.dat 22 (.lst x0))), (1, (.dat 22 (.lst x1))), (12, (.dat 3 (.int (((List.length x0) : Nat) : Int)))), (13, (.dat 3 (.int (0 : Int))))], [], 0⟩ (e7 J m [1, 1, 0, 1] [] ⟨tsOf [(0, (.dat 22 (.lst x0))), (1, (.dat 22 (.lst x1))), (12, (.dat 3 (.int (((List.length x0) : Nat) : Int)))), (13, (.dat 3 (.int (0 : Int))))], [], 0⟩)) := fun J => by kernel_rfl
  exact (h jn).trans (by
    simp only [jn_eq, law12_Same_j1_eq m]
    rfl)
theorem law12_Same_eq (m : Nat) (a0 : List Dt) (a1 : List Dt) : e7 jn m [] [] ⟨[(.dat 22 (.lst a0)), (.dat 22 (.lst a1))], [], 0⟩ = law12_Same (m + 1) a0 a1 := by
  have h : ∀ J, e7 J m [] [] ⟨[(.dat 22 (.lst a0)), (.dat 22 (.lst a1))], [], 0⟩ =
    (bif ((((List.length a0) : Nat) : Int) != (((List.length a1) : Nat) : Int)) then
      some Bool.false
    else
      (J 0 3 0 ⟨tsOf [(0, (.dat 22 (.lst a0))), (1, (.dat 22 (.lst a1)))], [], 0⟩ (e7 J m [1, 1] [] ⟨tsOf [(0, (.dat 22 (.lst a0))), (1, (.dat 22 (.lst a1)))], [], 0⟩))) := fun J => by kernel_rfl
  refine (h jn).trans ?_
  simp only [jn_eq, law12_Same_j0_eq m]
  rfl
noncomputable def d11 (q : Res) : Option (Bool) := match q with
  | (.dat T0 x0, []) => bif Nat.beq T0 4 then some x0.toBool else none
  | _ => none
theorem d11_sim {b : Res} {r : Bool} (h : d11 b = some r) : Sim Tryd.prog b ((.dat 4 (.bool r)), []) := by
  unfold d11 at h
  split at h
  · obtain ⟨hc, h2⟩ := bif_some h
    cases h2
    have e0 := beq_eq hc
    subst e0
    exact Sim.of (.of (.dat (.bool Tryd.underlying4)) rfl rfl) .nil
  · cases h
noncomputable def e11 (J : Nat → Nat → Nat → St → Option (Bool) → Option (Bool)) (m : Nat) (p ms : List Nat) (σ : St) := evAt Tryd.prog env (ct m) J (m + 1) 31 26 Tryd.f31 d11 p ms σ
noncomputable def l11 (J : Nat → Nat → Nat → St → Option (Bool) → Option (Bool)) (m : Nat) (p ms : List Nat) (M : Nat) (σ : St) := loopAt Tryd.prog env (ct m) J (m + 1) 31 26 Tryd.f31 d11 p ms M σ
theorem ref12_same_j4_eq (m : Nat) (M2 : Nat) (rec2 : List Dt → List Dt → Int → Option (Bool)) (h2 : ∀ (x0 : List Dt) (x1 : List Dt) (x2 : Int), l11 jn m [1, 1, 0, 1, 0] [] M2 ⟨tsOf [(0, (.dat 45 (.lst x0))), (1, (.dat 45 (.lst x1))), (5, (.dat 3 (.int x2)))], [], 0⟩ = rec2 x0 x1 x2) (x0 : List Dt) (x1 : List Dt) (x2 : Int) : e11 jn m [1, 1, 0, 1, 0, 0, 1, 1] [M2] ⟨tsOf [(0, (.dat 45 (.lst x0))), (1, (.dat 45 (.lst x1))), (5, (.dat 3 (.int x2)))], [], 0⟩ = ref12_same_j4 m rec2 x0 x1 x2 := by
  have h : ∀ J, e11 J m [1, 1, 0, 1, 0, 0, 1, 1] [M2] ⟨tsOf [(0, (.dat 45 (.lst x0))), (1, (.dat 45 (.lst x1))), (5, (.dat 3 (.int x2)))], [], 0⟩ =
    (J 1 4 M2 ⟨tsOf [(0, (.dat 45 (.lst x0))), (1, (.dat 45 (.lst x1))), (5, (.dat 3 (.int (IntKind.wrap IntKind.i64 (x2 + (1 : Int))))))], [], 0⟩ (l11 J m [1, 1, 0, 1, 0] [] M2 ⟨tsOf [(0, (.dat 45 (.lst x0))), (1, (.dat 45 (.lst x1))), (5, (.dat 3 (.int (IntKind.wrap IntKind.i64 (x2 + (1 : Int))))))], [], 0⟩)) := fun J => by kernel_rfl
  exact (h jn).trans (by
    simp only [jn_eq, h2]
    rfl)
theorem ref12_same_j3_eq (m : Nat) (M2 : Nat) (rec2 : List Dt → List Dt → Int → Option (Bool)) (h2 : ∀ (x0 : List Dt) (x1 : List Dt) (x2 : Int), l11 jn m [1, 1, 0, 1, 0] [] M2 ⟨tsOf [(0, (.dat 45 (.lst x0))), (1, (.dat 45 (.lst x1))), (5, (.dat 3 (.int x2)))], [], 0⟩ = rec2 x0 x1 x2) (x0 : List Dt) (x1 : List Dt) (x2 : Int) : e11 jn m [1, 1, 0, 1, 0, 0, 1] [M2] ⟨tsOf [(0, (.dat 45 (.lst x0))), (1, (.dat 45 (.lst x1))), (5, (.dat 3 (.int x2)))], [], 0⟩ = ref12_same_j3 m rec2 x0 x1 x2 := by
  have h : ∀ J, e11 J m [1, 1, 0, 1, 0, 0, 1] [M2] ⟨tsOf [(0, (.dat 45 (.lst x0))), (1, (.dat 45 (.lst x1))), (5, (.dat 3 (.int x2)))], [], 0⟩ =
    ((idx x0 x2).bind fun v0 =>
      ((idx x1 x2).bind fun v1 =>
        (bif (Bool.not ((ByteArray.toList (Dt.toStr v0)) == (ByteArray.toList (Dt.toStr v1)))) then
          some Bool.false
        else
          (J 0 5 0 ⟨tsOf [(0, (.dat 45 (.lst x0))), (1, (.dat 45 (.lst x1))), (5, (.dat 3 (.int x2)))], [], 0⟩ (e11 J m [1, 1, 0, 1, 0, 0, 1, 1] [M2] ⟨tsOf [(0, (.dat 45 (.lst x0))), (1, (.dat 45 (.lst x1))), (5, (.dat 3 (.int x2)))], [], 0⟩))))) := fun J => by kernel_rfl
  exact (h jn).trans (by
    simp only [jn_eq, ref12_same_j4_eq m M2 rec2 h2]
    rfl)
theorem ref12_same_j5_eq (m : Nat) : e11 jn m [1, 1, 1] [] ⟨tsOf [], [], 0⟩ = ref12_same_j5 m := by
  have h : ∀ J, e11 J m [1, 1, 1] [] ⟨tsOf [], [], 0⟩ =
    some Bool.true := fun J => by kernel_rfl
  exact (h jn).trans (rfl)
theorem ref12_same_l2_eq (m : Nat) : ∀ (M2 : Nat) (x0 : List Dt) (x1 : List Dt) (x2 : Int), l11 jn m [1, 1, 0, 1, 0] [] M2 ⟨tsOf [(0, (.dat 45 (.lst x0))), (1, (.dat 45 (.lst x1))), (5, (.dat 3 (.int x2)))], [], 0⟩ = ref12_same_l2 m M2 x0 x1 x2
  | 0, _, _, _ => rfl
  | M2 + 1, x0, x1, x2 => by
    have h : ∀ J, l11 J m [1, 1, 0, 1, 0] [] (M2 + 1) ⟨tsOf [(0, (.dat 45 (.lst x0))), (1, (.dat 45 (.lst x1))), (5, (.dat 3 (.int x2)))], [], 0⟩ =
    (bif (decide (x2 < (((List.length x0) : Nat) : Int))) then
      (J 0 6 0 ⟨tsOf [(0, (.dat 45 (.lst x0))), (1, (.dat 45 (.lst x1))), (5, (.dat 3 (.int x2)))], [], 0⟩ (e11 J m [1, 1, 0, 1, 0, 0, 1] [M2] ⟨tsOf [(0, (.dat 45 (.lst x0))), (1, (.dat 45 (.lst x1))), (5, (.dat 3 (.int x2)))], [], 0⟩))
    else
      (J 0 8 0 ⟨tsOf [], [], 0⟩ (e11 J m [1, 1, 1] [] ⟨tsOf [], [], 0⟩))) := fun J => by kernel_rfl
    refine (h jn).trans ?_
    simp only [jn_eq, ref12_same_j3_eq m M2 (ref12_same_l2 m M2) (fun x0 x1 x2 => ref12_same_l2_eq m M2 x0 x1 x2), ref12_same_j5_eq m]
    rfl
theorem ref12_same_j1_eq (m : Nat) (x0 : List Dt) (x1 : List Dt) (x2 : Int) : e11 jn m [1, 1, 0, 1] [] ⟨tsOf [(0, (.dat 45 (.lst x0))), (1, (.dat 45 (.lst x1))), (5, (.dat 3 (.int x2)))], [], 0⟩ = ref12_same_j1 m x0 x1 x2 := by
  have h : ∀ J, e11 J m [1, 1, 0, 1] [] ⟨tsOf [(0, (.dat 45 (.lst x0))), (1, (.dat 45 (.lst x1))), (5, (.dat 3 (.int x2)))], [], 0⟩ =
    (J 1 4 (Nat.succ m) ⟨tsOf [(0, (.dat 45 (.lst x0))), (1, (.dat 45 (.lst x1))), (5, (.dat 3 (.int x2)))], [], 0⟩ (l11 J m [1, 1, 0, 1, 0] [] (Nat.succ m) ⟨tsOf [(0, (.dat 45 (.lst x0))), (1, (.dat 45 (.lst x1))), (5, (.dat 3 (.int x2)))], [], 0⟩)) := fun J => by kernel_rfl
  exact (h jn).trans (by
    simp only [jn_eq, ref12_same_l2_eq m]
    rfl)
theorem ref12_same_j0_eq (m : Nat) (x0 : List Dt) (x1 : List Dt) : e11 jn m [1, 1] [] ⟨tsOf [(0, (.dat 45 (.lst x0))), (1, (.dat 45 (.lst x1)))], [], 0⟩ = ref12_same_j0 m x0 x1 := by
  have h : ∀ J, e11 J m [1, 1] [] ⟨tsOf [(0, (.dat 45 (.lst x0))), (1, (.dat 45 (.lst x1)))], [], 0⟩ =
    (J 0 4 0 ⟨tsOf [(0, (.dat 45 (.lst x0))), (1, (.dat 45 (.lst x1))), (5, (.dat 3 (.int (0 : Int))))], [], 0⟩ (e11 J m [1, 1, 0, 1] [] ⟨tsOf [(0, (.dat 45 (.lst x0))), (1, (.dat 45 (.lst x1))), (5, (.dat 3 (.int (0 : Int))))], [], 0⟩)) := fun J => by kernel_rfl
  exact (h jn).trans (by
    simp only [jn_eq, ref12_same_j1_eq m]
    rfl)
theorem ref12_same_eq (m : Nat) (a0 : List Dt) (a1 : List Dt) : e11 jn m [] [] ⟨[(.dat 45 (.lst a0)), (.dat 45 (.lst a1))], [], 0⟩ = ref12_same (m + 1) a0 a1 := by
  have h : ∀ J, e11 J m [] [] ⟨[(.dat 45 (.lst a0)), (.dat 45 (.lst a1))], [], 0⟩ =
    (bif ((((List.length a0) : Nat) : Int) != (((List.length a1) : Nat) : Int)) then
      some Bool.false
    else
      (J 0 3 0 ⟨tsOf [(0, (.dat 45 (.lst a0))), (1, (.dat 45 (.lst a1)))], [], 0⟩ (e11 J m [1, 1] [] ⟨tsOf [(0, (.dat 45 (.lst a0))), (1, (.dat 45 (.lst a1)))], [], 0⟩))) := fun J => by kernel_rfl
  refine (h jn).trans ?_
  simp only [jn_eq, ref12_same_j0_eq m]
  rfl
noncomputable def d16 (q : Res) : Option (Bool) := match q with
  | (.dat T0 x0, []) => bif Nat.beq T0 4 then some x0.toBool else none
  | _ => none
theorem d16_sim {b : Res} {r : Bool} (h : d16 b = some r) : Sim Tryd.prog b ((.dat 4 (.bool r)), []) := by
  unfold d16 at h
  split at h
  · obtain ⟨hc, h2⟩ := bif_some h
    cases h2
    have e0 := beq_eq hc
    subst e0
    exact Sim.of (.of (.dat (.bool Tryd.underlying4)) rfl rfl) .nil
  · cases h
noncomputable def e16 (J : Nat → Nat → Nat → St → Option (Bool) → Option (Bool)) (m : Nat) (p ms : List Nat) (σ : St) := evAt Tryd.prog env (ct m) J (m + 1) 43 39 Tryd.f43 d16 p ms σ
noncomputable def l16 (J : Nat → Nat → Nat → St → Option (Bool) → Option (Bool)) (m : Nat) (p ms : List Nat) (M : Nat) (σ : St) := loopAt Tryd.prog env (ct m) J (m + 1) 43 39 Tryd.f43 d16 p ms M σ
theorem path_notName_j4_eq (m : Nat) (M2 : Nat) (rec2 : ByteArray → Int → Int → Option (Bool)) (h2 : ∀ (x0 : ByteArray) (x1 : Int) (x2 : Int), l16 jn m [1, 1, 0, 1, 0] [] M2 ⟨tsOf [(0, (.dat 9 (.str x0))), (18, (.dat 3 (.int x1))), (19, (.dat 3 (.int x2)))], [], 0⟩ = rec2 x0 x1 x2) (x0 : ByteArray) (x1 : Int) (x2 : Int) : e16 jn m [1, 1, 0, 1, 0, 0, 1, 1, 1] [M2] ⟨tsOf [(0, (.dat 9 (.str x0))), (18, (.dat 3 (.int x1))), (19, (.dat 3 (.int x2)))], [], 0⟩ = path_notName_j4 m rec2 x0 x1 x2 := by
  have h : ∀ J, e16 J m [1, 1, 0, 1, 0, 0, 1, 1, 1] [M2] ⟨tsOf [(0, (.dat 9 (.str x0))), (18, (.dat 3 (.int x1))), (19, (.dat 3 (.int x2)))], [], 0⟩ =
    (J 1 4 M2 ⟨tsOf [(0, (.dat 9 (.str x0))), (18, (.dat 3 (.int x1))), (19, (.dat 3 (.int (IntKind.wrap IntKind.i64 (x2 + (1 : Int))))))], [], 0⟩ (l16 J m [1, 1, 0, 1, 0] [] M2 ⟨tsOf [(0, (.dat 9 (.str x0))), (18, (.dat 3 (.int x1))), (19, (.dat 3 (.int (IntKind.wrap IntKind.i64 (x2 + (1 : Int))))))], [], 0⟩)) := fun J => by kernel_rfl
  exact (h jn).trans (by
    simp only [jn_eq, h2]
    rfl)
theorem path_notName_j3_eq (m : Nat) (M2 : Nat) (rec2 : ByteArray → Int → Int → Option (Bool)) (h2 : ∀ (x0 : ByteArray) (x1 : Int) (x2 : Int), l16 jn m [1, 1, 0, 1, 0] [] M2 ⟨tsOf [(0, (.dat 9 (.str x0))), (18, (.dat 3 (.int x1))), (19, (.dat 3 (.int x2)))], [], 0⟩ = rec2 x0 x1 x2) (x0 : ByteArray) (x1 : Int) (x2 : Int) : e16 jn m [1, 1, 0, 1, 0, 0, 1, 1] [M2] ⟨tsOf [(0, (.dat 9 (.str x0))), (18, (.dat 3 (.int x1))), (19, (.dat 3 (.int x2)))], [], 0⟩ = path_notName_j3 m rec2 x0 x1 x2 := by
  have h : ∀ J, e16 J m [1, 1, 0, 1, 0, 0, 1, 1] [M2] ⟨tsOf [(0, (.dat 9 (.str x0))), (18, (.dat 3 (.int x1))), (19, (.dat 3 (.int x2)))], [], 0⟩ =
    ((idxS x0 x2).bind fun v1 =>
      (bif (decide (v1 < (33 : Int))) then
        some Bool.true
      else
        ((idxS x0 x2).bind fun v2 =>
          (bif (decide ((126 : Int) < v2)) then
            some Bool.true
          else
            ((idxS x0 x2).bind fun v3 =>
              (bif (v3 == (46 : Int)) then
                some Bool.true
              else
                (J 0 8 0 ⟨tsOf [(0, (.dat 9 (.str x0))), (18, (.dat 3 (.int x1))), (19, (.dat 3 (.int x2)))], [], 0⟩ (e16 J m [1, 1, 0, 1, 0, 0, 1, 1, 1] [M2] ⟨tsOf [(0, (.dat 9 (.str x0))), (18, (.dat 3 (.int x1))), (19, (.dat 3 (.int x2)))], [], 0⟩)))))))) := fun J => by kernel_rfl
  exact (h jn).trans (by
    simp only [jn_eq, path_notName_j4_eq m M2 rec2 h2]
    rfl)
theorem path_notName_j5_eq (m : Nat) : e16 jn m [1, 1, 1] [] ⟨tsOf [], [], 0⟩ = path_notName_j5 m := by
  have h : ∀ J, e16 J m [1, 1, 1] [] ⟨tsOf [], [], 0⟩ =
    some Bool.false := fun J => by kernel_rfl
  exact (h jn).trans (rfl)
theorem path_notName_l2_eq (m : Nat) : ∀ (M2 : Nat) (x0 : ByteArray) (x1 : Int) (x2 : Int), l16 jn m [1, 1, 0, 1, 0] [] M2 ⟨tsOf [(0, (.dat 9 (.str x0))), (18, (.dat 3 (.int x1))), (19, (.dat 3 (.int x2)))], [], 0⟩ = path_notName_l2 m M2 x0 x1 x2
  | 0, _, _, _ => rfl
  | M2 + 1, x0, x1, x2 => by
    have h : ∀ J, l16 J m [1, 1, 0, 1, 0] [] (M2 + 1) ⟨tsOf [(0, (.dat 9 (.str x0))), (18, (.dat 3 (.int x1))), (19, (.dat 3 (.int x2)))], [], 0⟩ =
    (bif (decide (x2 < x1)) then
      (J 0 5 0 ⟨tsOf [(0, (.dat 9 (.str x0))), (18, (.dat 3 (.int x1))), (19, (.dat 3 (.int x2)))], [], 0⟩ (e16 J m [1, 1, 0, 1, 0, 0, 1, 1] [M2] ⟨tsOf [(0, (.dat 9 (.str x0))), (18, (.dat 3 (.int x1))), (19, (.dat 3 (.int x2)))], [], 0⟩))
    else
      (J 0 9 0 ⟨tsOf [], [], 0⟩ (e16 J m [1, 1, 1] [] ⟨tsOf [], [], 0⟩))) := fun J => by kernel_rfl
    refine (h jn).trans ?_
    simp only [jn_eq, path_notName_j3_eq m M2 (path_notName_l2 m M2) (fun x0 x1 x2 => path_notName_l2_eq m M2 x0 x1 x2), path_notName_j5_eq m]
    rfl
theorem path_notName_j1_eq (m : Nat) (x0 : ByteArray) (x1 : Int) (x2 : Int) : e16 jn m [1, 1, 0, 1] [] ⟨tsOf [(0, (.dat 9 (.str x0))), (18, (.dat 3 (.int x1))), (19, (.dat 3 (.int x2)))], [], 0⟩ = path_notName_j1 m x0 x1 x2 := by
  have h : ∀ J, e16 J m [1, 1, 0, 1] [] ⟨tsOf [(0, (.dat 9 (.str x0))), (18, (.dat 3 (.int x1))), (19, (.dat 3 (.int x2)))], [], 0⟩ =
    (J 1 4 (Nat.succ m) ⟨tsOf [(0, (.dat 9 (.str x0))), (18, (.dat 3 (.int x1))), (19, (.dat 3 (.int x2)))], [], 0⟩ (l16 J m [1, 1, 0, 1, 0] [] (Nat.succ m) ⟨tsOf [(0, (.dat 9 (.str x0))), (18, (.dat 3 (.int x1))), (19, (.dat 3 (.int x2)))], [], 0⟩)) := fun J => by kernel_rfl
  exact (h jn).trans (by
    simp only [jn_eq, path_notName_l2_eq m]
    rfl)
theorem path_notName_j0_eq (m : Nat) (x0 : ByteArray) : e16 jn m [1, 1] [] ⟨tsOf [(0, (.dat 9 (.str x0)))], [], 0⟩ = path_notName_j0 m x0 := by
  have h : ∀ J, e16 J m [1, 1] [] ⟨tsOf [(0, (.dat 9 (.str x0)))], [], 0⟩ =
    (J 0 4 0 ⟨tsOf [(0, (.dat 9 (.str x0))), (18, (.dat 3 (.int (((ByteArray.size x0) : Nat) : Int)))), (19, (.dat 3 (.int (0 : Int))))], [], 0⟩ (e16 J m [1, 1, 0, 1] [] ⟨tsOf [(0, (.dat 9 (.str x0))), (18, (.dat 3 (.int (((ByteArray.size x0) : Nat) : Int)))), (19, (.dat 3 (.int (0 : Int))))], [], 0⟩)) := fun J => by kernel_rfl
  exact (h jn).trans (by
    simp only [jn_eq, path_notName_j1_eq m]
    rfl)
theorem path_notName_eq (m : Nat) (a0 : ByteArray) : e16 jn m [] [] ⟨[(.dat 9 (.str a0))], [], 0⟩ = path_notName (m + 1) a0 := by
  have h : ∀ J, e16 J m [] [] ⟨[(.dat 9 (.str a0))], [], 0⟩ =
    (bif (decide ((((ByteArray.size a0) : Nat) : Int) < (1 : Int))) then
      some Bool.true
    else
      (bif (decide ((32 : Int) < (((ByteArray.size a0) : Nat) : Int))) then
        some Bool.true
      else
        ((idxS a0 (0 : Int)).bind fun v0 =>
          (bif (v0 == (36 : Int)) then
            some Bool.true
          else
            (J 0 3 0 ⟨tsOf [(0, (.dat 9 (.str a0)))], [], 0⟩ (e16 J m [1, 1] [] ⟨tsOf [(0, (.dat 9 (.str a0)))], [], 0⟩)))))) := fun J => by kernel_rfl
  refine (h jn).trans ?_
  simp only [jn_eq, path_notName_j0_eq m]
  rfl
noncomputable def d15 (q : Res) : Option (Int) := match q with
  | (.dat T0 x0, []) => bif Nat.beq T0 3 then some x0.toInt else none
  | _ => none
theorem d15_sim {b : Res} {r : Int} (h : d15 b = some r) : Sim Tryd.prog b ((.dat 3 (.int r)), []) := by
  unfold d15 at h
  split at h
  · obtain ⟨hc, h2⟩ := bif_some h
    cases h2
    have e0 := beq_eq hc
    subst e0
    exact Sim.of (.of (.dat (.int Tryd.underlying3)) rfl rfl) .nil
  · cases h
noncomputable def e15 (J : Nat → Nat → Nat → St → Option (Int) → Option (Int)) (m : Nat) (p ms : List Nat) (σ : St) := evAt Tryd.prog env (ct m) J (m + 1) 58 19 Tryd.f58 d15 p ms σ
noncomputable def l15 (J : Nat → Nat → Nat → St → Option (Int) → Option (Int)) (m : Nat) (p ms : List Nat) (M : Nat) (σ : St) := loopAt Tryd.prog env (ct m) J (m + 1) 58 19 Tryd.f58 d15 p ms M σ
theorem slices_IndexFunc_i15_j3_eq (m : Nat) (M1 : Nat) (rec1 : List Dt → Int → Int → Option (Int)) (h1 : ∀ (x0 : List Dt) (x1 : Int) (x2 : Int), l15 jn m [1, 0, 1, 0] [] M1 ⟨tsOf [(0, (.dat 45 (.lst x0))), (1, (.fn 43 [])), (7, (.dat 3 (.int x1))), (8, (.dat 3 (.int x2)))], [], 0⟩ = rec1 x0 x1 x2) (x0 : List Dt) (x1 : Int) (x2 : Int) : e15 jn m [1, 0, 1, 0, 0, 1, 1, 1] [M1] ⟨tsOf [(0, (.dat 45 (.lst x0))), (1, (.fn 43 [])), (7, (.dat 3 (.int x1))), (8, (.dat 3 (.int x2)))], [], 0⟩ = slices_IndexFunc_i15_j3 m rec1 x0 x1 x2 := by
  have h : ∀ J, e15 J m [1, 0, 1, 0, 0, 1, 1, 1] [M1] ⟨tsOf [(0, (.dat 45 (.lst x0))), (1, (.fn 43 [])), (7, (.dat 3 (.int x1))), (8, (.dat 3 (.int x2)))], [], 0⟩ =
    (J 1 2 M1 ⟨tsOf [(0, (.dat 45 (.lst x0))), (1, (.fn 43 [])), (7, (.dat 3 (.int x1))), (8, (.dat 3 (.int (IntKind.wrap IntKind.i64 (x2 + (1 : Int))))))], [], 0⟩ (l15 J m [1, 0, 1, 0] [] M1 ⟨tsOf [(0, (.dat 45 (.lst x0))), (1, (.fn 43 [])), (7, (.dat 3 (.int x1))), (8, (.dat 3 (.int (IntKind.wrap IntKind.i64 (x2 + (1 : Int))))))], [], 0⟩)) := fun J => by kernel_rfl
  exact (h jn).trans (by
    simp only [jn_eq, h1]
    rfl)
theorem slices_IndexFunc_i15_j2_eq (m : Nat) (M1 : Nat) (rec1 : List Dt → Int → Int → Option (Int)) (h1 : ∀ (x0 : List Dt) (x1 : Int) (x2 : Int), l15 jn m [1, 0, 1, 0] [] M1 ⟨tsOf [(0, (.dat 45 (.lst x0))), (1, (.fn 43 [])), (7, (.dat 3 (.int x1))), (8, (.dat 3 (.int x2)))], [], 0⟩ = rec1 x0 x1 x2) (x0 : List Dt) (x1 : Int) (x2 : Int) : e15 jn m [1, 0, 1, 0, 0, 1, 1] [M1] ⟨tsOf [(0, (.dat 45 (.lst x0))), (1, (.fn 43 [])), (7, (.dat 3 (.int x1))), (8, (.dat 3 (.int x2)))], [], 0⟩ = slices_IndexFunc_i15_j2 m rec1 x0 x1 x2 := by
  have h : ∀ J, e15 J m [1, 0, 1, 0, 0, 1, 1] [M1] ⟨tsOf [(0, (.dat 45 (.lst x0))), (1, (.fn 43 [])), (7, (.dat 3 (.int x1))), (8, (.dat 3 (.int x2)))], [], 0⟩ =
    ((idx x0 x2).bind fun v0 =>
      ((path_notName m (Dt.toStr v0)).bind fun r1 =>
        (bif r1 then
          some x2
        else
          (J 0 6 0 ⟨tsOf [(0, (.dat 45 (.lst x0))), (1, (.fn 43 [])), (7, (.dat 3 (.int x1))), (8, (.dat 3 (.int x2)))], [], 0⟩ (e15 J m [1, 0, 1, 0, 0, 1, 1, 1] [M1] ⟨tsOf [(0, (.dat 45 (.lst x0))), (1, (.fn 43 [])), (7, (.dat 3 (.int x1))), (8, (.dat 3 (.int x2)))], [], 0⟩))))) := fun J => by kernel_rfl
  exact (h jn).trans (by
    simp only [jn_eq, slices_IndexFunc_i15_j3_eq m M1 rec1 h1]
    rfl)
theorem slices_IndexFunc_i15_j4_eq (m : Nat) : e15 jn m [1, 1] [] ⟨tsOf [], [], 0⟩ = slices_IndexFunc_i15_j4 m := by
  have h : ∀ J, e15 J m [1, 1] [] ⟨tsOf [], [], 0⟩ =
    some (-1 : Int) := fun J => by kernel_rfl
  exact (h jn).trans (rfl)
theorem slices_IndexFunc_i15_l1_eq (m : Nat) : ∀ (M1 : Nat) (x0 : List Dt) (x1 : Int) (x2 : Int), l15 jn m [1, 0, 1, 0] [] M1 ⟨tsOf [(0, (.dat 45 (.lst x0))), (1, (.fn 43 [])), (7, (.dat 3 (.int x1))), (8, (.dat 3 (.int x2)))], [], 0⟩ = slices_IndexFunc_i15_l1 m M1 x0 x1 x2
  | 0, _, _, _ => rfl
  | M1 + 1, x0, x1, x2 => by
    have h : ∀ J, l15 J m [1, 0, 1, 0] [] (M1 + 1) ⟨tsOf [(0, (.dat 45 (.lst x0))), (1, (.fn 43 [])), (7, (.dat 3 (.int x1))), (8, (.dat 3 (.int x2)))], [], 0⟩ =
    (bif (decide (x2 < x1)) then
      (J 0 3 0 ⟨tsOf [(0, (.dat 45 (.lst x0))), (1, (.fn 43 [])), (7, (.dat 3 (.int x1))), (8, (.dat 3 (.int x2)))], [], 0⟩ (e15 J m [1, 0, 1, 0, 0, 1, 1] [M1] ⟨tsOf [(0, (.dat 45 (.lst x0))), (1, (.fn 43 [])), (7, (.dat 3 (.int x1))), (8, (.dat 3 (.int x2)))], [], 0⟩))
    else
      (J 0 7 0 ⟨tsOf [], [], 0⟩ (e15 J m [1, 1] [] ⟨tsOf [], [], 0⟩))) := fun J => by kernel_rfl
    refine (h jn).trans ?_
    simp only [jn_eq, slices_IndexFunc_i15_j2_eq m M1 (slices_IndexFunc_i15_l1 m M1) (fun x0 x1 x2 => slices_IndexFunc_i15_l1_eq m M1 x0 x1 x2), slices_IndexFunc_i15_j4_eq m]
    rfl
theorem slices_IndexFunc_i15_j0_eq (m : Nat) (x0 : List Dt) (x1 : Int) (x2 : Int) : e15 jn m [1, 0, 1] [] ⟨tsOf [(0, (.dat 45 (.lst x0))), (1, (.fn 43 [])), (7, (.dat 3 (.int x1))), (8, (.dat 3 (.int x2)))], [], 0⟩ = slices_IndexFunc_i15_j0 m x0 x1 x2 := by
  have h : ∀ J, e15 J m [1, 0, 1] [] ⟨tsOf [(0, (.dat 45 (.lst x0))), (1, (.fn 43 [])), (7, (.dat 3 (.int x1))), (8, (.dat 3 (.int x2)))], [], 0⟩ =
    (J 1 2 (Nat.succ m) ⟨tsOf [(0, (.dat 45 (.lst x0))), (1, (.fn 43 [])), (7, (.dat 3 (.int x1))), (8, (.dat 3 (.int x2)))], [], 0⟩ (l15 J m [1, 0, 1, 0] [] (Nat.succ m) ⟨tsOf [(0, (.dat 45 (.lst x0))), (1, (.fn 43 [])), (7, (.dat 3 (.int x1))), (8, (.dat 3 (.int x2)))], [], 0⟩)) := fun J => by kernel_rfl
  exact (h jn).trans (by
    simp only [jn_eq, slices_IndexFunc_i15_l1_eq m]
    rfl)
theorem slices_IndexFunc_i15_eq (m : Nat) (a0 : List Dt) : e15 jn m [] [] ⟨[(.dat 45 (.lst a0)), (.fn 43 [])], [], 0⟩ = slices_IndexFunc_i15 (m + 1) a0 := by
  have h : ∀ J, e15 J m [] [] ⟨[(.dat 45 (.lst a0)), (.fn 43 [])], [], 0⟩ =
    (J 0 2 0 ⟨tsOf [(0, (.dat 45 (.lst a0))), (1, (.fn 43 [])), (7, (.dat 3 (.int (((List.length a0) : Nat) : Int)))), (8, (.dat 3 (.int (0 : Int))))], [], 0⟩ (e15 J m [1, 0, 1] [] ⟨tsOf [(0, (.dat 45 (.lst a0))), (1, (.fn 43 [])), (7, (.dat 3 (.int (((List.length a0) : Nat) : Int)))), (8, (.dat 3 (.int (0 : Int))))], [], 0⟩)) := fun J => by kernel_rfl
  refine (h jn).trans ?_
  simp only [jn_eq, slices_IndexFunc_i15_j0_eq m]
  rfl
noncomputable def d14 (q : Res) : Option (Bool) := match q with
  | (.dat T0 x0, []) => bif Nat.beq T0 4 then some x0.toBool else none
  | _ => none
theorem d14_sim {b : Res} {r : Bool} (h : d14 b = some r) : Sim Tryd.prog b ((.dat 4 (.bool r)), []) := by
  unfold d14 at h
  split at h
  · obtain ⟨hc, h2⟩ := bif_some h
    cases h2
    have e0 := beq_eq hc
    subst e0
    exact Sim.of (.of (.dat (.bool Tryd.underlying4)) rfl rfl) .nil
  · cases h
noncomputable def e14 (J : Nat → Nat → Nat → St → Option (Bool) → Option (Bool)) (m : Nat) (p ms : List Nat) (σ : St) := evAt Tryd.prog env (ct m) J (m + 1) 42 9 Tryd.f42 d14 p ms σ
noncomputable def l14 (J : Nat → Nat → Nat → St → Option (Bool) → Option (Bool)) (m : Nat) (p ms : List Nat) (M : Nat) (σ : St) := loopAt Tryd.prog env (ct m) J (m + 1) 42 9 Tryd.f42 d14 p ms M σ
theorem slices_ContainsFunc_i14_eq (m : Nat) (a0 : List Dt) : e14 jn m [] [] ⟨[(.dat 45 (.lst a0)), (.fn 43 [])], [], 0⟩ = slices_ContainsFunc_i14 (m + 1) a0 := by
  have h : ∀ J, e14 J m [] [] ⟨[(.dat 45 (.lst a0)), (.fn 43 [])], [], 0⟩ =
    ((slices_IndexFunc_i15 m a0).bind fun r0 =>
      some (decide ((0 : Int) ≤ r0))) := fun J => by kernel_rfl
  refine (h jn).trans ?_
  
  rfl
noncomputable def d8 (q : Res) : Option (Bool) := match q with
  | (.dat T0 x0, []) => bif Nat.beq T0 4 then some x0.toBool else none
  | _ => none
theorem d8_sim {b : Res} {r : Bool} (h : d8 b = some r) : Sim Tryd.prog b ((.dat 4 (.bool r)), []) := by
  unfold d8 at h
  split at h
  · obtain ⟨hc, h2⟩ := bif_some h
    cases h2
    have e0 := beq_eq hc
    subst e0
    exact Sim.of (.of (.dat (.bool Tryd.underlying4)) rfl rfl) .nil
  · cases h
noncomputable def e8 (J : Nat → Nat → Nat → St → Option (Bool) → Option (Bool)) (m : Nat) (p ms : List Nat) (σ : St) := evAt Tryd.prog env (ct m) J (m + 1) 28 16 Tryd.f28 d8 p ms σ
noncomputable def l8 (J : Nat → Nat → Nat → St → Option (Bool) → Option (Bool)) (m : Nat) (p ms : List Nat) (M : Nat) (σ : St) := loopAt Tryd.prog env (ct m) J (m + 1) 28 16 Tryd.f28 d8 p ms M σ
theorem path_Valid_eq (m : Nat) (a0 : List Dt) : e8 jn m [] [] ⟨[(.dat 45 (.lst a0))], [], 0⟩ = path_Valid (m + 1) a0 := by
  have h : ∀ J, e8 J m [] [] ⟨[(.dat 45 (.lst a0))], [], 0⟩ =
    (bif (decide ((1 : Int) ≤ (((List.length a0) : Nat) : Int))) then
      (bif (decide ((((List.length a0) : Nat) : Int) ≤ (16 : Int))) then
        ((slices_ContainsFunc_i14 m a0).bind fun r0 =>
          some (Bool.not r0))
      else
        some Bool.false)
    else
      some Bool.false) := fun J => by kernel_rfl
  refine (h jn).trans ?_
  
  rfl
noncomputable def d2 (q : Res) : Option (Int) := match q with
  | (.dat T0 x0, []) => bif Nat.beq T0 23 then some x0.toInt else none
  | _ => none
theorem d2_sim {b : Res} {r : Int} (h : d2 b = some r) : Sim Tryd.prog b ((.dat 23 (.int r)), []) := by
  unfold d2 at h
  split at h
  · obtain ⟨hc, h2⟩ := bif_some h
    cases h2
    have e0 := beq_eq hc
    subst e0
    exact Sim.of (.of (.dat (.int Tryd.underlying23)) rfl rfl) .nil
  · cases h
noncomputable def e2 (J : Nat → Nat → Nat → St → Option (Int) → Option (Int)) (m : Nat) (p ms : List Nat) (σ : St) := evAt Tryd.prog env (ct m) J (m + 1) 10 36 Tryd.f10 d2 p ms σ
noncomputable def l2 (J : Nat → Nat → Nat → St → Option (Int) → Option (Int)) (m : Nat) (p ms : List Nat) (M : Nat) (σ : St) := loopAt Tryd.prog env (ct m) J (m + 1) 10 36 Tryd.f10 d2 p ms M σ
theorem order_Valid_j8_eq (m : Nat) (M2 : Nat) (rec2 : List Dt → List Dt → Int → Int → Option (Int)) (h2 : ∀ (x0 : List Dt) (x1 : List Dt) (x2 : Int) (x3 : Int), l2 jn m [1, 1, 0, 1, 0] [] M2 ⟨tsOf [(0, (.dat 22 (.lst x0))), (10, (.dat 22 (.lst x1))), (11, (.dat 3 (.int x2))), (12, (.dat 3 (.int x3)))], [], 0⟩ = rec2 x0 x1 x2 x3) (M6 : Nat) (rec6 : List Dt → List Dt → Int → Int → List Dt → Int → Int → Dt → Option (Int)) (h6 : ∀ (x0 : List Dt) (x1 : List Dt) (x2 : Int) (x3 : Int) (x4 : List Dt) (x5 : Int) (x6 : Int) (x7 : Dt), l2 jn m [1, 1, 0, 1, 0, 0, 1, 1, 0, 0, 1, 1, 1, 0] [M2] M6 ⟨tsOf [(0, (.dat 22 (.lst x0))), (4, (.ptr 0 [] 0)), (10, (.dat 22 (.lst x1))), (11, (.dat 3 (.int x2))), (12, (.dat 3 (.int x3))), (23, (.dat 22 (.lst x4))), (24, (.dat 3 (.int x5))), (25, (.dat 3 (.int x6)))], [(.box 47 (.dat 47 x7))], 0⟩ = rec6 x0 x1 x2 x3 x4 x5 x6 x7) (x0 : List Dt) (x1 : List Dt) (x2 : Int) (x3 : Int) (x4 : List Dt) (x5 : Int) (x6 : Int) (x7 : Dt) : e2 jn m [1, 1, 0, 1, 0, 0, 1, 1, 0, 0, 1, 1, 1, 0, 0, 1, 1, 1] [M2, M6] ⟨tsOf [(0, (.dat 22 (.lst x0))), (4, (.ptr 0 [] 0)), (10, (.dat 22 (.lst x1))), (11, (.dat 3 (.int x2))), (12, (.dat 3 (.int x3))), (23, (.dat 22 (.lst x4))), (24, (.dat 3 (.int x5))), (25, (.dat 3 (.int x6)))], [(.box 47 (.dat 47 x7))], 0⟩ = order_Valid_j8 m rec2 rec6 x0 x1 x2 x3 x4 x5 x6 x7 := by
  have h : ∀ J, e2 J m [1, 1, 0, 1, 0, 0, 1, 1, 0, 0, 1, 1, 1, 0, 0, 1, 1, 1] [M2, M6] ⟨tsOf [(0, (.dat 22 (.lst x0))), (4, (.ptr 0 [] 0)), (10, (.dat 22 (.lst x1))), (11, (.dat 3 (.int x2))), (12, (.dat 3 (.int x3))), (23, (.dat 22 (.lst x4))), (24, (.dat 3 (.int x5))), (25, (.dat 3 (.int x6)))], [(.box 47 (.dat 47 x7))], 0⟩ =
    (J 1 9 M6 ⟨tsOf [(0, (.dat 22 (.lst x0))), (4, (.ptr 0 [] 0)), (10, (.dat 22 (.lst x1))), (11, (.dat 3 (.int x2))), (12, (.dat 3 (.int x3))), (23, (.dat 22 (.lst x4))), (24, (.dat 3 (.int x5))), (25, (.dat 3 (.int (IntKind.wrap IntKind.i64 (x6 + (1 : Int))))))], [(.box 47 (.dat 47 x7))], 0⟩ (l2 J m [1, 1, 0, 1, 0, 0, 1, 1, 0, 0, 1, 1, 1, 0] [M2] M6 ⟨tsOf [(0, (.dat 22 (.lst x0))), (4, (.ptr 0 [] 0)), (10, (.dat 22 (.lst x1))), (11, (.dat 3 (.int x2))), (12, (.dat 3 (.int x3))), (23, (.dat 22 (.lst x4))), (24, (.dat 3 (.int x5))), (25, (.dat 3 (.int (IntKind.wrap IntKind.i64 (x6 + (1 : Int))))))], [(.box 47 (.dat 47 x7))], 0⟩)) := fun J => by kernel_rfl
  exact (h jn).trans (by
    simp only [jn_eq, h6]
    rfl)
theorem order_Valid_j7_eq (m : Nat) (M2 : Nat) (rec2 : List Dt → List Dt → Int → Int → Option (Int)) (h2 : ∀ (x0 : List Dt) (x1 : List Dt) (x2 : Int) (x3 : Int), l2 jn m [1, 1, 0, 1, 0] [] M2 ⟨tsOf [(0, (.dat 22 (.lst x0))), (10, (.dat 22 (.lst x1))), (11, (.dat 3 (.int x2))), (12, (.dat 3 (.int x3)))], [], 0⟩ = rec2 x0 x1 x2 x3) (M6 : Nat) (rec6 : List Dt → List Dt → Int → Int → List Dt → Int → Int → Dt → Option (Int)) (h6 : ∀ (x0 : List Dt) (x1 : List Dt) (x2 : Int) (x3 : Int) (x4 : List Dt) (x5 : Int) (x6 : Int) (x7 : Dt), l2 jn m [1, 1, 0, 1, 0, 0, 1, 1, 0, 0, 1, 1, 1, 0] [M2] M6 ⟨tsOf [(0, (.dat 22 (.lst x0))), (4, (.ptr 0 [] 0)), (10, (.dat 22 (.lst x1))), (11, (.dat 3 (.int x2))), (12, (.dat 3 (.int x3))), (23, (.dat 22 (.lst x4))), (24, (.dat 3 (.int x5))), (25, (.dat 3 (.int x6)))], [(.box 47 (.dat 47 x7))], 0⟩ = rec6 x0 x1 x2 x3 x4 x5 x6 x7) (x0 : List Dt) (x1 : List Dt) (x2 : Int) (x3 : Int) (x4 : List Dt) (x5 : Int) (x6 : Int) (x7 : Dt) : e2 jn m [1, 1, 0, 1, 0, 0, 1, 1, 0, 0, 1, 1, 1, 0, 0, 1, 1] [M2, M6] ⟨tsOf [(0, (.dat 22 (.lst x0))), (4, (.ptr 0 [] 0)), (10, (.dat 22 (.lst x1))), (11, (.dat 3 (.int x2))), (12, (.dat 3 (.int x3))), (23, (.dat 22 (.lst x4))), (24, (.dat 3 (.int x5))), (25, (.dat 3 (.int x6)))], [(.box 47 (.dat 47 x7))], 0⟩ = order_Valid_j7 m rec2 rec6 x0 x1 x2 x3 x4 x5 x6 x7 := by
  have h : ∀ J, e2 J m [1, 1, 0, 1, 0, 0, 1, 1, 0, 0, 1, 1, 1, 0, 0, 1, 1] [M2, M6] ⟨tsOf [(0, (.dat 22 (.lst x0))), (4, (.ptr 0 [] 0)), (10, (.dat 22 (.lst x1))), (11, (.dat 3 (.int x2))), (12, (.dat 3 (.int x3))), (23, (.dat 22 (.lst x4))), (24, (.dat 3 (.int x5))), (25, (.dat 3 (.int x6)))], [(.box 47 (.dat 47 x7))], 0⟩ =
    ((idx x4 x6).bind fun v3 =>
      ((slices_Equal m (Dt.L v3 0) (Dt.L x7 0)).bind fun r4 =>
        (bif r4 then
          some (12 : Int)
        else
          (J 0 13 0 ⟨tsOf [(0, (.dat 22 (.lst x0))), (4, (.ptr 0 [] 0)), (10, (.dat 22 (.lst x1))), (11, (.dat 3 (.int x2))), (12, (.dat 3 (.int x3))), (23, (.dat 22 (.lst x4))), (24, (.dat 3 (.int x5))), (25, (.dat 3 (.int x6)))], [(.box 47 (.dat 47 x7))], 0⟩ (e2 J m [1, 1, 0, 1, 0, 0, 1, 1, 0, 0, 1, 1, 1, 0, 0, 1, 1, 1] [M2, M6] ⟨tsOf [(0, (.dat 22 (.lst x0))), (4, (.ptr 0 [] 0)), (10, (.dat 22 (.lst x1))), (11, (.dat 3 (.int x2))), (12, (.dat 3 (.int x3))), (23, (.dat 22 (.lst x4))), (24, (.dat 3 (.int x5))), (25, (.dat 3 (.int x6)))], [(.box 47 (.dat 47 x7))], 0⟩))))) := fun J => by kernel_rfl
  exact (h jn).trans (by
    simp only [jn_eq, order_Valid_j8_eq m M2 rec2 h2 M6 rec6 h6]
    rfl)
theorem order_Valid_j9_eq (m : Nat) (M2 : Nat) (rec2 : List Dt → List Dt → Int → Int → Option (Int)) (h2 : ∀ (x0 : List Dt) (x1 : List Dt) (x2 : Int) (x3 : Int), l2 jn m [1, 1, 0, 1, 0] [] M2 ⟨tsOf [(0, (.dat 22 (.lst x0))), (10, (.dat 22 (.lst x1))), (11, (.dat 3 (.int x2))), (12, (.dat 3 (.int x3)))], [], 0⟩ = rec2 x0 x1 x2 x3) (x0 : List Dt) (x1 : List Dt) (x2 : Int) (x3 : Int) : e2 jn m [1, 1, 0, 1, 0, 0, 1, 1, 1] [M2] ⟨tsOf [(0, (.dat 22 (.lst x0))), (10, (.dat 22 (.lst x1))), (11, (.dat 3 (.int x2))), (12, (.dat 3 (.int x3)))], [], 0⟩ = order_Valid_j9 m rec2 x0 x1 x2 x3 := by
  have h : ∀ J, e2 J m [1, 1, 0, 1, 0, 0, 1, 1, 1] [M2] ⟨tsOf [(0, (.dat 22 (.lst x0))), (10, (.dat 22 (.lst x1))), (11, (.dat 3 (.int x2))), (12, (.dat 3 (.int x3)))], [], 0⟩ =
    (J 1 4 M2 ⟨tsOf [(0, (.dat 22 (.lst x0))), (10, (.dat 22 (.lst x1))), (11, (.dat 3 (.int x2))), (12, (.dat 3 (.int (IntKind.wrap IntKind.i64 (x3 + (1 : Int))))))], [], 0⟩ (l2 J m [1, 1, 0, 1, 0] [] M2 ⟨tsOf [(0, (.dat 22 (.lst x0))), (10, (.dat 22 (.lst x1))), (11, (.dat 3 (.int x2))), (12, (.dat 3 (.int (IntKind.wrap IntKind.i64 (x3 + (1 : Int))))))], [], 0⟩)) := fun J => by kernel_rfl
  exact (h jn).trans (by
    simp only [jn_eq, h2]
    rfl)
theorem order_Valid_l6_eq (m : Nat) (M2 : Nat) (rec2 : List Dt → List Dt → Int → Int → Option (Int)) (h2 : ∀ (x0 : List Dt) (x1 : List Dt) (x2 : Int) (x3 : Int), l2 jn m [1, 1, 0, 1, 0] [] M2 ⟨tsOf [(0, (.dat 22 (.lst x0))), (10, (.dat 22 (.lst x1))), (11, (.dat 3 (.int x2))), (12, (.dat 3 (.int x3)))], [], 0⟩ = rec2 x0 x1 x2 x3) : ∀ (M6 : Nat) (x0 : List Dt) (x1 : List Dt) (x2 : Int) (x3 : Int) (x4 : List Dt) (x5 : Int) (x6 : Int) (x7 : Dt), l2 jn m [1, 1, 0, 1, 0, 0, 1, 1, 0, 0, 1, 1, 1, 0] [M2] M6 ⟨tsOf [(0, (.dat 22 (.lst x0))), (4, (.ptr 0 [] 0)), (10, (.dat 22 (.lst x1))), (11, (.dat 3 (.int x2))), (12, (.dat 3 (.int x3))), (23, (.dat 22 (.lst x4))), (24, (.dat 3 (.int x5))), (25, (.dat 3 (.int x6)))], [(.box 47 (.dat 47 x7))], 0⟩ = order_Valid_l6 m rec2 M6 x0 x1 x2 x3 x4 x5 x6 x7
  | 0, _, _, _, _, _, _, _, _ => rfl
  | M6 + 1, x0, x1, x2, x3, x4, x5, x6, x7 => by
    have h : ∀ J, l2 J m [1, 1, 0, 1, 0, 0, 1, 1, 0, 0, 1, 1, 1, 0] [M2] (M6 + 1) ⟨tsOf [(0, (.dat 22 (.lst x0))), (4, (.ptr 0 [] 0)), (10, (.dat 22 (.lst x1))), (11, (.dat 3 (.int x2))), (12, (.dat 3 (.int x3))), (23, (.dat 22 (.lst x4))), (24, (.dat 3 (.int x5))), (25, (.dat 3 (.int x6)))], [(.box 47 (.dat 47 x7))], 0⟩ =
    (bif (decide (x6 < x5)) then
      (J 0 10 0 ⟨tsOf [(0, (.dat 22 (.lst x0))), (4, (.ptr 0 [] 0)), (10, (.dat 22 (.lst x1))), (11, (.dat 3 (.int x2))), (12, (.dat 3 (.int x3))), (23, (.dat 22 (.lst x4))), (24, (.dat 3 (.int x5))), (25, (.dat 3 (.int x6)))], [(.box 47 (.dat 47 x7))], 0⟩ (e2 J m [1, 1, 0, 1, 0, 0, 1, 1, 0, 0, 1, 1, 1, 0, 0, 1, 1] [M2, M6] ⟨tsOf [(0, (.dat 22 (.lst x0))), (4, (.ptr 0 [] 0)), (10, (.dat 22 (.lst x1))), (11, (.dat 3 (.int x2))), (12, (.dat 3 (.int x3))), (23, (.dat 22 (.lst x4))), (24, (.dat 3 (.int x5))), (25, (.dat 3 (.int x6)))], [(.box 47 (.dat 47 x7))], 0⟩))
    else
      (J 0 14 0 ⟨tsOf [(0, (.dat 22 (.lst x0))), (10, (.dat 22 (.lst x1))), (11, (.dat 3 (.int x2))), (12, (.dat 3 (.int x3)))], [], 0⟩ (e2 J m [1, 1, 0, 1, 0, 0, 1, 1, 1] [M2] ⟨tsOf [(0, (.dat 22 (.lst x0))), (10, (.dat 22 (.lst x1))), (11, (.dat 3 (.int x2))), (12, (.dat 3 (.int x3)))], [], 0⟩))) := fun J => by kernel_rfl
    refine (h jn).trans ?_
    simp only [jn_eq, order_Valid_j7_eq m M2 rec2 h2 M6 (order_Valid_l6 m rec2 M6) (fun x0 x1 x2 x3 x4 x5 x6 x7 => order_Valid_l6_eq m M2 rec2 h2 M6 x0 x1 x2 x3 x4 x5 x6 x7), order_Valid_j9_eq m M2 rec2 h2]
    rfl
theorem order_Valid_j5_eq (m : Nat) (M2 : Nat) (rec2 : List Dt → List Dt → Int → Int → Option (Int)) (h2 : ∀ (x0 : List Dt) (x1 : List Dt) (x2 : Int) (x3 : Int), l2 jn m [1, 1, 0, 1, 0] [] M2 ⟨tsOf [(0, (.dat 22 (.lst x0))), (10, (.dat 22 (.lst x1))), (11, (.dat 3 (.int x2))), (12, (.dat 3 (.int x3)))], [], 0⟩ = rec2 x0 x1 x2 x3) (x0 : List Dt) (x1 : List Dt) (x2 : Int) (x3 : Int) (x4 : List Dt) (x5 : Int) (x6 : Int) (x7 : Dt) : e2 jn m [1, 1, 0, 1, 0, 0, 1, 1, 0, 0, 1, 1, 1] [M2] ⟨tsOf [(0, (.dat 22 (.lst x0))), (4, (.ptr 0 [] 0)), (10, (.dat 22 (.lst x1))), (11, (.dat 3 (.int x2))), (12, (.dat 3 (.int x3))), (23, (.dat 22 (.lst x4))), (24, (.dat 3 (.int x5))), (25, (.dat 3 (.int x6)))], [(.box 47 (.dat 47 x7))], 0⟩ = order_Valid_j5 m rec2 x0 x1 x2 x3 x4 x5 x6 x7 := by
  have h : ∀ J, e2 J m [1, 1, 0, 1, 0, 0, 1, 1, 0, 0, 1, 1, 1] [M2] ⟨tsOf [(0, (.dat 22 (.lst x0))), (4, (.ptr 0 [] 0)), (10, (.dat 22 (.lst x1))), (11, (.dat 3 (.int x2))), (12, (.dat 3 (.int x3))), (23, (.dat 22 (.lst x4))), (24, (.dat 3 (.int x5))), (25, (.dat 3 (.int x6)))], [(.box 47 (.dat 47 x7))], 0⟩ =
    (J 1 9 (Nat.succ m) ⟨tsOf [(0, (.dat 22 (.lst x0))), (4, (.ptr 0 [] 0)), (10, (.dat 22 (.lst x1))), (11, (.dat 3 (.int x2))), (12, (.dat 3 (.int x3))), (23, (.dat 22 (.lst x4))), (24, (.dat 3 (.int x5))), (25, (.dat 3 (.int x6)))], [(.box 47 (.dat 47 x7))], 0⟩ (l2 J m [1, 1, 0, 1, 0, 0, 1, 1, 0, 0, 1, 1, 1, 0] [M2] (Nat.succ m) ⟨tsOf [(0, (.dat 22 (.lst x0))), (4, (.ptr 0 [] 0)), (10, (.dat 22 (.lst x1))), (11, (.dat 3 (.int x2))), (12, (.dat 3 (.int x3))), (23, (.dat 22 (.lst x4))), (24, (.dat 3 (.int x5))), (25, (.dat 3 (.int x6)))], [(.box 47 (.dat 47 x7))], 0⟩)) := fun J => by kernel_rfl
  exact (h jn).trans (by
    simp only [jn_eq, order_Valid_l6_eq m M2 rec2 h2]
    rfl)
theorem order_Valid_j4_eq (m : Nat) (M2 : Nat) (rec2 : List Dt → List Dt → Int → Int → Option (Int)) (h2 : ∀ (x0 : List Dt) (x1 : List Dt) (x2 : Int) (x3 : Int), l2 jn m [1, 1, 0, 1, 0] [] M2 ⟨tsOf [(0, (.dat 22 (.lst x0))), (10, (.dat 22 (.lst x1))), (11, (.dat 3 (.int x2))), (12, (.dat 3 (.int x3)))], [], 0⟩ = rec2 x0 x1 x2 x3) (x0 : List Dt) (x1 : Int) (x2 : List Dt) (x3 : Int) (x4 : Int) (x5 : Dt) : e2 jn m [1, 1, 0, 1, 0, 0, 1, 1, 0, 0, 1, 1] [M2] ⟨tsOf [(0, (.dat 22 (.lst x0))), (3, (.dat 3 (.int x1))), (4, (.ptr 0 [] 0)), (10, (.dat 22 (.lst x2))), (11, (.dat 3 (.int x3))), (12, (.dat 3 (.int x4)))], [(.box 47 (.dat 47 x5))], 0⟩ = order_Valid_j4 m rec2 x0 x1 x2 x3 x4 x5 := by
  have h : ∀ J, e2 J m [1, 1, 0, 1, 0, 0, 1, 1, 0, 0, 1, 1] [M2] ⟨tsOf [(0, (.dat 22 (.lst x0))), (3, (.dat 3 (.int x1))), (4, (.ptr 0 [] 0)), (10, (.dat 22 (.lst x2))), (11, (.dat 3 (.int x3))), (12, (.dat 3 (.int x4)))], [(.box 47 (.dat 47 x5))], 0⟩ =
    ((cutL x0 (0 : Int) x1).bind fun v2 =>
      (J 0 9 0 ⟨tsOf [(0, (.dat 22 (.lst x0))), (4, (.ptr 0 [] 0)), (10, (.dat 22 (.lst x2))), (11, (.dat 3 (.int x3))), (12, (.dat 3 (.int x4))), (23, (.dat 22 (.lst v2))), (24, (.dat 3 (.int (((List.length v2) : Nat) : Int)))), (25, (.dat 3 (.int (0 : Int))))], [(.box 47 (.dat 47 x5))], 0⟩ (e2 J m [1, 1, 0, 1, 0, 0, 1, 1, 0, 0, 1, 1, 1] [M2] ⟨tsOf [(0, (.dat 22 (.lst x0))), (4, (.ptr 0 [] 0)), (10, (.dat 22 (.lst x2))), (11, (.dat 3 (.int x3))), (12, (.dat 3 (.int x4))), (23, (.dat 22 (.lst v2))), (24, (.dat 3 (.int (((List.length v2) : Nat) : Int)))), (25, (.dat 3 (.int (0 : Int))))], [(.box 47 (.dat 47 x5))], 0⟩))) := fun J => by kernel_rfl
  exact (h jn).trans (by
    simp only [jn_eq, order_Valid_j5_eq m M2 rec2 h2]
    rfl)
theorem order_Valid_j3_eq (m : Nat) (M2 : Nat) (rec2 : List Dt → List Dt → Int → Int → Option (Int)) (h2 : ∀ (x0 : List Dt) (x1 : List Dt) (x2 : Int) (x3 : Int), l2 jn m [1, 1, 0, 1, 0] [] M2 ⟨tsOf [(0, (.dat 22 (.lst x0))), (10, (.dat 22 (.lst x1))), (11, (.dat 3 (.int x2))), (12, (.dat 3 (.int x3)))], [], 0⟩ = rec2 x0 x1 x2 x3) (x0 : List Dt) (x1 : List Dt) (x2 : Int) (x3 : Int) : e2 jn m [1, 1, 0, 1, 0, 0, 1, 1] [M2] ⟨tsOf [(0, (.dat 22 (.lst x0))), (10, (.dat 22 (.lst x1))), (11, (.dat 3 (.int x2))), (12, (.dat 3 (.int x3)))], [], 0⟩ = order_Valid_j3 m rec2 x0 x1 x2 x3 := by
  have h : ∀ J, e2 J m [1, 1, 0, 1, 0, 0, 1, 1] [M2] ⟨tsOf [(0, (.dat 22 (.lst x0))), (10, (.dat 22 (.lst x1))), (11, (.dat 3 (.int x2))), (12, (.dat 3 (.int x3)))], [], 0⟩ =
    ((idx x1 x3).bind fun v0 =>
      ((path_Valid m (Dt.L v0 0)).bind fun r1 =>
        (bif (Bool.not r1) then
          some (10 : Int)
        else
          (J 0 8 0 ⟨tsOf [(0, (.dat 22 (.lst x0))), (3, (.dat 3 (.int x3))), (4, (.ptr 0 [] 0)), (10, (.dat 22 (.lst x1))), (11, (.dat 3 (.int x2))), (12, (.dat 3 (.int x3)))], [(.box 47 (.dat 47 v0))], 0⟩ (e2 J m [1, 1, 0, 1, 0, 0, 1, 1, 0, 0, 1, 1] [M2] ⟨tsOf [(0, (.dat 22 (.lst x0))), (3, (.dat 3 (.int x3))), (4, (.ptr 0 [] 0)), (10, (.dat 22 (.lst x1))), (11, (.dat 3 (.int x2))), (12, (.dat 3 (.int x3)))], [(.box 47 (.dat 47 v0))], 0⟩))))) := fun J => by kernel_rfl
  exact (h jn).trans (by
    simp only [jn_eq, order_Valid_j4_eq m M2 rec2 h2]
    rfl)
theorem order_Valid_j10_eq (m : Nat) : e2 jn m [1, 1, 1] [] ⟨tsOf [], [], 0⟩ = order_Valid_j10 m := by
  have h : ∀ J, e2 J m [1, 1, 1] [] ⟨tsOf [], [], 0⟩ =
    some (0 : Int) := fun J => by kernel_rfl
  exact (h jn).trans (rfl)
theorem order_Valid_l2_eq (m : Nat) : ∀ (M2 : Nat) (x0 : List Dt) (x1 : List Dt) (x2 : Int) (x3 : Int), l2 jn m [1, 1, 0, 1, 0] [] M2 ⟨tsOf [(0, (.dat 22 (.lst x0))), (10, (.dat 22 (.lst x1))), (11, (.dat 3 (.int x2))), (12, (.dat 3 (.int x3)))], [], 0⟩ = order_Valid_l2 m M2 x0 x1 x2 x3
  | 0, _, _, _, _ => rfl
  | M2 + 1, x0, x1, x2, x3 => by
    have h : ∀ J, l2 J m [1, 1, 0, 1, 0] [] (M2 + 1) ⟨tsOf [(0, (.dat 22 (.lst x0))), (10, (.dat 22 (.lst x1))), (11, (.dat 3 (.int x2))), (12, (.dat 3 (.int x3)))], [], 0⟩ =
    (bif (decide (x3 < x2)) then
      (J 0 5 0 ⟨tsOf [(0, (.dat 22 (.lst x0))), (10, (.dat 22 (.lst x1))), (11, (.dat 3 (.int x2))), (12, (.dat 3 (.int x3)))], [], 0⟩ (e2 J m [1, 1, 0, 1, 0, 0, 1, 1] [M2] ⟨tsOf [(0, (.dat 22 (.lst x0))), (10, (.dat 22 (.lst x1))), (11, (.dat 3 (.int x2))), (12, (.dat 3 (.int x3)))], [], 0⟩))
    else
      (J 0 15 0 ⟨tsOf [], [], 0⟩ (e2 J m [1, 1, 1] [] ⟨tsOf [], [], 0⟩))) := fun J => by kernel_rfl
    refine (h jn).trans ?_
    simp only [jn_eq, order_Valid_j3_eq m M2 (order_Valid_l2 m M2) (fun x0 x1 x2 x3 => order_Valid_l2_eq m M2 x0 x1 x2 x3), order_Valid_j10_eq m]
    rfl
theorem order_Valid_j1_eq (m : Nat) (x0 : List Dt) (x1 : List Dt) (x2 : Int) (x3 : Int) : e2 jn m [1, 1, 0, 1] [] ⟨tsOf [(0, (.dat 22 (.lst x0))), (10, (.dat 22 (.lst x1))), (11, (.dat 3 (.int x2))), (12, (.dat 3 (.int x3)))], [], 0⟩ = order_Valid_j1 m x0 x1 x2 x3 := by
  have h : ∀ J, e2 J m [1, 1, 0, 1] [] ⟨tsOf [(0, (.dat 22 (.lst x0))), (10, (.dat 22 (.lst x1))), (11, (.dat 3 (.int x2))), (12, (.dat 3 (.int x3)))], [], 0⟩ =
    (J 1 4 (Nat.succ m) ⟨tsOf [(0, (.dat 22 (.lst x0))), (10, (.dat 22 (.lst x1))), (11, (.dat 3 (.int x2))), (12, (.dat 3 (.int x3)))], [], 0⟩ (l2 J m [1, 1, 0, 1, 0] [] (Nat.succ m) ⟨tsOf [(0, (.dat 22 (.lst x0))), (10, (.dat 22 (.lst x1))), (11, (.dat 3 (.int x2))), (12, (.dat 3 (.int x3)))], [], 0⟩)) := fun J => by kernel_rfl
  exact (h jn).trans (by
    simp only [jn_eq, order_Valid_l2_eq m]
    rfl)
theorem order_Valid_j0_eq (m : Nat) (x0 : List Dt) : e2 jn m [1, 1] [] ⟨tsOf [(0, (.dat 22 (.lst x0)))], [], 0⟩ = order_Valid_j0 m x0 := by
  have h : ∀ J, e2 J m [1, 1] [] ⟨tsOf [(0, (.dat 22 (.lst x0)))], [], 0⟩ =
    (J 0 4 0 ⟨tsOf [(0, (.dat 22 (.lst x0))), (10, (.dat 22 (.lst x0))), (11, (.dat 3 (.int (((List.length x0) : Nat) : Int)))), (12, (.dat 3 (.int (0 : Int))))], [], 0⟩ (e2 J m [1, 1, 0, 1] [] ⟨tsOf [(0, (.dat 22 (.lst x0))), (10, (.dat 22 (.lst x0))), (11, (.dat 3 (.int (((List.length x0) : Nat) : Int)))), (12, (.dat 3 (.int (0 : Int))))], [], 0⟩)) := fun J => by kernel_rfl
  exact (h jn).trans (by
    simp only [jn_eq, order_Valid_j1_eq m]
    rfl)
theorem order_Valid_eq (m : Nat) (a0 : List Dt) : e2 jn m [] [] ⟨[(.dat 22 (.lst a0))], [], 0⟩ = order_Valid (m + 1) a0 := by
  have h : ∀ J, e2 J m [] [] ⟨[(.dat 22 (.lst a0))], [], 0⟩ =
    (bif (decide ((8 : Int) < (((List.length a0) : Nat) : Int))) then
      some (2 : Int)
    else
      (J 0 3 0 ⟨tsOf [(0, (.dat 22 (.lst a0)))], [], 0⟩ (e2 J m [1, 1] [] ⟨tsOf [(0, (.dat 22 (.lst a0)))], [], 0⟩))) := fun J => by kernel_rfl
  refine (h jn).trans ?_
  simp only [jn_eq, order_Valid_j0_eq m]
  rfl
noncomputable def d12 (q : Res) : Option (List Dt × Int) := match q with
  | (.tup [.dat T0 x0, .dat T1 x1], []) => bif (Nat.beq T0 45 && Nat.beq T1 23) then some (x0.toLst, x1.toInt) else none
  | _ => none
theorem d12_sim {b : Res} {r : List Dt × Int} (h : d12 b = some r) : Sim Tryd.prog b ((.tup [(.dat 45 (.lst r.1)), (.dat 23 (.int r.2))]), []) := by
  unfold d12 at h
  split at h
  · obtain ⟨hc, h2⟩ := bif_some h
    cases h2
    have e0 := beq_eq (and_l hc)
    have e1 := beq_eq (and_r hc)
    subst e0 e1
    exact Sim.of (.tup (.cons (.dat (.lst Tryd.underlying45)) (.cons (.dat (.int Tryd.underlying23)) .nil))) .nil
  · cases h
noncomputable def e12 (J : Nat → Nat → Nat → St → Option (List Dt × Int) → Option (List Dt × Int)) (m : Nat) (p ms : List Nat) (σ : St) := evAt Tryd.prog env (ct m) J (m + 1) 34 11 Tryd.f34 d12 p ms σ
noncomputable def l12 (J : Nat → Nat → Nat → St → Option (List Dt × Int) → Option (List Dt × Int)) (m : Nat) (p ms : List Nat) (M : Nat) (σ : St) := loopAt Tryd.prog env (ct m) J (m + 1) 34 11 Tryd.f34 d12 p ms M σ
theorem path_Parse_j0_eq (m : Nat) (x0 : List Dt) : e12 jn m [1, 1, 1] [] ⟨tsOf [(4, (.dat 45 (.lst x0)))], [], 0⟩ = path_Parse_j0 m x0 := by
  have h : ∀ J, e12 J m [1, 1, 1] [] ⟨tsOf [(4, (.dat 45 (.lst x0)))], [], 0⟩ =
    some (x0, (0 : Int)) := fun J => by kernel_rfl
  exact (h jn).trans (rfl)
theorem path_Parse_eq (m : Nat) (a0 : ByteArray) : e12 jn m [] [] ⟨[(.dat 9 (.str a0))], [], 0⟩ = path_Parse (m + 1) a0 := by
  have h : ∀ J, e12 J m [] [] ⟨[(.dat 9 (.str a0))], [], 0⟩ =
    ((strings_Split a0 (ByteArray.mk (List.toArray [(46 : UInt8)]))).bind fun r0 =>
      ((path_Valid m r0).bind fun r1 =>
        (bif (Bool.not r1) then
          some ([], (10 : Int))
        else
          (J 0 4 0 ⟨tsOf [(4, (.dat 45 (.lst r0)))], [], 0⟩ (e12 J m [1, 1, 1] [] ⟨tsOf [(4, (.dat 45 (.lst r0)))], [], 0⟩))))) := fun J => by kernel_rfl
  refine (h jn).trans ?_
  simp only [jn_eq, path_Parse_j0_eq m]
  rfl
noncomputable def d5 (q : Res) : Option (List Dt × Int) := match q with
  | (.tup [.dat T0 x0, .dat T1 x1], []) => bif (Nat.beq T0 22 && Nat.beq T1 23) then some (x0.toLst, x1.toInt) else none
  | _ => none
theorem d5_sim {b : Res} {r : List Dt × Int} (h : d5 b = some r) : Sim Tryd.prog b ((.tup [(.dat 22 (.lst r.1)), (.dat 23 (.int r.2))]), []) := by
  unfold d5 at h
  split at h
  · obtain ⟨hc, h2⟩ := bif_some h
    cases h2
    have e0 := beq_eq (and_l hc)
    have e1 := beq_eq (and_r hc)
    subst e0 e1
    exact Sim.of (.tup (.cons (.dat (.lst Tryd.underlying22)) (.cons (.dat (.int Tryd.underlying23)) .nil))) .nil
  · cases h
noncomputable def e5 (J : Nat → Nat → Nat → St → Option (List Dt × Int) → Option (List Dt × Int)) (m : Nat) (p ms : List Nat) (σ : St) := evAt Tryd.prog env (ct m) J (m + 1) 13 61 Tryd.f13 d5 p ms σ
noncomputable def l5 (J : Nat → Nat → Nat → St → Option (List Dt × Int) → Option (List Dt × Int)) (m : Nat) (p ms : List Nat) (M : Nat) (σ : St) := loopAt Tryd.prog env (ct m) J (m + 1) 13 61 Tryd.f13 d5 p ms M σ
theorem order_Parse_j6_eq (m : Nat) (M2 : Nat) (rec2 : List Dt → Int → Int → List Dt → Option (List Dt × Int)) (h2 : ∀ (x0 : List Dt) (x1 : Int) (x2 : Int) (x3 : List Dt), l5 jn m [1, 1, 1, 0, 1, 0] [] M2 ⟨tsOf [(4, (.row 0)), (14, (.dat 28 (.lst x0))), (15, (.dat 3 (.int x1))), (16, (.dat 3 (.int x2)))], [(.row 22 x3)], 0⟩ = rec2 x0 x1 x2 x3) (x0 : List Dt) (x1 : Int) (x2 : Int) (x3 : List Dt) : e5 jn m [1, 1, 1, 0, 1, 0, 0, 1, 1, 1] [M2] ⟨tsOf [(4, (.row 0)), (14, (.dat 28 (.lst x0))), (15, (.dat 3 (.int x1))), (16, (.dat 3 (.int x2)))], [(.row 22 x3)], 0⟩ = order_Parse_j6 m rec2 x0 x1 x2 x3 := by
  have h : ∀ J, e5 J m [1, 1, 1, 0, 1, 0, 0, 1, 1, 1] [M2] ⟨tsOf [(4, (.row 0)), (14, (.dat 28 (.lst x0))), (15, (.dat 3 (.int x1))), (16, (.dat 3 (.int x2)))], [(.row 22 x3)], 0⟩ =
    (J 1 5 M2 ⟨tsOf [(4, (.row 0)), (14, (.dat 28 (.lst x0))), (15, (.dat 3 (.int x1))), (16, (.dat 3 (.int (IntKind.wrap IntKind.i64 (x2 + (1 : Int))))))], [(.row 22 x3)], 0⟩ (l5 J m [1, 1, 1, 0, 1, 0] [] M2 ⟨tsOf [(4, (.row 0)), (14, (.dat 28 (.lst x0))), (15, (.dat 3 (.int x1))), (16, (.dat 3 (.int (IntKind.wrap IntKind.i64 (x2 + (1 : Int))))))], [(.row 22 x3)], 0⟩)) := fun J => by kernel_rfl
  exact (h jn).trans (by
    simp only [jn_eq, h2]
    rfl)
theorem order_Parse_j5_eq (m : Nat) (M2 : Nat) (rec2 : List Dt → Int → Int → List Dt → Option (List Dt × Int)) (h2 : ∀ (x0 : List Dt) (x1 : Int) (x2 : Int) (x3 : List Dt), l5 jn m [1, 1, 1, 0, 1, 0] [] M2 ⟨tsOf [(4, (.row 0)), (14, (.dat 28 (.lst x0))), (15, (.dat 3 (.int x1))), (16, (.dat 3 (.int x2)))], [(.row 22 x3)], 0⟩ = rec2 x0 x1 x2 x3) (x0 : List Dt) (x1 : List Dt) (x2 : Int) (x3 : Int) (x4 : List Dt) (x5 : Dt) : e5 jn m [1, 1, 1, 0, 1, 0, 0, 1, 1, 0, 0, 1, 1, 1, 1] [M2] ⟨tsOf [(4, (.row 0)), (6, (.ptr 1 [] 0)), (7, (.dat 45 (.lst x0))), (14, (.dat 28 (.lst x1))), (15, (.dat 3 (.int x2))), (16, (.dat 3 (.int x3)))], [(.row 22 x4), (.box 53 (.dat 53 x5))], 0⟩ = order_Parse_j5 m rec2 x0 x1 x2 x3 x4 x5 := by
  have h : ∀ J, e5 J m [1, 1, 1, 0, 1, 0, 0, 1, 1, 0, 0, 1, 1, 1, 1] [M2] ⟨tsOf [(4, (.row 0)), (6, (.ptr 1 [] 0)), (7, (.dat 45 (.lst x0))), (14, (.dat 28 (.lst x1))), (15, (.dat 3 (.int x2))), (16, (.dat 3 (.int x3)))], [(.row 22 x4), (.box 53 (.dat 53 x5))], 0⟩ =
    ((app x4 [(Dt.agg [(Dt.lst x0), (Dt.bool ((Dt.I (Dt.fld x5 1) 1) == (-1 : Int)))])]).bind fun v2 =>
      (J 0 13 0 ⟨tsOf [(4, (.row 0)), (14, (.dat 28 (.lst x1))), (15, (.dat 3 (.int x2))), (16, (.dat 3 (.int x3)))], [(.row 22 v2)], 0⟩ (e5 J m [1, 1, 1, 0, 1, 0, 0, 1, 1, 1] [M2] ⟨tsOf [(4, (.row 0)), (14, (.dat 28 (.lst x1))), (15, (.dat 3 (.int x2))), (16, (.dat 3 (.int x3)))], [(.row 22 v2)], 0⟩))) := fun J => by kernel_rfl
  exact (h jn).trans (by
    simp only [jn_eq, order_Parse_j6_eq m M2 rec2 h2]
    rfl)
theorem order_Parse_j4_eq (m : Nat) (M2 : Nat) (rec2 : List Dt → Int → Int → List Dt → Option (List Dt × Int)) (h2 : ∀ (x0 : List Dt) (x1 : Int) (x2 : Int) (x3 : List Dt), l5 jn m [1, 1, 1, 0, 1, 0] [] M2 ⟨tsOf [(4, (.row 0)), (14, (.dat 28 (.lst x0))), (15, (.dat 3 (.int x1))), (16, (.dat 3 (.int x2)))], [(.row 22 x3)], 0⟩ = rec2 x0 x1 x2 x3) (x0 : List Dt) (x1 : List Dt) (x2 : Int) (x3 : Int) (x4 : List Dt) (x5 : Dt) : e5 jn m [1, 1, 1, 0, 1, 0, 0, 1, 1, 0, 0, 1, 1, 1] [M2] ⟨tsOf [(4, (.row 0)), (6, (.ptr 1 [] 0)), (7, (.dat 45 (.lst x0))), (14, (.dat 28 (.lst x1))), (15, (.dat 3 (.int x2))), (16, (.dat 3 (.int x3)))], [(.row 22 x4), (.box 53 (.dat 53 x5))], 0⟩ = order_Parse_j4 m rec2 x0 x1 x2 x3 x4 x5 := by
  have h : ∀ J, e5 J m [1, 1, 1, 0, 1, 0, 0, 1, 1, 0, 0, 1, 1, 1] [M2] ⟨tsOf [(4, (.row 0)), (6, (.ptr 1 [] 0)), (7, (.dat 45 (.lst x0))), (14, (.dat 28 (.lst x1))), (15, (.dat 3 (.int x2))), (16, (.dat 3 (.int x3)))], [(.row 22 x4), (.box 53 (.dat 53 x5))], 0⟩ =
    (bif ((Dt.I (Dt.fld x5 1) 0) != (3 : Int)) then
      some ([], (4 : Int))
    else
      (bif ((Dt.I (Dt.fld x5 1) 1) != (1 : Int)) then
        (bif ((Dt.I (Dt.fld x5 1) 1) != (-1 : Int)) then
          some ([], (4 : Int))
        else
          (J 0 12 0 ⟨tsOf [(4, (.row 0)), (6, (.ptr 1 [] 0)), (7, (.dat 45 (.lst x0))), (14, (.dat 28 (.lst x1))), (15, (.dat 3 (.int x2))), (16, (.dat 3 (.int x3)))], [(.row 22 x4), (.box 53 (.dat 53 x5))], 0⟩ (e5 J m [1, 1, 1, 0, 1, 0, 0, 1, 1, 0, 0, 1, 1, 1, 1] [M2] ⟨tsOf [(4, (.row 0)), (6, (.ptr 1 [] 0)), (7, (.dat 45 (.lst x0))), (14, (.dat 28 (.lst x1))), (15, (.dat 3 (.int x2))), (16, (.dat 3 (.int x3)))], [(.row 22 x4), (.box 53 (.dat 53 x5))], 0⟩)))
      else
        (J 0 12 0 ⟨tsOf [(4, (.row 0)), (6, (.ptr 1 [] 0)), (7, (.dat 45 (.lst x0))), (14, (.dat 28 (.lst x1))), (15, (.dat 3 (.int x2))), (16, (.dat 3 (.int x3)))], [(.row 22 x4), (.box 53 (.dat 53 x5))], 0⟩ (e5 J m [1, 1, 1, 0, 1, 0, 0, 1, 1, 0, 0, 1, 1, 1, 1] [M2] ⟨tsOf [(4, (.row 0)), (6, (.ptr 1 [] 0)), (7, (.dat 45 (.lst x0))), (14, (.dat 28 (.lst x1))), (15, (.dat 3 (.int x2))), (16, (.dat 3 (.int x3)))], [(.row 22 x4), (.box 53 (.dat 53 x5))], 0⟩)))) := fun J => by kernel_rfl
  exact (h jn).trans (by
    simp only [jn_eq, order_Parse_j5_eq m M2 rec2 h2]
    rfl)
theorem order_Parse_j3_eq (m : Nat) (M2 : Nat) (rec2 : List Dt → Int → Int → List Dt → Option (List Dt × Int)) (h2 : ∀ (x0 : List Dt) (x1 : Int) (x2 : Int) (x3 : List Dt), l5 jn m [1, 1, 1, 0, 1, 0] [] M2 ⟨tsOf [(4, (.row 0)), (14, (.dat 28 (.lst x0))), (15, (.dat 3 (.int x1))), (16, (.dat 3 (.int x2)))], [(.row 22 x3)], 0⟩ = rec2 x0 x1 x2 x3) (x0 : List Dt) (x1 : Int) (x2 : Int) (x3 : List Dt) : e5 jn m [1, 1, 1, 0, 1, 0, 0, 1, 1] [M2] ⟨tsOf [(4, (.row 0)), (14, (.dat 28 (.lst x0))), (15, (.dat 3 (.int x1))), (16, (.dat 3 (.int x2)))], [(.row 22 x3)], 0⟩ = order_Parse_j3 m rec2 x0 x1 x2 x3 := by
  have h : ∀ J, e5 J m [1, 1, 1, 0, 1, 0, 0, 1, 1] [M2] ⟨tsOf [(4, (.row 0)), (14, (.dat 28 (.lst x0))), (15, (.dat 3 (.int x1))), (16, (.dat 3 (.int x2)))], [(.row 22 x3)], 0⟩ =
    ((idx x0 x2).bind fun v0 =>
      ((path_Parse m (Dt.S v0 0)).bind fun r1 =>
        (bif ((Prod.snd r1) != (0 : Int)) then
          some ([], (Prod.snd r1))
        else
          (J 0 10 0 ⟨tsOf [(4, (.row 0)), (6, (.ptr 1 [] 0)), (7, (.dat 45 (.lst (Prod.fst r1)))), (14, (.dat 28 (.lst x0))), (15, (.dat 3 (.int x1))), (16, (.dat 3 (.int x2)))], [(.row 22 x3), (.box 53 (.dat 53 v0))], 0⟩ (e5 J m [1, 1, 1, 0, 1, 0, 0, 1, 1, 0, 0, 1, 1, 1] [M2] ⟨tsOf [(4, (.row 0)), (6, (.ptr 1 [] 0)), (7, (.dat 45 (.lst (Prod.fst r1)))), (14, (.dat 28 (.lst x0))), (15, (.dat 3 (.int x1))), (16, (.dat 3 (.int x2)))], [(.row 22 x3), (.box 53 (.dat 53 v0))], 0⟩))))) := fun J => by kernel_rfl
  exact (h jn).trans (by
    simp only [jn_eq, order_Parse_j4_eq m M2 rec2 h2]
    rfl)
theorem order_Parse_j8_eq (m : Nat) (x0 : List Dt) : e5 jn m [1, 1, 1, 1, 1] [] ⟨tsOf [(4, (.row 0))], [(.row 22 x0)], 0⟩ = order_Parse_j8 m x0 := by
  have h : ∀ J, e5 J m [1, 1, 1, 1, 1] [] ⟨tsOf [(4, (.row 0))], [(.row 22 x0)], 0⟩ =
    some (x0, (0 : Int)) := fun J => by kernel_rfl
  exact (h jn).trans (rfl)
theorem order_Parse_j7_eq (m : Nat) (x0 : List Dt) : e5 jn m [1, 1, 1, 1] [] ⟨tsOf [(4, (.row 0))], [(.row 22 x0)], 0⟩ = order_Parse_j7 m x0 := by
  have h : ∀ J, e5 J m [1, 1, 1, 1] [] ⟨tsOf [(4, (.row 0))], [(.row 22 x0)], 0⟩ =
    ((order_Valid m x0).bind fun r3 =>
      (bif (r3 != (0 : Int)) then
        some ([], r3)
      else
        (J 0 17 0 ⟨tsOf [(4, (.row 0))], [(.row 22 x0)], 0⟩ (e5 J m [1, 1, 1, 1, 1] [] ⟨tsOf [(4, (.row 0))], [(.row 22 x0)], 0⟩)))) := fun J => by kernel_rfl
  exact (h jn).trans (by
    simp only [jn_eq, order_Parse_j8_eq m]
    rfl)
theorem order_Parse_l2_eq (m : Nat) : ∀ (M2 : Nat) (x0 : List Dt) (x1 : Int) (x2 : Int) (x3 : List Dt), l5 jn m [1, 1, 1, 0, 1, 0] [] M2 ⟨tsOf [(4, (.row 0)), (14, (.dat 28 (.lst x0))), (15, (.dat 3 (.int x1))), (16, (.dat 3 (.int x2)))], [(.row 22 x3)], 0⟩ = order_Parse_l2 m M2 x0 x1 x2 x3
  | 0, _, _, _, _ => rfl
  | M2 + 1, x0, x1, x2, x3 => by
    have h : ∀ J, l5 J m [1, 1, 1, 0, 1, 0] [] (M2 + 1) ⟨tsOf [(4, (.row 0)), (14, (.dat 28 (.lst x0))), (15, (.dat 3 (.int x1))), (16, (.dat 3 (.int x2)))], [(.row 22 x3)], 0⟩ =
    (bif (decide (x2 < x1)) then
      (J 0 6 0 ⟨tsOf [(4, (.row 0)), (14, (.dat 28 (.lst x0))), (15, (.dat 3 (.int x1))), (16, (.dat 3 (.int x2)))], [(.row 22 x3)], 0⟩ (e5 J m [1, 1, 1, 0, 1, 0, 0, 1, 1] [M2] ⟨tsOf [(4, (.row 0)), (14, (.dat 28 (.lst x0))), (15, (.dat 3 (.int x1))), (16, (.dat 3 (.int x2)))], [(.row 22 x3)], 0⟩))
    else
      (J 0 14 0 ⟨tsOf [(4, (.row 0))], [(.row 22 x3)], 0⟩ (e5 J m [1, 1, 1, 1] [] ⟨tsOf [(4, (.row 0))], [(.row 22 x3)], 0⟩))) := fun J => by kernel_rfl
    refine (h jn).trans ?_
    simp only [jn_eq, order_Parse_j3_eq m M2 (order_Parse_l2 m M2) (fun x0 x1 x2 x3 => order_Parse_l2_eq m M2 x0 x1 x2 x3), order_Parse_j7_eq m]
    rfl
theorem order_Parse_j1_eq (m : Nat) (x0 : List Dt) (x1 : Int) (x2 : Int) (x3 : List Dt) : e5 jn m [1, 1, 1, 0, 1] [] ⟨tsOf [(4, (.row 0)), (14, (.dat 28 (.lst x0))), (15, (.dat 3 (.int x1))), (16, (.dat 3 (.int x2)))], [(.row 22 x3)], 0⟩ = order_Parse_j1 m x0 x1 x2 x3 := by
  have h : ∀ J, e5 J m [1, 1, 1, 0, 1] [] ⟨tsOf [(4, (.row 0)), (14, (.dat 28 (.lst x0))), (15, (.dat 3 (.int x1))), (16, (.dat 3 (.int x2)))], [(.row 22 x3)], 0⟩ =
    (J 1 5 (Nat.succ m) ⟨tsOf [(4, (.row 0)), (14, (.dat 28 (.lst x0))), (15, (.dat 3 (.int x1))), (16, (.dat 3 (.int x2)))], [(.row 22 x3)], 0⟩ (l5 J m [1, 1, 1, 0, 1, 0] [] (Nat.succ m) ⟨tsOf [(4, (.row 0)), (14, (.dat 28 (.lst x0))), (15, (.dat 3 (.int x1))), (16, (.dat 3 (.int x2)))], [(.row 22 x3)], 0⟩)) := fun J => by kernel_rfl
  exact (h jn).trans (by
    simp only [jn_eq, order_Parse_l2_eq m]
    rfl)
theorem order_Parse_j0_eq (m : Nat) (x0 : Dt) : e5 jn m [1, 1] [] ⟨tsOf [(1, (.ptr 0 [] 0))], [(.box 30 (.dat 30 x0))], 0⟩ = order_Parse_j0 m x0 := by
  have h : ∀ J, e5 J m [1, 1] [] ⟨tsOf [(1, (.ptr 0 [] 0))], [(.box 30 (.dat 30 x0))], 0⟩ =
    (J 0 5 0 ⟨tsOf [(4, (.row 0)), (14, (.dat 28 (.lst (Dt.L x0 4)))), (15, (.dat 3 (.int (((List.length (Dt.L x0 4)) : Nat) : Int)))), (16, (.dat 3 (.int (0 : Int))))], [(.row 22 [])], 0⟩ (e5 J m [1, 1, 1, 0, 1] [] ⟨tsOf [(4, (.row 0)), (14, (.dat 28 (.lst (Dt.L x0 4)))), (15, (.dat 3 (.int (((List.length (Dt.L x0 4)) : Nat) : Int)))), (16, (.dat 3 (.int (0 : Int))))], [(.row 22 [])], 0⟩)) := fun J => by kernel_rfl
  exact (h jn).trans (by
    simp only [jn_eq, order_Parse_j1_eq m]
    rfl)
theorem order_Parse_eq (m : Nat) (a0 : Dt) : e5 jn m [] [] ⟨[(.dat 30 a0)], [], 0⟩ = order_Parse (m + 1) a0 := by
  have h : ∀ J, e5 J m [] [] ⟨[(.dat 30 a0)], [], 0⟩ =
    (bif ((Dt.I a0 0) != (5 : Int)) then
      some ([], (4 : Int))
    else
      (J 0 3 0 ⟨tsOf [(1, (.ptr 0 [] 0))], [(.box 30 (.dat 30 a0))], 0⟩ (e5 J m [1, 1] [] ⟨tsOf [(1, (.ptr 0 [] 0))], [(.box 30 (.dat 30 a0))], 0⟩))) := fun J => by kernel_rfl
  refine (h jn).trans ?_
  simp only [jn_eq, order_Parse_j0_eq m]
  rfl
noncomputable def d17 (q : Res) : Option (Bool) := match q with
  | (.dat T0 x0, []) => bif Nat.beq T0 4 then some x0.toBool else none
  | _ => none
theorem d17_sim {b : Res} {r : Bool} (h : d17 b = some r) : Sim Tryd.prog b ((.dat 4 (.bool r)), []) := by
  unfold d17 at h
  split at h
  · obtain ⟨hc, h2⟩ := bif_some h
    cases h2
    have e0 := beq_eq hc
    subst e0
    exact Sim.of (.of (.dat (.bool Tryd.underlying4)) rfl rfl) .nil
  · cases h
noncomputable def e17 (J : Nat → Nat → Nat → St → Option (Bool) → Option (Bool)) (m : Nat) (p ms : List Nat) (σ : St) := evAt Tryd.prog env (ct m) J (m + 1) 44 39 Tryd.f44 d17 p ms σ
noncomputable def l17 (J : Nat → Nat → Nat → St → Option (Bool) → Option (Bool)) (m : Nat) (p ms : List Nat) (M : Nat) (σ : St) := loopAt Tryd.prog env (ct m) J (m + 1) 44 39 Tryd.f44 d17 p ms M σ
theorem ref01_Name_j4_eq (m : Nat) (M2 : Nat) (rec2 : ByteArray → Int → Option (Bool)) (h2 : ∀ (x0 : ByteArray) (x1 : Int), l17 jn m [1, 1, 0, 1, 0] [] M2 ⟨tsOf [(0, (.dat 9 (.str x0))), (3, (.dat 3 (.int x1)))], [], 0⟩ = rec2 x0 x1) (x0 : ByteArray) (x1 : Int) : e17 jn m [1, 1, 0, 1, 0, 0, 1, 1] [M2] ⟨tsOf [(0, (.dat 9 (.str x0))), (3, (.dat 3 (.int x1)))], [], 0⟩ = ref01_Name_j4 m rec2 x0 x1 := by
  have h : ∀ J, e17 J m [1, 1, 0, 1, 0, 0, 1, 1] [M2] ⟨tsOf [(0, (.dat 9 (.str x0))), (3, (.dat 3 (.int x1)))], [], 0⟩ =
    (J 1 4 M2 ⟨tsOf [(0, (.dat 9 (.str x0))), (3, (.dat 3 (.int (IntKind.wrap IntKind.i64 (x1 + (1 : Int))))))], [], 0⟩ (l17 J m [1, 1, 0, 1, 0] [] M2 ⟨tsOf [(0, (.dat 9 (.str x0))), (3, (.dat 3 (.int (IntKind.wrap IntKind.i64 (x1 + (1 : Int))))))], [], 0⟩)) := fun J => by kernel_rfl
  exact (h jn).trans (by
    simp only [jn_eq, h2]
    rfl)
theorem ref01_Name_j3_eq (m : Nat) (M2 : Nat) (rec2 : ByteArray → Int → Option (Bool)) (h2 : ∀ (x0 : ByteArray) (x1 : Int), l17 jn m [1, 1, 0, 1, 0] [] M2 ⟨tsOf [(0, (.dat 9 (.str x0))), (3, (.dat 3 (.int x1)))], [], 0⟩ = rec2 x0 x1) (x0 : ByteArray) (x1 : Int) : e17 jn m [1, 1, 0, 1, 0, 0, 1] [M2] ⟨tsOf [(0, (.dat 9 (.str x0))), (3, (.dat 3 (.int x1)))], [], 0⟩ = ref01_Name_j3 m rec2 x0 x1 := by
  have h : ∀ J, e17 J m [1, 1, 0, 1, 0, 0, 1] [M2] ⟨tsOf [(0, (.dat 9 (.str x0))), (3, (.dat 3 (.int x1)))], [], 0⟩ =
    ((idxS x0 x1).bind fun v1 =>
      (bif (decide (v1 < (33 : Int))) then
        some Bool.false
      else
        ((idxS x0 x1).bind fun v2 =>
          (bif (decide ((126 : Int) < v2)) then
            some Bool.false
          else
            ((idxS x0 x1).bind fun v3 =>
              (bif (v3 == (46 : Int)) then
                some Bool.false
              else
                (J 0 5 0 ⟨tsOf [(0, (.dat 9 (.str x0))), (3, (.dat 3 (.int x1)))], [], 0⟩ (e17 J m [1, 1, 0, 1, 0, 0, 1, 1] [M2] ⟨tsOf [(0, (.dat 9 (.str x0))), (3, (.dat 3 (.int x1)))], [], 0⟩)))))))) := fun J => by kernel_rfl
  exact (h jn).trans (by
    simp only [jn_eq, ref01_Name_j4_eq m M2 rec2 h2]
    rfl)
theorem ref01_Name_j5_eq (m : Nat) : e17 jn m [1, 1, 1] [] ⟨tsOf [], [], 0⟩ = ref01_Name_j5 m := by
  have h : ∀ J, e17 J m [1, 1, 1] [] ⟨tsOf [], [], 0⟩ =
    some Bool.true := fun J => by kernel_rfl
  exact (h jn).trans (rfl)
theorem ref01_Name_l2_eq (m : Nat) : ∀ (M2 : Nat) (x0 : ByteArray) (x1 : Int), l17 jn m [1, 1, 0, 1, 0] [] M2 ⟨tsOf [(0, (.dat 9 (.str x0))), (3, (.dat 3 (.int x1)))], [], 0⟩ = ref01_Name_l2 m M2 x0 x1
  | 0, _, _ => rfl
  | M2 + 1, x0, x1 => by
    have h : ∀ J, l17 J m [1, 1, 0, 1, 0] [] (M2 + 1) ⟨tsOf [(0, (.dat 9 (.str x0))), (3, (.dat 3 (.int x1)))], [], 0⟩ =
    (bif (decide (x1 < (((ByteArray.size x0) : Nat) : Int))) then
      (J 0 6 0 ⟨tsOf [(0, (.dat 9 (.str x0))), (3, (.dat 3 (.int x1)))], [], 0⟩ (e17 J m [1, 1, 0, 1, 0, 0, 1] [M2] ⟨tsOf [(0, (.dat 9 (.str x0))), (3, (.dat 3 (.int x1)))], [], 0⟩))
    else
      (J 0 8 0 ⟨tsOf [], [], 0⟩ (e17 J m [1, 1, 1] [] ⟨tsOf [], [], 0⟩))) := fun J => by kernel_rfl
    refine (h jn).trans ?_
    simp only [jn_eq, ref01_Name_j3_eq m M2 (ref01_Name_l2 m M2) (fun x0 x1 => ref01_Name_l2_eq m M2 x0 x1), ref01_Name_j5_eq m]
    rfl
theorem ref01_Name_j1_eq (m : Nat) (x0 : ByteArray) (x1 : Int) : e17 jn m [1, 1, 0, 1] [] ⟨tsOf [(0, (.dat 9 (.str x0))), (3, (.dat 3 (.int x1)))], [], 0⟩ = ref01_Name_j1 m x0 x1 := by
  have h : ∀ J, e17 J m [1, 1, 0, 1] [] ⟨tsOf [(0, (.dat 9 (.str x0))), (3, (.dat 3 (.int x1)))], [], 0⟩ =
    (J 1 4 (Nat.succ m) ⟨tsOf [(0, (.dat 9 (.str x0))), (3, (.dat 3 (.int x1)))], [], 0⟩ (l17 J m [1, 1, 0, 1, 0] [] (Nat.succ m) ⟨tsOf [(0, (.dat 9 (.str x0))), (3, (.dat 3 (.int x1)))], [], 0⟩)) := fun J => by kernel_rfl
  exact (h jn).trans (by
    simp only [jn_eq, ref01_Name_l2_eq m]
    rfl)
theorem ref01_Name_j0_eq (m : Nat) (x0 : ByteArray) : e17 jn m [1, 1] [] ⟨tsOf [(0, (.dat 9 (.str x0)))], [], 0⟩ = ref01_Name_j0 m x0 := by
  have h : ∀ J, e17 J m [1, 1] [] ⟨tsOf [(0, (.dat 9 (.str x0)))], [], 0⟩ =
    (J 0 4 0 ⟨tsOf [(0, (.dat 9 (.str x0))), (3, (.dat 3 (.int (0 : Int))))], [], 0⟩ (e17 J m [1, 1, 0, 1] [] ⟨tsOf [(0, (.dat 9 (.str x0))), (3, (.dat 3 (.int (0 : Int))))], [], 0⟩)) := fun J => by kernel_rfl
  exact (h jn).trans (by
    simp only [jn_eq, ref01_Name_j1_eq m]
    rfl)
theorem ref01_Name_eq (m : Nat) (a0 : ByteArray) : e17 jn m [] [] ⟨[(.dat 9 (.str a0))], [], 0⟩ = ref01_Name (m + 1) a0 := by
  have h : ∀ J, e17 J m [] [] ⟨[(.dat 9 (.str a0))], [], 0⟩ =
    (bif (decide ((((ByteArray.size a0) : Nat) : Int) < (1 : Int))) then
      some Bool.false
    else
      (bif (decide ((32 : Int) < (((ByteArray.size a0) : Nat) : Int))) then
        some Bool.false
      else
        ((idxS a0 (0 : Int)).bind fun v0 =>
          (bif (v0 == (36 : Int)) then
            some Bool.false
          else
            (J 0 3 0 ⟨tsOf [(0, (.dat 9 (.str a0)))], [], 0⟩ (e17 J m [1, 1] [] ⟨tsOf [(0, (.dat 9 (.str a0)))], [], 0⟩)))))) := fun J => by kernel_rfl
  refine (h jn).trans ?_
  simp only [jn_eq, ref01_Name_j0_eq m]
  rfl
noncomputable def d10 (q : Res) : Option (Bool) := match q with
  | (.dat T0 x0, []) => bif Nat.beq T0 4 then some x0.toBool else none
  | _ => none
theorem d10_sim {b : Res} {r : Bool} (h : d10 b = some r) : Sim Tryd.prog b ((.dat 4 (.bool r)), []) := by
  unfold d10 at h
  split at h
  · obtain ⟨hc, h2⟩ := bif_some h
    cases h2
    have e0 := beq_eq hc
    subst e0
    exact Sim.of (.of (.dat (.bool Tryd.underlying4)) rfl rfl) .nil
  · cases h
noncomputable def e10 (J : Nat → Nat → Nat → St → Option (Bool) → Option (Bool)) (m : Nat) (p ms : List Nat) (σ : St) := evAt Tryd.prog env (ct m) J (m + 1) 30 24 Tryd.f30 d10 p ms σ
noncomputable def l10 (J : Nat → Nat → Nat → St → Option (Bool) → Option (Bool)) (m : Nat) (p ms : List Nat) (M : Nat) (σ : St) := loopAt Tryd.prog env (ct m) J (m + 1) 30 24 Tryd.f30 d10 p ms M σ
theorem ref04_Valid_j4_eq (m : Nat) (M2 : Nat) (rec2 : List Dt → Int → Option (Bool)) (h2 : ∀ (x0 : List Dt) (x1 : Int), l10 jn m [1, 1, 0, 1, 0] [] M2 ⟨tsOf [(0, (.dat 45 (.lst x0))), (3, (.dat 3 (.int x1)))], [], 0⟩ = rec2 x0 x1) (x0 : List Dt) (x1 : Int) : e10 jn m [1, 1, 0, 1, 0, 0, 1, 1] [M2] ⟨tsOf [(0, (.dat 45 (.lst x0))), (3, (.dat 3 (.int x1)))], [], 0⟩ = ref04_Valid_j4 m rec2 x0 x1 := by
  have h : ∀ J, e10 J m [1, 1, 0, 1, 0, 0, 1, 1] [M2] ⟨tsOf [(0, (.dat 45 (.lst x0))), (3, (.dat 3 (.int x1)))], [], 0⟩ =
    (J 1 4 M2 ⟨tsOf [(0, (.dat 45 (.lst x0))), (3, (.dat 3 (.int (IntKind.wrap IntKind.i64 (x1 + (1 : Int))))))], [], 0⟩ (l10 J m [1, 1, 0, 1, 0] [] M2 ⟨tsOf [(0, (.dat 45 (.lst x0))), (3, (.dat 3 (.int (IntKind.wrap IntKind.i64 (x1 + (1 : Int))))))], [], 0⟩)) := fun J => by kernel_rfl
  exact (h jn).trans (by
    simp only [jn_eq, h2]
    rfl)
theorem ref04_Valid_j3_eq (m : Nat) (M2 : Nat) (rec2 : List Dt → Int → Option (Bool)) (h2 : ∀ (x0 : List Dt) (x1 : Int), l10 jn m [1, 1, 0, 1, 0] [] M2 ⟨tsOf [(0, (.dat 45 (.lst x0))), (3, (.dat 3 (.int x1)))], [], 0⟩ = rec2 x0 x1) (x0 : List Dt) (x1 : Int) : e10 jn m [1, 1, 0, 1, 0, 0, 1] [M2] ⟨tsOf [(0, (.dat 45 (.lst x0))), (3, (.dat 3 (.int x1)))], [], 0⟩ = ref04_Valid_j3 m rec2 x0 x1 := by
  have h : ∀ J, e10 J m [1, 1, 0, 1, 0, 0, 1] [M2] ⟨tsOf [(0, (.dat 45 (.lst x0))), (3, (.dat 3 (.int x1)))], [], 0⟩ =
    ((idx x0 x1).bind fun v0 =>
      ((ref01_Name m (Dt.toStr v0)).bind fun r1 =>
        (bif (Bool.not r1) then
          some Bool.false
        else
          (J 0 5 0 ⟨tsOf [(0, (.dat 45 (.lst x0))), (3, (.dat 3 (.int x1)))], [], 0⟩ (e10 J m [1, 1, 0, 1, 0, 0, 1, 1] [M2] ⟨tsOf [(0, (.dat 45 (.lst x0))), (3, (.dat 3 (.int x1)))], [], 0⟩))))) := fun J => by kernel_rfl
  exact (h jn).trans (by
    simp only [jn_eq, ref04_Valid_j4_eq m M2 rec2 h2]
    rfl)
theorem ref04_Valid_j5_eq (m : Nat) : e10 jn m [1, 1, 1] [] ⟨tsOf [], [], 0⟩ = ref04_Valid_j5 m := by
  have h : ∀ J, e10 J m [1, 1, 1] [] ⟨tsOf [], [], 0⟩ =
    some Bool.true := fun J => by kernel_rfl
  exact (h jn).trans (rfl)
theorem ref04_Valid_l2_eq (m : Nat) : ∀ (M2 : Nat) (x0 : List Dt) (x1 : Int), l10 jn m [1, 1, 0, 1, 0] [] M2 ⟨tsOf [(0, (.dat 45 (.lst x0))), (3, (.dat 3 (.int x1)))], [], 0⟩ = ref04_Valid_l2 m M2 x0 x1
  | 0, _, _ => rfl
  | M2 + 1, x0, x1 => by
    have h : ∀ J, l10 J m [1, 1, 0, 1, 0] [] (M2 + 1) ⟨tsOf [(0, (.dat 45 (.lst x0))), (3, (.dat 3 (.int x1)))], [], 0⟩ =
    (bif (decide (x1 < (((List.length x0) : Nat) : Int))) then
      (J 0 6 0 ⟨tsOf [(0, (.dat 45 (.lst x0))), (3, (.dat 3 (.int x1)))], [], 0⟩ (e10 J m [1, 1, 0, 1, 0, 0, 1] [M2] ⟨tsOf [(0, (.dat 45 (.lst x0))), (3, (.dat 3 (.int x1)))], [], 0⟩))
    else
      (J 0 8 0 ⟨tsOf [], [], 0⟩ (e10 J m [1, 1, 1] [] ⟨tsOf [], [], 0⟩))) := fun J => by kernel_rfl
    refine (h jn).trans ?_
    simp only [jn_eq, ref04_Valid_j3_eq m M2 (ref04_Valid_l2 m M2) (fun x0 x1 => ref04_Valid_l2_eq m M2 x0 x1), ref04_Valid_j5_eq m]
    rfl
theorem ref04_Valid_j1_eq (m : Nat) (x0 : List Dt) (x1 : Int) : e10 jn m [1, 1, 0, 1] [] ⟨tsOf [(0, (.dat 45 (.lst x0))), (3, (.dat 3 (.int x1)))], [], 0⟩ = ref04_Valid_j1 m x0 x1 := by
  have h : ∀ J, e10 J m [1, 1, 0, 1] [] ⟨tsOf [(0, (.dat 45 (.lst x0))), (3, (.dat 3 (.int x1)))], [], 0⟩ =
    (J 1 4 (Nat.succ m) ⟨tsOf [(0, (.dat 45 (.lst x0))), (3, (.dat 3 (.int x1)))], [], 0⟩ (l10 J m [1, 1, 0, 1, 0] [] (Nat.succ m) ⟨tsOf [(0, (.dat 45 (.lst x0))), (3, (.dat 3 (.int x1)))], [], 0⟩)) := fun J => by kernel_rfl
  exact (h jn).trans (by
    simp only [jn_eq, ref04_Valid_l2_eq m]
    rfl)
theorem ref04_Valid_j0_eq (m : Nat) (x0 : List Dt) : e10 jn m [1, 1] [] ⟨tsOf [(0, (.dat 45 (.lst x0)))], [], 0⟩ = ref04_Valid_j0 m x0 := by
  have h : ∀ J, e10 J m [1, 1] [] ⟨tsOf [(0, (.dat 45 (.lst x0)))], [], 0⟩ =
    (J 0 4 0 ⟨tsOf [(0, (.dat 45 (.lst x0))), (3, (.dat 3 (.int (0 : Int))))], [], 0⟩ (e10 J m [1, 1, 0, 1] [] ⟨tsOf [(0, (.dat 45 (.lst x0))), (3, (.dat 3 (.int (0 : Int))))], [], 0⟩)) := fun J => by kernel_rfl
  exact (h jn).trans (by
    simp only [jn_eq, ref04_Valid_j1_eq m]
    rfl)
theorem ref04_Valid_eq (m : Nat) (a0 : List Dt) : e10 jn m [] [] ⟨[(.dat 45 (.lst a0))], [], 0⟩ = ref04_Valid (m + 1) a0 := by
  have h : ∀ J, e10 J m [] [] ⟨[(.dat 45 (.lst a0))], [], 0⟩ =
    (bif (decide ((((List.length a0) : Nat) : Int) < (1 : Int))) then
      some Bool.false
    else
      (bif (decide ((16 : Int) < (((List.length a0) : Nat) : Int))) then
        some Bool.false
      else
        (J 0 3 0 ⟨tsOf [(0, (.dat 45 (.lst a0)))], [], 0⟩ (e10 J m [1, 1] [] ⟨tsOf [(0, (.dat 45 (.lst a0)))], [], 0⟩)))) := fun J => by kernel_rfl
  refine (h jn).trans ?_
  simp only [jn_eq, ref04_Valid_j0_eq m]
  rfl
noncomputable def d3 (q : Res) : Option (Int) := match q with
  | (.dat T0 x0, []) => bif Nat.beq T0 23 then some x0.toInt else none
  | _ => none
theorem d3_sim {b : Res} {r : Int} (h : d3 b = some r) : Sim Tryd.prog b ((.dat 23 (.int r)), []) := by
  unfold d3 at h
  split at h
  · obtain ⟨hc, h2⟩ := bif_some h
    cases h2
    have e0 := beq_eq hc
    subst e0
    exact Sim.of (.of (.dat (.int Tryd.underlying23)) rfl rfl) .nil
  · cases h
noncomputable def e3 (J : Nat → Nat → Nat → St → Option (Int) → Option (Int)) (m : Nat) (p ms : List Nat) (σ : St) := evAt Tryd.prog env (ct m) J (m + 1) 11 37 Tryd.f11 d3 p ms σ
noncomputable def l3 (J : Nat → Nat → Nat → St → Option (Int) → Option (Int)) (m : Nat) (p ms : List Nat) (M : Nat) (σ : St) := loopAt Tryd.prog env (ct m) J (m + 1) 11 37 Tryd.f11 d3 p ms M σ
theorem ref12_Valid_j8_eq (m : Nat) (M2 : Nat) (rec2 : List Dt → Int → Option (Int)) (h2 : ∀ (x0 : List Dt) (x1 : Int), l3 jn m [1, 1, 0, 1, 0] [] M2 ⟨tsOf [(0, (.dat 22 (.lst x0))), (3, (.dat 3 (.int x1)))], [], 0⟩ = rec2 x0 x1) (M6 : Nat) (rec6 : List Dt → Int → Int → Option (Int)) (h6 : ∀ (x0 : List Dt) (x1 : Int) (x2 : Int), l3 jn m [1, 1, 0, 1, 0, 0, 1, 0, 0, 1, 1, 0] [M2] M6 ⟨tsOf [(0, (.dat 22 (.lst x0))), (3, (.dat 3 (.int x1))), (4, (.dat 3 (.int x2)))], [], 0⟩ = rec6 x0 x1 x2) (x0 : List Dt) (x1 : Int) (x2 : Int) : e3 jn m [1, 1, 0, 1, 0, 0, 1, 0, 0, 1, 1, 0, 0, 1, 1] [M2, M6] ⟨tsOf [(0, (.dat 22 (.lst x0))), (3, (.dat 3 (.int x1))), (4, (.dat 3 (.int x2)))], [], 0⟩ = ref12_Valid_j8 m rec2 rec6 x0 x1 x2 := by
  have h : ∀ J, e3 J m [1, 1, 0, 1, 0, 0, 1, 0, 0, 1, 1, 0, 0, 1, 1] [M2, M6] ⟨tsOf [(0, (.dat 22 (.lst x0))), (3, (.dat 3 (.int x1))), (4, (.dat 3 (.int x2)))], [], 0⟩ =
    (J 1 9 M6 ⟨tsOf [(0, (.dat 22 (.lst x0))), (3, (.dat 3 (.int x1))), (4, (.dat 3 (.int (IntKind.wrap IntKind.i64 (x2 + (1 : Int))))))], [], 0⟩ (l3 J m [1, 1, 0, 1, 0, 0, 1, 0, 0, 1, 1, 0] [M2] M6 ⟨tsOf [(0, (.dat 22 (.lst x0))), (3, (.dat 3 (.int x1))), (4, (.dat 3 (.int (IntKind.wrap IntKind.i64 (x2 + (1 : Int))))))], [], 0⟩)) := fun J => by kernel_rfl
  exact (h jn).trans (by
    simp only [jn_eq, h6]
    rfl)
theorem ref12_Valid_j7_eq (m : Nat) (M2 : Nat) (rec2 : List Dt → Int → Option (Int)) (h2 : ∀ (x0 : List Dt) (x1 : Int), l3 jn m [1, 1, 0, 1, 0] [] M2 ⟨tsOf [(0, (.dat 22 (.lst x0))), (3, (.dat 3 (.int x1)))], [], 0⟩ = rec2 x0 x1) (M6 : Nat) (rec6 : List Dt → Int → Int → Option (Int)) (h6 : ∀ (x0 : List Dt) (x1 : Int) (x2 : Int), l3 jn m [1, 1, 0, 1, 0, 0, 1, 0, 0, 1, 1, 0] [M2] M6 ⟨tsOf [(0, (.dat 22 (.lst x0))), (3, (.dat 3 (.int x1))), (4, (.dat 3 (.int x2)))], [], 0⟩ = rec6 x0 x1 x2) (x0 : List Dt) (x1 : Int) (x2 : Int) : e3 jn m [1, 1, 0, 1, 0, 0, 1, 0, 0, 1, 1, 0, 0, 1] [M2, M6] ⟨tsOf [(0, (.dat 22 (.lst x0))), (3, (.dat 3 (.int x1))), (4, (.dat 3 (.int x2)))], [], 0⟩ = ref12_Valid_j7 m rec2 rec6 x0 x1 x2 := by
  have h : ∀ J, e3 J m [1, 1, 0, 1, 0, 0, 1, 0, 0, 1, 1, 0, 0, 1] [M2, M6] ⟨tsOf [(0, (.dat 22 (.lst x0))), (3, (.dat 3 (.int x1))), (4, (.dat 3 (.int x2)))], [], 0⟩ =
    ((idx x0 x1).bind fun v2 =>
      ((idx x0 x2).bind fun v3 =>
        ((ref12_same m (Dt.L v2 0) (Dt.L v3 0)).bind fun r4 =>
          (bif r4 then
            some (12 : Int)
          else
            (J 0 10 0 ⟨tsOf [(0, (.dat 22 (.lst x0))), (3, (.dat 3 (.int x1))), (4, (.dat 3 (.int x2)))], [], 0⟩ (e3 J m [1, 1, 0, 1, 0, 0, 1, 0, 0, 1, 1, 0, 0, 1, 1] [M2, M6] ⟨tsOf [(0, (.dat 22 (.lst x0))), (3, (.dat 3 (.int x1))), (4, (.dat 3 (.int x2)))], [], 0⟩)))))) := fun J => by kernel_rfl
  exact (h jn).trans (by
    simp only [jn_eq, ref12_Valid_j8_eq m M2 rec2 h2 M6 rec6 h6]
    rfl)
theorem ref12_Valid_j9_eq (m : Nat) (M2 : Nat) (rec2 : List Dt → Int → Option (Int)) (h2 : ∀ (x0 : List Dt) (x1 : Int), l3 jn m [1, 1, 0, 1, 0] [] M2 ⟨tsOf [(0, (.dat 22 (.lst x0))), (3, (.dat 3 (.int x1)))], [], 0⟩ = rec2 x0 x1) (x0 : List Dt) (x1 : Int) : e3 jn m [1, 1, 0, 1, 0, 0, 1, 1] [M2] ⟨tsOf [(0, (.dat 22 (.lst x0))), (3, (.dat 3 (.int x1)))], [], 0⟩ = ref12_Valid_j9 m rec2 x0 x1 := by
  have h : ∀ J, e3 J m [1, 1, 0, 1, 0, 0, 1, 1] [M2] ⟨tsOf [(0, (.dat 22 (.lst x0))), (3, (.dat 3 (.int x1)))], [], 0⟩ =
    (J 1 4 M2 ⟨tsOf [(0, (.dat 22 (.lst x0))), (3, (.dat 3 (.int (IntKind.wrap IntKind.i64 (x1 + (1 : Int))))))], [], 0⟩ (l3 J m [1, 1, 0, 1, 0] [] M2 ⟨tsOf [(0, (.dat 22 (.lst x0))), (3, (.dat 3 (.int (IntKind.wrap IntKind.i64 (x1 + (1 : Int))))))], [], 0⟩)) := fun J => by kernel_rfl
  exact (h jn).trans (by
    simp only [jn_eq, h2]
    rfl)
theorem ref12_Valid_l6_eq (m : Nat) (M2 : Nat) (rec2 : List Dt → Int → Option (Int)) (h2 : ∀ (x0 : List Dt) (x1 : Int), l3 jn m [1, 1, 0, 1, 0] [] M2 ⟨tsOf [(0, (.dat 22 (.lst x0))), (3, (.dat 3 (.int x1)))], [], 0⟩ = rec2 x0 x1) : ∀ (M6 : Nat) (x0 : List Dt) (x1 : Int) (x2 : Int), l3 jn m [1, 1, 0, 1, 0, 0, 1, 0, 0, 1, 1, 0] [M2] M6 ⟨tsOf [(0, (.dat 22 (.lst x0))), (3, (.dat 3 (.int x1))), (4, (.dat 3 (.int x2)))], [], 0⟩ = ref12_Valid_l6 m rec2 M6 x0 x1 x2
  | 0, _, _, _ => rfl
  | M6 + 1, x0, x1, x2 => by
    have h : ∀ J, l3 J m [1, 1, 0, 1, 0, 0, 1, 0, 0, 1, 1, 0] [M2] (M6 + 1) ⟨tsOf [(0, (.dat 22 (.lst x0))), (3, (.dat 3 (.int x1))), (4, (.dat 3 (.int x2)))], [], 0⟩ =
    (bif (decide (x2 < x1)) then
      (J 0 11 0 ⟨tsOf [(0, (.dat 22 (.lst x0))), (3, (.dat 3 (.int x1))), (4, (.dat 3 (.int x2)))], [], 0⟩ (e3 J m [1, 1, 0, 1, 0, 0, 1, 0, 0, 1, 1, 0, 0, 1] [M2, M6] ⟨tsOf [(0, (.dat 22 (.lst x0))), (3, (.dat 3 (.int x1))), (4, (.dat 3 (.int x2)))], [], 0⟩))
    else
      (J 0 5 0 ⟨tsOf [(0, (.dat 22 (.lst x0))), (3, (.dat 3 (.int x1)))], [], 0⟩ (e3 J m [1, 1, 0, 1, 0, 0, 1, 1] [M2] ⟨tsOf [(0, (.dat 22 (.lst x0))), (3, (.dat 3 (.int x1)))], [], 0⟩))) := fun J => by kernel_rfl
    refine (h jn).trans ?_
    simp only [jn_eq, ref12_Valid_j7_eq m M2 rec2 h2 M6 (ref12_Valid_l6 m rec2 M6) (fun x0 x1 x2 => ref12_Valid_l6_eq m M2 rec2 h2 M6 x0 x1 x2), ref12_Valid_j9_eq m M2 rec2 h2]
    rfl
theorem ref12_Valid_j5_eq (m : Nat) (M2 : Nat) (rec2 : List Dt → Int → Option (Int)) (h2 : ∀ (x0 : List Dt) (x1 : Int), l3 jn m [1, 1, 0, 1, 0] [] M2 ⟨tsOf [(0, (.dat 22 (.lst x0))), (3, (.dat 3 (.int x1)))], [], 0⟩ = rec2 x0 x1) (x0 : List Dt) (x1 : Int) (x2 : Int) : e3 jn m [1, 1, 0, 1, 0, 0, 1, 0, 0, 1, 1] [M2] ⟨tsOf [(0, (.dat 22 (.lst x0))), (3, (.dat 3 (.int x1))), (4, (.dat 3 (.int x2)))], [], 0⟩ = ref12_Valid_j5 m rec2 x0 x1 x2 := by
  have h : ∀ J, e3 J m [1, 1, 0, 1, 0, 0, 1, 0, 0, 1, 1] [M2] ⟨tsOf [(0, (.dat 22 (.lst x0))), (3, (.dat 3 (.int x1))), (4, (.dat 3 (.int x2)))], [], 0⟩ =
    (J 1 9 (Nat.succ m) ⟨tsOf [(0, (.dat 22 (.lst x0))), (3, (.dat 3 (.int x1))), (4, (.dat 3 (.int x2)))], [], 0⟩ (l3 J m [1, 1, 0, 1, 0, 0, 1, 0, 0, 1, 1, 0] [M2] (Nat.succ m) ⟨tsOf [(0, (.dat 22 (.lst x0))), (3, (.dat 3 (.int x1))), (4, (.dat 3 (.int x2)))], [], 0⟩)) := fun J => by kernel_rfl
  exact (h jn).trans (by
    simp only [jn_eq, ref12_Valid_l6_eq m M2 rec2 h2]
    rfl)
theorem ref12_Valid_j4_eq (m : Nat) (M2 : Nat) (rec2 : List Dt → Int → Option (Int)) (h2 : ∀ (x0 : List Dt) (x1 : Int), l3 jn m [1, 1, 0, 1, 0] [] M2 ⟨tsOf [(0, (.dat 22 (.lst x0))), (3, (.dat 3 (.int x1)))], [], 0⟩ = rec2 x0 x1) (x0 : List Dt) (x1 : Int) : e3 jn m [1, 1, 0, 1, 0, 0, 1, 0, 0, 1] [M2] ⟨tsOf [(0, (.dat 22 (.lst x0))), (3, (.dat 3 (.int x1)))], [], 0⟩ = ref12_Valid_j4 m rec2 x0 x1 := by
  have h : ∀ J, e3 J m [1, 1, 0, 1, 0, 0, 1, 0, 0, 1] [M2] ⟨tsOf [(0, (.dat 22 (.lst x0))), (3, (.dat 3 (.int x1)))], [], 0⟩ =
    (J 0 9 0 ⟨tsOf [(0, (.dat 22 (.lst x0))), (3, (.dat 3 (.int x1))), (4, (.dat 3 (.int (0 : Int))))], [], 0⟩ (e3 J m [1, 1, 0, 1, 0, 0, 1, 0, 0, 1, 1] [M2] ⟨tsOf [(0, (.dat 22 (.lst x0))), (3, (.dat 3 (.int x1))), (4, (.dat 3 (.int (0 : Int))))], [], 0⟩)) := fun J => by kernel_rfl
  exact (h jn).trans (by
    simp only [jn_eq, ref12_Valid_j5_eq m M2 rec2 h2]
    rfl)
theorem ref12_Valid_j3_eq (m : Nat) (M2 : Nat) (rec2 : List Dt → Int → Option (Int)) (h2 : ∀ (x0 : List Dt) (x1 : Int), l3 jn m [1, 1, 0, 1, 0] [] M2 ⟨tsOf [(0, (.dat 22 (.lst x0))), (3, (.dat 3 (.int x1)))], [], 0⟩ = rec2 x0 x1) (x0 : List Dt) (x1 : Int) : e3 jn m [1, 1, 0, 1, 0, 0, 1] [M2] ⟨tsOf [(0, (.dat 22 (.lst x0))), (3, (.dat 3 (.int x1)))], [], 0⟩ = ref12_Valid_j3 m rec2 x0 x1 := by
  have h : ∀ J, e3 J m [1, 1, 0, 1, 0, 0, 1] [M2] ⟨tsOf [(0, (.dat 22 (.lst x0))), (3, (.dat 3 (.int x1)))], [], 0⟩ =
    ((idx x0 x1).bind fun v0 =>
      ((ref04_Valid m (Dt.L v0 0)).bind fun r1 =>
        (bif (Bool.not r1) then
          some (10 : Int)
        else
          (J 0 8 0 ⟨tsOf [(0, (.dat 22 (.lst x0))), (3, (.dat 3 (.int x1)))], [], 0⟩ (e3 J m [1, 1, 0, 1, 0, 0, 1, 0, 0, 1] [M2] ⟨tsOf [(0, (.dat 22 (.lst x0))), (3, (.dat 3 (.int x1)))], [], 0⟩))))) := fun J => by kernel_rfl
  exact (h jn).trans (by
    simp only [jn_eq, ref12_Valid_j4_eq m M2 rec2 h2]
    rfl)
theorem ref12_Valid_j10_eq (m : Nat) : e3 jn m [1, 1, 1] [] ⟨tsOf [], [], 0⟩ = ref12_Valid_j10 m := by
  have h : ∀ J, e3 J m [1, 1, 1] [] ⟨tsOf [], [], 0⟩ =
    some (0 : Int) := fun J => by kernel_rfl
  exact (h jn).trans (rfl)
theorem ref12_Valid_l2_eq (m : Nat) : ∀ (M2 : Nat) (x0 : List Dt) (x1 : Int), l3 jn m [1, 1, 0, 1, 0] [] M2 ⟨tsOf [(0, (.dat 22 (.lst x0))), (3, (.dat 3 (.int x1)))], [], 0⟩ = ref12_Valid_l2 m M2 x0 x1
  | 0, _, _ => rfl
  | M2 + 1, x0, x1 => by
    have h : ∀ J, l3 J m [1, 1, 0, 1, 0] [] (M2 + 1) ⟨tsOf [(0, (.dat 22 (.lst x0))), (3, (.dat 3 (.int x1)))], [], 0⟩ =
    (bif (decide (x1 < (((List.length x0) : Nat) : Int))) then
      (J 0 6 0 ⟨tsOf [(0, (.dat 22 (.lst x0))), (3, (.dat 3 (.int x1)))], [], 0⟩ (e3 J m [1, 1, 0, 1, 0, 0, 1] [M2] ⟨tsOf [(0, (.dat 22 (.lst x0))), (3, (.dat 3 (.int x1)))], [], 0⟩))
    else
      (J 0 13 0 ⟨tsOf [], [], 0⟩ (e3 J m [1, 1, 1] [] ⟨tsOf [], [], 0⟩))) := fun J => by kernel_rfl
    refine (h jn).trans ?_
    simp only [jn_eq, ref12_Valid_j3_eq m M2 (ref12_Valid_l2 m M2) (fun x0 x1 => ref12_Valid_l2_eq m M2 x0 x1), ref12_Valid_j10_eq m]
    rfl
theorem ref12_Valid_j1_eq (m : Nat) (x0 : List Dt) (x1 : Int) : e3 jn m [1, 1, 0, 1] [] ⟨tsOf [(0, (.dat 22 (.lst x0))), (3, (.dat 3 (.int x1)))], [], 0⟩ = ref12_Valid_j1 m x0 x1 := by
  have h : ∀ J, e3 J m [1, 1, 0, 1] [] ⟨tsOf [(0, (.dat 22 (.lst x0))), (3, (.dat 3 (.int x1)))], [], 0⟩ =
    (J 1 4 (Nat.succ m) ⟨tsOf [(0, (.dat 22 (.lst x0))), (3, (.dat 3 (.int x1)))], [], 0⟩ (l3 J m [1, 1, 0, 1, 0] [] (Nat.succ m) ⟨tsOf [(0, (.dat 22 (.lst x0))), (3, (.dat 3 (.int x1)))], [], 0⟩)) := fun J => by kernel_rfl
  exact (h jn).trans (by
    simp only [jn_eq, ref12_Valid_l2_eq m]
    rfl)
theorem ref12_Valid_j0_eq (m : Nat) (x0 : List Dt) : e3 jn m [1, 1] [] ⟨tsOf [(0, (.dat 22 (.lst x0)))], [], 0⟩ = ref12_Valid_j0 m x0 := by
  have h : ∀ J, e3 J m [1, 1] [] ⟨tsOf [(0, (.dat 22 (.lst x0)))], [], 0⟩ =
    (J 0 4 0 ⟨tsOf [(0, (.dat 22 (.lst x0))), (3, (.dat 3 (.int (0 : Int))))], [], 0⟩ (e3 J m [1, 1, 0, 1] [] ⟨tsOf [(0, (.dat 22 (.lst x0))), (3, (.dat 3 (.int (0 : Int))))], [], 0⟩)) := fun J => by kernel_rfl
  exact (h jn).trans (by
    simp only [jn_eq, ref12_Valid_j1_eq m]
    rfl)
theorem ref12_Valid_eq (m : Nat) (a0 : List Dt) : e3 jn m [] [] ⟨[(.dat 22 (.lst a0))], [], 0⟩ = ref12_Valid (m + 1) a0 := by
  have h : ∀ J, e3 J m [] [] ⟨[(.dat 22 (.lst a0))], [], 0⟩ =
    (bif (decide ((8 : Int) < (((List.length a0) : Nat) : Int))) then
      some (2 : Int)
    else
      (J 0 3 0 ⟨tsOf [(0, (.dat 22 (.lst a0)))], [], 0⟩ (e3 J m [1, 1] [] ⟨tsOf [(0, (.dat 22 (.lst a0)))], [], 0⟩))) := fun J => by kernel_rfl
  refine (h jn).trans ?_
  simp only [jn_eq, ref12_Valid_j0_eq m]
  rfl
noncomputable def d0 (q : Res) : Option (Bool) := match q with
  | (.dat T0 x0, []) => bif Nat.beq T0 4 then some x0.toBool else none
  | _ => none
theorem d0_sim {b : Res} {r : Bool} (h : d0 b = some r) : Sim Tryd.prog b ((.dat 4 (.bool r)), []) := by
  unfold d0 at h
  split at h
  · obtain ⟨hc, h2⟩ := bif_some h
    cases h2
    have e0 := beq_eq hc
    subst e0
    exact Sim.of (.of (.dat (.bool Tryd.underlying4)) rfl rfl) .nil
  · cases h
noncomputable def e0 (J : Nat → Nat → Nat → St → Option (Bool) → Option (Bool)) (m : Nat) (p ms : List Nat) (σ : St) := evAt Tryd.prog env (ct m) J (m + 1) 3 11 Tryd.f3 d0 p ms σ
noncomputable def l0 (J : Nat → Nat → Nat → St → Option (Bool) → Option (Bool)) (m : Nat) (p ms : List Nat) (M : Nat) (σ : St) := loopAt Tryd.prog env (ct m) J (m + 1) 3 11 Tryd.f3 d0 p ms M σ
theorem law12_OrderValid_eq (m : Nat) (a0 : List Dt) : e0 jn m [] [] ⟨[(.dat 22 (.lst a0))], [], 0⟩ = law12_OrderValid (m + 1) a0 := by
  have h : ∀ J, e0 J m [] [] ⟨[(.dat 22 (.lst a0))], [], 0⟩ =
    ((order_Valid m a0).bind fun r0 =>
      ((ref12_Valid m a0).bind fun r1 =>
        (bif (r0 == r1) then
          ((awakeC).bind fun r2 =>
            some r2)
        else
          some Bool.false))) := fun J => by kernel_rfl
  refine (h jn).trans ?_
  
  rfl
noncomputable def d19 (q : Res) : Option (List Dt) := match q with
  | (.dat T0 x0, []) => bif Nat.beq T0 45 then some x0.toLst else none
  | _ => none
theorem d19_sim {b : Res} {r : List Dt} (h : d19 b = some r) : Sim Tryd.prog b ((.dat 45 (.lst r)), []) := by
  unfold d19 at h
  split at h
  · obtain ⟨hc, h2⟩ := bif_some h
    cases h2
    have e0 := beq_eq hc
    subst e0
    exact Sim.of (.of (.dat (.lst Tryd.underlying45)) rfl rfl) .nil
  · cases h
noncomputable def e19 (J : Nat → Nat → Nat → St → Option (List Dt) → Option (List Dt)) (m : Nat) (p ms : List Nat) (σ : St) := evAt Tryd.prog env (ct m) J (m + 1) 46 31 Tryd.f46 d19 p ms σ
noncomputable def l19 (J : Nat → Nat → Nat → St → Option (List Dt) → Option (List Dt)) (m : Nat) (p ms : List Nat) (M : Nat) (σ : St) := loopAt Tryd.prog env (ct m) J (m + 1) 46 31 Tryd.f46 d19 p ms M σ
theorem ref04_split_j3_eq (m : Nat) (M1 : Nat) (rec1 : ByteArray → Int → Int → List Dt → Option (List Dt)) (h1 : ∀ (x0 : ByteArray) (x1 : Int) (x2 : Int) (x3 : List Dt), l19 jn m [1, 1, 1, 0, 1, 0] [] M1 ⟨tsOf [(0, (.dat 9 (.str x0))), (3, (.row 0)), (4, (.dat 3 (.int x1))), (5, (.dat 3 (.int x2)))], [(.row 45 x3)], 0⟩ = rec1 x0 x1 x2 x3) (x0 : ByteArray) (x1 : Int) (x2 : Int) (x3 : List Dt) : e19 jn m [1, 1, 1, 0, 1, 0, 0, 1, 1] [M1] ⟨tsOf [(0, (.dat 9 (.str x0))), (3, (.row 0)), (4, (.dat 3 (.int x1))), (5, (.dat 3 (.int x2)))], [(.row 45 x3)], 0⟩ = ref04_split_j3 m rec1 x0 x1 x2 x3 := by
  have h : ∀ J, e19 J m [1, 1, 1, 0, 1, 0, 0, 1, 1] [M1] ⟨tsOf [(0, (.dat 9 (.str x0))), (3, (.row 0)), (4, (.dat 3 (.int x1))), (5, (.dat 3 (.int x2)))], [(.row 45 x3)], 0⟩ =
    (J 1 4 M1 ⟨tsOf [(0, (.dat 9 (.str x0))), (3, (.row 0)), (4, (.dat 3 (.int x1))), (5, (.dat 3 (.int (IntKind.wrap IntKind.i64 (x2 + (1 : Int))))))], [(.row 45 x3)], 0⟩ (l19 J m [1, 1, 1, 0, 1, 0] [] M1 ⟨tsOf [(0, (.dat 9 (.str x0))), (3, (.row 0)), (4, (.dat 3 (.int x1))), (5, (.dat 3 (.int (IntKind.wrap IntKind.i64 (x2 + (1 : Int))))))], [(.row 45 x3)], 0⟩)) := fun J => by kernel_rfl
  exact (h jn).trans (by
    simp only [jn_eq, h1]
    rfl)
theorem ref04_split_j2_eq (m : Nat) (M1 : Nat) (rec1 : ByteArray → Int → Int → List Dt → Option (List Dt)) (h1 : ∀ (x0 : ByteArray) (x1 : Int) (x2 : Int) (x3 : List Dt), l19 jn m [1, 1, 1, 0, 1, 0] [] M1 ⟨tsOf [(0, (.dat 9 (.str x0))), (3, (.row 0)), (4, (.dat 3 (.int x1))), (5, (.dat 3 (.int x2)))], [(.row 45 x3)], 0⟩ = rec1 x0 x1 x2 x3) (x0 : ByteArray) (x1 : Int) (x2 : Int) (x3 : List Dt) : e19 jn m [1, 1, 1, 0, 1, 0, 0, 1] [M1] ⟨tsOf [(0, (.dat 9 (.str x0))), (3, (.row 0)), (4, (.dat 3 (.int x1))), (5, (.dat 3 (.int x2)))], [(.row 45 x3)], 0⟩ = ref04_split_j2 m rec1 x0 x1 x2 x3 := by
  have h : ∀ J, e19 J m [1, 1, 1, 0, 1, 0, 0, 1] [M1] ⟨tsOf [(0, (.dat 9 (.str x0))), (3, (.row 0)), (4, (.dat 3 (.int x1))), (5, (.dat 3 (.int x2)))], [(.row 45 x3)], 0⟩ =
    ((idxS x0 x2).bind fun v0 =>
      (bif (v0 == (46 : Int)) then
        ((cutS x0 x1 x2).bind fun v1 =>
          ((app x3 [(Dt.str v1)]).bind fun v2 =>
            (J 0 5 0 ⟨tsOf [(0, (.dat 9 (.str x0))), (3, (.row 0)), (4, (.dat 3 (.int (IntKind.wrap IntKind.i64 (x2 + (1 : Int)))))), (5, (.dat 3 (.int x2)))], [(.row 45 v2)], 0⟩ (e19 J m [1, 1, 1, 0, 1, 0, 0, 1, 1] [M1] ⟨tsOf [(0, (.dat 9 (.str x0))), (3, (.row 0)), (4, (.dat 3 (.int (IntKind.wrap IntKind.i64 (x2 + (1 : Int)))))), (5, (.dat 3 (.int x2)))], [(.row 45 v2)], 0⟩))))
      else
        (J 0 5 0 ⟨tsOf [(0, (.dat 9 (.str x0))), (3, (.row 0)), (4, (.dat 3 (.int x1))), (5, (.dat 3 (.int x2)))], [(.row 45 x3)], 0⟩ (e19 J m [1, 1, 1, 0, 1, 0, 0, 1, 1] [M1] ⟨tsOf [(0, (.dat 9 (.str x0))), (3, (.row 0)), (4, (.dat 3 (.int x1))), (5, (.dat 3 (.int x2)))], [(.row 45 x3)], 0⟩)))) := fun J => by kernel_rfl
  exact (h jn).trans (by
    simp only [jn_eq, ref04_split_j3_eq m M1 rec1 h1]
    rfl)
theorem ref04_split_j4_eq (m : Nat) (x0 : ByteArray) (x1 : Int) (x2 : List Dt) : e19 jn m [1, 1, 1, 1] [] ⟨tsOf [(0, (.dat 9 (.str x0))), (3, (.row 0)), (4, (.dat 3 (.int x1)))], [(.row 45 x2)], 0⟩ = ref04_split_j4 m x0 x1 x2 := by
  have h : ∀ J, e19 J m [1, 1, 1, 1] [] ⟨tsOf [(0, (.dat 9 (.str x0))), (3, (.row 0)), (4, (.dat 3 (.int x1)))], [(.row 45 x2)], 0⟩ =
    ((cutS x0 x1 (((ByteArray.size x0) : Nat) : Int)).bind fun v3 =>
      ((app x2 [(Dt.str v3)]).bind fun v4 =>
        some v4)) := fun J => by kernel_rfl
  exact (h jn).trans (rfl)
theorem ref04_split_l1_eq (m : Nat) : ∀ (M1 : Nat) (x0 : ByteArray) (x1 : Int) (x2 : Int) (x3 : List Dt), l19 jn m [1, 1, 1, 0, 1, 0] [] M1 ⟨tsOf [(0, (.dat 9 (.str x0))), (3, (.row 0)), (4, (.dat 3 (.int x1))), (5, (.dat 3 (.int x2)))], [(.row 45 x3)], 0⟩ = ref04_split_l1 m M1 x0 x1 x2 x3
  | 0, _, _, _, _ => rfl
  | M1 + 1, x0, x1, x2, x3 => by
    have h : ∀ J, l19 J m [1, 1, 1, 0, 1, 0] [] (M1 + 1) ⟨tsOf [(0, (.dat 9 (.str x0))), (3, (.row 0)), (4, (.dat 3 (.int x1))), (5, (.dat 3 (.int x2)))], [(.row 45 x3)], 0⟩ =
    (bif (decide (x2 < (((ByteArray.size x0) : Nat) : Int))) then
      (J 0 6 0 ⟨tsOf [(0, (.dat 9 (.str x0))), (3, (.row 0)), (4, (.dat 3 (.int x1))), (5, (.dat 3 (.int x2)))], [(.row 45 x3)], 0⟩ (e19 J m [1, 1, 1, 0, 1, 0, 0, 1] [M1] ⟨tsOf [(0, (.dat 9 (.str x0))), (3, (.row 0)), (4, (.dat 3 (.int x1))), (5, (.dat 3 (.int x2)))], [(.row 45 x3)], 0⟩))
    else
      (J 0 9 0 ⟨tsOf [(0, (.dat 9 (.str x0))), (3, (.row 0)), (4, (.dat 3 (.int x1)))], [(.row 45 x3)], 0⟩ (e19 J m [1, 1, 1, 1] [] ⟨tsOf [(0, (.dat 9 (.str x0))), (3, (.row 0)), (4, (.dat 3 (.int x1)))], [(.row 45 x3)], 0⟩))) := fun J => by kernel_rfl
    refine (h jn).trans ?_
    simp only [jn_eq, ref04_split_j2_eq m M1 (ref04_split_l1 m M1) (fun x0 x1 x2 x3 => ref04_split_l1_eq m M1 x0 x1 x2 x3), ref04_split_j4_eq m]
    rfl
theorem ref04_split_j0_eq (m : Nat) (x0 : ByteArray) (x1 : Int) (x2 : Int) (x3 : List Dt) : e19 jn m [1, 1, 1, 0, 1] [] ⟨tsOf [(0, (.dat 9 (.str x0))), (3, (.row 0)), (4, (.dat 3 (.int x1))), (5, (.dat 3 (.int x2)))], [(.row 45 x3)], 0⟩ = ref04_split_j0 m x0 x1 x2 x3 := by
  have h : ∀ J, e19 J m [1, 1, 1, 0, 1] [] ⟨tsOf [(0, (.dat 9 (.str x0))), (3, (.row 0)), (4, (.dat 3 (.int x1))), (5, (.dat 3 (.int x2)))], [(.row 45 x3)], 0⟩ =
    (J 1 4 (Nat.succ m) ⟨tsOf [(0, (.dat 9 (.str x0))), (3, (.row 0)), (4, (.dat 3 (.int x1))), (5, (.dat 3 (.int x2)))], [(.row 45 x3)], 0⟩ (l19 J m [1, 1, 1, 0, 1, 0] [] (Nat.succ m) ⟨tsOf [(0, (.dat 9 (.str x0))), (3, (.row 0)), (4, (.dat 3 (.int x1))), (5, (.dat 3 (.int x2)))], [(.row 45 x3)], 0⟩)) := fun J => by kernel_rfl
  exact (h jn).trans (by
    simp only [jn_eq, ref04_split_l1_eq m]
    rfl)
theorem ref04_split_eq (m : Nat) (a0 : ByteArray) : e19 jn m [] [] ⟨[(.dat 9 (.str a0))], [], 0⟩ = ref04_split (m + 1) a0 := by
  have h : ∀ J, e19 J m [] [] ⟨[(.dat 9 (.str a0))], [], 0⟩ =
    (J 0 4 0 ⟨tsOf [(0, (.dat 9 (.str a0))), (3, (.row 0)), (4, (.dat 3 (.int (0 : Int)))), (5, (.dat 3 (.int (0 : Int))))], [(.row 45 [])], 0⟩ (e19 J m [1, 1, 1, 0, 1] [] ⟨tsOf [(0, (.dat 9 (.str a0))), (3, (.row 0)), (4, (.dat 3 (.int (0 : Int)))), (5, (.dat 3 (.int (0 : Int))))], [(.row 45 [])], 0⟩)) := fun J => by kernel_rfl
  refine (h jn).trans ?_
  simp only [jn_eq, ref04_split_j0_eq m]
  rfl
noncomputable def d13 (q : Res) : Option (List Dt × Int) := match q with
  | (.tup [.dat T0 x0, .dat T1 x1], []) => bif (Nat.beq T0 45 && Nat.beq T1 23) then some (x0.toLst, x1.toInt) else none
  | _ => none
theorem d13_sim {b : Res} {r : List Dt × Int} (h : d13 b = some r) : Sim Tryd.prog b ((.tup [(.dat 45 (.lst r.1)), (.dat 23 (.int r.2))]), []) := by
  unfold d13 at h
  split at h
  · obtain ⟨hc, h2⟩ := bif_some h
    cases h2
    have e0 := beq_eq (and_l hc)
    have e1 := beq_eq (and_r hc)
    subst e0 e1
    exact Sim.of (.tup (.cons (.dat (.lst Tryd.underlying45)) (.cons (.dat (.int Tryd.underlying23)) .nil))) .nil
  · cases h
noncomputable def e13 (J : Nat → Nat → Nat → St → Option (List Dt × Int) → Option (List Dt × Int)) (m : Nat) (p ms : List Nat) (σ : St) := evAt Tryd.prog env (ct m) J (m + 1) 35 11 Tryd.f35 d13 p ms σ
noncomputable def l13 (J : Nat → Nat → Nat → St → Option (List Dt × Int) → Option (List Dt × Int)) (m : Nat) (p ms : List Nat) (M : Nat) (σ : St) := loopAt Tryd.prog env (ct m) J (m + 1) 35 11 Tryd.f35 d13 p ms M σ
theorem ref04_Parse_j0_eq (m : Nat) (x0 : List Dt) : e13 jn m [1, 1, 1] [] ⟨tsOf [(4, (.dat 45 (.lst x0)))], [], 0⟩ = ref04_Parse_j0 m x0 := by
  have h : ∀ J, e13 J m [1, 1, 1] [] ⟨tsOf [(4, (.dat 45 (.lst x0)))], [], 0⟩ =
    some (x0, (0 : Int)) := fun J => by kernel_rfl
  exact (h jn).trans (rfl)
theorem ref04_Parse_eq (m : Nat) (a0 : ByteArray) : e13 jn m [] [] ⟨[(.dat 9 (.str a0))], [], 0⟩ = ref04_Parse (m + 1) a0 := by
  have h : ∀ J, e13 J m [] [] ⟨[(.dat 9 (.str a0))], [], 0⟩ =
    ((ref04_split m a0).bind fun r0 =>
      ((ref04_Valid m r0).bind fun r1 =>
        (bif (Bool.not r1) then
          some ([], (10 : Int))
        else
          (J 0 4 0 ⟨tsOf [(4, (.dat 45 (.lst r0)))], [], 0⟩ (e13 J m [1, 1, 1] [] ⟨tsOf [(4, (.dat 45 (.lst r0)))], [], 0⟩))))) := fun J => by kernel_rfl
  refine (h jn).trans ?_
  simp only [jn_eq, ref04_Parse_j0_eq m]
  rfl
noncomputable def d6 (q : Res) : Option (List Dt × Int) := match q with
  | (.tup [.dat T0 x0, .dat T1 x1], []) => bif (Nat.beq T0 22 && Nat.beq T1 23) then some (x0.toLst, x1.toInt) else none
  | _ => none
theorem d6_sim {b : Res} {r : List Dt × Int} (h : d6 b = some r) : Sim Tryd.prog b ((.tup [(.dat 22 (.lst r.1)), (.dat 23 (.int r.2))]), []) := by
  unfold d6 at h
  split at h
  · obtain ⟨hc, h2⟩ := bif_some h
    cases h2
    have e0 := beq_eq (and_l hc)
    have e1 := beq_eq (and_r hc)
    subst e0 e1
    exact Sim.of (.tup (.cons (.dat (.lst Tryd.underlying22)) (.cons (.dat (.int Tryd.underlying23)) .nil))) .nil
  · cases h
noncomputable def e6 (J : Nat → Nat → Nat → St → Option (List Dt × Int) → Option (List Dt × Int)) (m : Nat) (p ms : List Nat) (σ : St) := evAt Tryd.prog env (ct m) J (m + 1) 14 66 Tryd.f14 d6 p ms σ
noncomputable def l6 (J : Nat → Nat → Nat → St → Option (List Dt × Int) → Option (List Dt × Int)) (m : Nat) (p ms : List Nat) (M : Nat) (σ : St) := loopAt Tryd.prog env (ct m) J (m + 1) 14 66 Tryd.f14 d6 p ms M σ
theorem ref12_Parse_j6_eq (m : Nat) (M2 : Nat) (rec2 : Int → Dt → List Dt → Option (List Dt × Int)) (h2 : ∀ (x0 : Int) (x1 : Dt) (x2 : List Dt), l6 jn m [1, 1, 1, 0, 1, 0] [] M2 ⟨tsOf [(1, (.ptr 0 [] 0)), (4, (.row 1)), (5, (.dat 3 (.int x0)))], [(.box 30 (.dat 30 x1)), (.row 22 x2)], 0⟩ = rec2 x0 x1 x2) (x0 : Int) (x1 : Dt) (x2 : List Dt) : e6 jn m [1, 1, 1, 0, 1, 0, 0, 1, 1] [M2] ⟨tsOf [(1, (.ptr 0 [] 0)), (4, (.row 1)), (5, (.dat 3 (.int x0)))], [(.box 30 (.dat 30 x1)), (.row 22 x2)], 0⟩ = ref12_Parse_j6 m rec2 x0 x1 x2 := by
  have h : ∀ J, e6 J m [1, 1, 1, 0, 1, 0, 0, 1, 1] [M2] ⟨tsOf [(1, (.ptr 0 [] 0)), (4, (.row 1)), (5, (.dat 3 (.int x0)))], [(.box 30 (.dat 30 x1)), (.row 22 x2)], 0⟩ =
    (J 1 5 M2 ⟨tsOf [(1, (.ptr 0 [] 0)), (4, (.row 1)), (5, (.dat 3 (.int (IntKind.wrap IntKind.i64 (x0 + (1 : Int))))))], [(.box 30 (.dat 30 x1)), (.row 22 x2)], 0⟩ (l6 J m [1, 1, 1, 0, 1, 0] [] M2 ⟨tsOf [(1, (.ptr 0 [] 0)), (4, (.row 1)), (5, (.dat 3 (.int (IntKind.wrap IntKind.i64 (x0 + (1 : Int))))))], [(.box 30 (.dat 30 x1)), (.row 22 x2)], 0⟩)) := fun J => by kernel_rfl
  exact (h jn).trans (by
    simp only [jn_eq, h2]
    rfl)
theorem ref12_Parse_j5_eq (m : Nat) (M2 : Nat) (rec2 : Int → Dt → List Dt → Option (List Dt × Int)) (h2 : ∀ (x0 : Int) (x1 : Dt) (x2 : List Dt), l6 jn m [1, 1, 1, 0, 1, 0] [] M2 ⟨tsOf [(1, (.ptr 0 [] 0)), (4, (.row 1)), (5, (.dat 3 (.int x0)))], [(.box 30 (.dat 30 x1)), (.row 22 x2)], 0⟩ = rec2 x0 x1 x2) (x0 : Int) (x1 : List Dt) (x2 : Dt) (x3 : List Dt) (x4 : Dt) : e6 jn m [1, 1, 1, 0, 1, 0, 0, 1, 0, 0, 1, 1, 1, 1] [M2] ⟨tsOf [(1, (.ptr 0 [] 0)), (4, (.row 1)), (5, (.dat 3 (.int x0))), (6, (.dat 45 (.lst x1))), (8, (.ptr 2 [] 0))], [(.box 30 (.dat 30 x2)), (.row 22 x3), (.box 30 (.dat 30 x4))], 0⟩ = ref12_Parse_j5 m rec2 x0 x1 x2 x3 x4 := by
  have h : ∀ J, e6 J m [1, 1, 1, 0, 1, 0, 0, 1, 0, 0, 1, 1, 1, 1] [M2] ⟨tsOf [(1, (.ptr 0 [] 0)), (4, (.row 1)), (5, (.dat 3 (.int x0))), (6, (.dat 45 (.lst x1))), (8, (.ptr 2 [] 0))], [(.box 30 (.dat 30 x2)), (.row 22 x3), (.box 30 (.dat 30 x4))], 0⟩ =
    ((app x3 [(Dt.agg [(Dt.lst x1), (Dt.bool ((Dt.I x4 1) == (-1 : Int)))])]).bind fun v3 =>
      (J 0 6 0 ⟨tsOf [(1, (.ptr 0 [] 0)), (4, (.row 1)), (5, (.dat 3 (.int x0)))], [(.box 30 (.dat 30 x2)), (.row 22 v3)], 0⟩ (e6 J m [1, 1, 1, 0, 1, 0, 0, 1, 1] [M2] ⟨tsOf [(1, (.ptr 0 [] 0)), (4, (.row 1)), (5, (.dat 3 (.int x0)))], [(.box 30 (.dat 30 x2)), (.row 22 v3)], 0⟩))) := fun J => by kernel_rfl
  exact (h jn).trans (by
    simp only [jn_eq, ref12_Parse_j6_eq m M2 rec2 h2]
    rfl)
theorem ref12_Parse_j4_eq (m : Nat) (M2 : Nat) (rec2 : Int → Dt → List Dt → Option (List Dt × Int)) (h2 : ∀ (x0 : Int) (x1 : Dt) (x2 : List Dt), l6 jn m [1, 1, 1, 0, 1, 0] [] M2 ⟨tsOf [(1, (.ptr 0 [] 0)), (4, (.row 1)), (5, (.dat 3 (.int x0)))], [(.box 30 (.dat 30 x1)), (.row 22 x2)], 0⟩ = rec2 x0 x1 x2) (x0 : Int) (x1 : List Dt) (x2 : Dt) (x3 : List Dt) : e6 jn m [1, 1, 1, 0, 1, 0, 0, 1, 0, 0, 1, 1] [M2] ⟨tsOf [(1, (.ptr 0 [] 0)), (4, (.row 1)), (5, (.dat 3 (.int x0))), (6, (.dat 45 (.lst x1)))], [(.box 30 (.dat 30 x2)), (.row 22 x3)], 0⟩ = ref12_Parse_j4 m rec2 x0 x1 x2 x3 := by
  have h : ∀ J, e6 J m [1, 1, 1, 0, 1, 0, 0, 1, 0, 0, 1, 1] [M2] ⟨tsOf [(1, (.ptr 0 [] 0)), (4, (.row 1)), (5, (.dat 3 (.int x0))), (6, (.dat 45 (.lst x1)))], [(.box 30 (.dat 30 x2)), (.row 22 x3)], 0⟩ =
    ((idx (Dt.L x2 4) x0).bind fun v2 =>
      (bif ((Dt.I (Dt.fld v2 1) 0) != (3 : Int)) then
        some ([], (4 : Int))
      else
        (bif ((Dt.I (Dt.fld v2 1) 1) != (1 : Int)) then
          (bif ((Dt.I (Dt.fld v2 1) 1) != (-1 : Int)) then
            some ([], (4 : Int))
          else
            (J 0 13 0 ⟨tsOf [(1, (.ptr 0 [] 0)), (4, (.row 1)), (5, (.dat 3 (.int x0))), (6, (.dat 45 (.lst x1))), (8, (.ptr 2 [] 0))], [(.box 30 (.dat 30 x2)), (.row 22 x3), (.box 30 (.dat 30 (Dt.fld v2 1)))], 0⟩ (e6 J m [1, 1, 1, 0, 1, 0, 0, 1, 0, 0, 1, 1, 1, 1] [M2] ⟨tsOf [(1, (.ptr 0 [] 0)), (4, (.row 1)), (5, (.dat 3 (.int x0))), (6, (.dat 45 (.lst x1))), (8, (.ptr 2 [] 0))], [(.box 30 (.dat 30 x2)), (.row 22 x3), (.box 30 (.dat 30 (Dt.fld v2 1)))], 0⟩)))
        else
          (J 0 13 0 ⟨tsOf [(1, (.ptr 0 [] 0)), (4, (.row 1)), (5, (.dat 3 (.int x0))), (6, (.dat 45 (.lst x1))), (8, (.ptr 2 [] 0))], [(.box 30 (.dat 30 x2)), (.row 22 x3), (.box 30 (.dat 30 (Dt.fld v2 1)))], 0⟩ (e6 J m [1, 1, 1, 0, 1, 0, 0, 1, 0, 0, 1, 1, 1, 1] [M2] ⟨tsOf [(1, (.ptr 0 [] 0)), (4, (.row 1)), (5, (.dat 3 (.int x0))), (6, (.dat 45 (.lst x1))), (8, (.ptr 2 [] 0))], [(.box 30 (.dat 30 x2)), (.row 22 x3), (.box 30 (.dat 30 (Dt.fld v2 1)))], 0⟩))))) := fun J => by kernel_rfl
  exact (h jn).trans (by
    simp only [jn_eq, ref12_Parse_j5_eq m M2 rec2 h2]
    rfl)
theorem ref12_Parse_j3_eq (m : Nat) (M2 : Nat) (rec2 : Int → Dt → List Dt → Option (List Dt × Int)) (h2 : ∀ (x0 : Int) (x1 : Dt) (x2 : List Dt), l6 jn m [1, 1, 1, 0, 1, 0] [] M2 ⟨tsOf [(1, (.ptr 0 [] 0)), (4, (.row 1)), (5, (.dat 3 (.int x0)))], [(.box 30 (.dat 30 x1)), (.row 22 x2)], 0⟩ = rec2 x0 x1 x2) (x0 : Int) (x1 : Dt) (x2 : List Dt) : e6 jn m [1, 1, 1, 0, 1, 0, 0, 1] [M2] ⟨tsOf [(1, (.ptr 0 [] 0)), (4, (.row 1)), (5, (.dat 3 (.int x0)))], [(.box 30 (.dat 30 x1)), (.row 22 x2)], 0⟩ = ref12_Parse_j3 m rec2 x0 x1 x2 := by
  have h : ∀ J, e6 J m [1, 1, 1, 0, 1, 0, 0, 1] [M2] ⟨tsOf [(1, (.ptr 0 [] 0)), (4, (.row 1)), (5, (.dat 3 (.int x0)))], [(.box 30 (.dat 30 x1)), (.row 22 x2)], 0⟩ =
    ((idx (Dt.L x1 4) x0).bind fun v0 =>
      ((ref04_Parse m (Dt.S v0 0)).bind fun r1 =>
        (bif ((Prod.snd r1) != (0 : Int)) then
          some ([], (Prod.snd r1))
        else
          (J 0 10 0 ⟨tsOf [(1, (.ptr 0 [] 0)), (4, (.row 1)), (5, (.dat 3 (.int x0))), (6, (.dat 45 (.lst (Prod.fst r1))))], [(.box 30 (.dat 30 x1)), (.row 22 x2)], 0⟩ (e6 J m [1, 1, 1, 0, 1, 0, 0, 1, 0, 0, 1, 1] [M2] ⟨tsOf [(1, (.ptr 0 [] 0)), (4, (.row 1)), (5, (.dat 3 (.int x0))), (6, (.dat 45 (.lst (Prod.fst r1))))], [(.box 30 (.dat 30 x1)), (.row 22 x2)], 0⟩))))) := fun J => by kernel_rfl
  exact (h jn).trans (by
    simp only [jn_eq, ref12_Parse_j4_eq m M2 rec2 h2]
    rfl)
theorem ref12_Parse_j8_eq (m : Nat) (x0 : List Dt) : e6 jn m [1, 1, 1, 1, 1] [] ⟨tsOf [(4, (.row 0))], [(.row 22 x0)], 0⟩ = ref12_Parse_j8 m x0 := by
  have h : ∀ J, e6 J m [1, 1, 1, 1, 1] [] ⟨tsOf [(4, (.row 0))], [(.row 22 x0)], 0⟩ =
    some (x0, (0 : Int)) := fun J => by kernel_rfl
  exact (h jn).trans (rfl)
theorem ref12_Parse_j7_eq (m : Nat) (x0 : List Dt) : e6 jn m [1, 1, 1, 1] [] ⟨tsOf [(4, (.row 0))], [(.row 22 x0)], 0⟩ = ref12_Parse_j7 m x0 := by
  have h : ∀ J, e6 J m [1, 1, 1, 1] [] ⟨tsOf [(4, (.row 0))], [(.row 22 x0)], 0⟩ =
    ((ref12_Valid m x0).bind fun r4 =>
      (bif (r4 != (0 : Int)) then
        some ([], r4)
      else
        (J 0 17 0 ⟨tsOf [(4, (.row 0))], [(.row 22 x0)], 0⟩ (e6 J m [1, 1, 1, 1, 1] [] ⟨tsOf [(4, (.row 0))], [(.row 22 x0)], 0⟩)))) := fun J => by kernel_rfl
  exact (h jn).trans (by
    simp only [jn_eq, ref12_Parse_j8_eq m]
    rfl)
theorem ref12_Parse_l2_eq (m : Nat) : ∀ (M2 : Nat) (x0 : Int) (x1 : Dt) (x2 : List Dt), l6 jn m [1, 1, 1, 0, 1, 0] [] M2 ⟨tsOf [(1, (.ptr 0 [] 0)), (4, (.row 1)), (5, (.dat 3 (.int x0)))], [(.box 30 (.dat 30 x1)), (.row 22 x2)], 0⟩ = ref12_Parse_l2 m M2 x0 x1 x2
  | 0, _, _, _ => rfl
  | M2 + 1, x0, x1, x2 => by
    have h : ∀ J, l6 J m [1, 1, 1, 0, 1, 0] [] (M2 + 1) ⟨tsOf [(1, (.ptr 0 [] 0)), (4, (.row 1)), (5, (.dat 3 (.int x0)))], [(.box 30 (.dat 30 x1)), (.row 22 x2)], 0⟩ =
    (bif (decide (x0 < (((List.length (Dt.L x1 4)) : Nat) : Int))) then
      (J 0 7 0 ⟨tsOf [(1, (.ptr 0 [] 0)), (4, (.row 1)), (5, (.dat 3 (.int x0)))], [(.box 30 (.dat 30 x1)), (.row 22 x2)], 0⟩ (e6 J m [1, 1, 1, 0, 1, 0, 0, 1] [M2] ⟨tsOf [(1, (.ptr 0 [] 0)), (4, (.row 1)), (5, (.dat 3 (.int x0)))], [(.box 30 (.dat 30 x1)), (.row 22 x2)], 0⟩))
    else
      (J 0 14 0 ⟨tsOf [(4, (.row 0))], [(.row 22 x2)], 0⟩ (e6 J m [1, 1, 1, 1] [] ⟨tsOf [(4, (.row 0))], [(.row 22 x2)], 0⟩))) := fun J => by kernel_rfl
    refine (h jn).trans ?_
    simp only [jn_eq, ref12_Parse_j3_eq m M2 (ref12_Parse_l2 m M2) (fun x0 x1 x2 => ref12_Parse_l2_eq m M2 x0 x1 x2), ref12_Parse_j7_eq m]
    rfl
theorem ref12_Parse_j1_eq (m : Nat) (x0 : Int) (x1 : Dt) (x2 : List Dt) : e6 jn m [1, 1, 1, 0, 1] [] ⟨tsOf [(1, (.ptr 0 [] 0)), (4, (.row 1)), (5, (.dat 3 (.int x0)))], [(.box 30 (.dat 30 x1)), (.row 22 x2)], 0⟩ = ref12_Parse_j1 m x0 x1 x2 := by
  have h : ∀ J, e6 J m [1, 1, 1, 0, 1] [] ⟨tsOf [(1, (.ptr 0 [] 0)), (4, (.row 1)), (5, (.dat 3 (.int x0)))], [(.box 30 (.dat 30 x1)), (.row 22 x2)], 0⟩ =
    (J 1 5 (Nat.succ m) ⟨tsOf [(1, (.ptr 0 [] 0)), (4, (.row 1)), (5, (.dat 3 (.int x0)))], [(.box 30 (.dat 30 x1)), (.row 22 x2)], 0⟩ (l6 J m [1, 1, 1, 0, 1, 0] [] (Nat.succ m) ⟨tsOf [(1, (.ptr 0 [] 0)), (4, (.row 1)), (5, (.dat 3 (.int x0)))], [(.box 30 (.dat 30 x1)), (.row 22 x2)], 0⟩)) := fun J => by kernel_rfl
  exact (h jn).trans (by
    simp only [jn_eq, ref12_Parse_l2_eq m]
    rfl)
theorem ref12_Parse_j0_eq (m : Nat) (x0 : Dt) : e6 jn m [1, 1] [] ⟨tsOf [(1, (.ptr 0 [] 0))], [(.box 30 (.dat 30 x0))], 0⟩ = ref12_Parse_j0 m x0 := by
  have h : ∀ J, e6 J m [1, 1] [] ⟨tsOf [(1, (.ptr 0 [] 0))], [(.box 30 (.dat 30 x0))], 0⟩ =
    (J 0 5 0 ⟨tsOf [(1, (.ptr 0 [] 0)), (4, (.row 1)), (5, (.dat 3 (.int (0 : Int))))], [(.box 30 (.dat 30 x0)), (.row 22 [])], 0⟩ (e6 J m [1, 1, 1, 0, 1] [] ⟨tsOf [(1, (.ptr 0 [] 0)), (4, (.row 1)), (5, (.dat 3 (.int (0 : Int))))], [(.box 30 (.dat 30 x0)), (.row 22 [])], 0⟩)) := fun J => by kernel_rfl
  exact (h jn).trans (by
    simp only [jn_eq, ref12_Parse_j1_eq m]
    rfl)
theorem ref12_Parse_eq (m : Nat) (a0 : Dt) : e6 jn m [] [] ⟨[(.dat 30 a0)], [], 0⟩ = ref12_Parse (m + 1) a0 := by
  have h : ∀ J, e6 J m [] [] ⟨[(.dat 30 a0)], [], 0⟩ =
    (bif ((Dt.I a0 0) != (5 : Int)) then
      some ([], (4 : Int))
    else
      (J 0 3 0 ⟨tsOf [(1, (.ptr 0 [] 0))], [(.box 30 (.dat 30 a0))], 0⟩ (e6 J m [1, 1] [] ⟨tsOf [(1, (.ptr 0 [] 0))], [(.box 30 (.dat 30 a0))], 0⟩))) := fun J => by kernel_rfl
  refine (h jn).trans ?_
  simp only [jn_eq, ref12_Parse_j0_eq m]
  rfl
noncomputable def d1 (q : Res) : Option (Bool) := match q with
  | (.dat T0 x0, []) => bif Nat.beq T0 4 then some x0.toBool else none
  | _ => none
theorem d1_sim {b : Res} {r : Bool} (h : d1 b = some r) : Sim Tryd.prog b ((.dat 4 (.bool r)), []) := by
  unfold d1 at h
  split at h
  · obtain ⟨hc, h2⟩ := bif_some h
    cases h2
    have e0 := beq_eq hc
    subst e0
    exact Sim.of (.of (.dat (.bool Tryd.underlying4)) rfl rfl) .nil
  · cases h
noncomputable def e1 (J : Nat → Nat → Nat → St → Option (Bool) → Option (Bool)) (m : Nat) (p ms : List Nat) (σ : St) := evAt Tryd.prog env (ct m) J (m + 1) 4 33 Tryd.f4 d1 p ms σ
noncomputable def l1 (J : Nat → Nat → Nat → St → Option (Bool) → Option (Bool)) (m : Nat) (p ms : List Nat) (M : Nat) (σ : St) := loopAt Tryd.prog env (ct m) J (m + 1) 4 33 Tryd.f4 d1 p ms M σ
theorem law12_OrderParse_j0_eq (m : Nat) (x0 : Dt) : e1 jn m [1, 1] [] ⟨tsOf [(1, (.ptr 0 [] 0))], [(.box 30 (.dat 30 x0))], 0⟩ = law12_OrderParse_j0 m x0 := by
  have h : ∀ J, e1 J m [1, 1] [] ⟨tsOf [(1, (.ptr 0 [] 0))], [(.box 30 (.dat 30 x0))], 0⟩ =
    ((order_Parse m x0).bind fun r1 =>
      ((ref12_Parse m x0).bind fun r2 =>
        (bif ((Prod.snd r1) == (Prod.snd r2)) then
          ((law12_Same m (Prod.fst r1) (Prod.fst r2)).bind fun r3 =>
            (bif r3 then
              ((awakeC).bind fun r4 =>
                some r4)
            else
              some Bool.false))
        else
          some Bool.false))) := fun J => by kernel_rfl
  exact (h jn).trans (rfl)
theorem law12_OrderParse_eq (m : Nat) (a0 : Dt) : e1 jn m [] [] ⟨[(.dat 30 a0)], [], 0⟩ = law12_OrderParse (m + 1) a0 := by
  have h : ∀ J, e1 J m [] [] ⟨[(.dat 30 a0)], [], 0⟩ =
    (bif (decide ((100 : Int) < (((List.length (Dt.L a0 4)) : Nat) : Int))) then
      ((awakeC).bind fun r0 =>
        some r0)
    else
      (J 0 3 0 ⟨tsOf [(1, (.ptr 0 [] 0))], [(.box 30 (.dat 30 a0))], 0⟩ (e1 J m [1, 1] [] ⟨tsOf [(1, (.ptr 0 [] 0))], [(.box 30 (.dat 30 a0))], 0⟩))) := fun J => by kernel_rfl
  refine (h jn).trans ?_
  simp only [jn_eq, law12_OrderParse_j0_eq m]
  rfl
end Go.Proofs.YtacchdeihafmnaaDoor
